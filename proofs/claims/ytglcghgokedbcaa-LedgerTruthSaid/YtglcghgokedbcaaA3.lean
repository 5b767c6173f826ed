/- The newest blocks of the abstract heap dropped; what lay in them is never written again. The newest blocks of the abstract heap dropped: states and steps. States that say less; functions. Calls: a contract on data alone, used where there is a heap; rows lent, or given away. What the evaluator knows of a program's types: computed, and right for every program. The doors: a function's contract from the evaluator; a contract put to use. The evaluator's rules, one by one, as the simplifier is to use them. None of them is proved by 'rfl' alone: a congruence theorem of the simplifier asks for a proof's term. The evaluator's rules: operations. -/
import Derived.Test.YtglcghgokedbcaaA2
import Derived.RangeFuncRecord
import Derived.Laws.StructEq
set_option linter.unusedSimpArgs false
set_option linter.unusedVariables false

section
namespace Go.Aw
open Go

mutual
/-- All blocks that a value names are among the first n. -/
def VB (n : Nat) : V → Bool
  | .ptr id _ => decide (id < n)
  | .ref id _ _ _ => decide (id < n)
  | .ep id _ _ _ => decide (id < n)
  | .csl id _ _ => decide (id < n)
  | .fn (.yield id) _ _ => decide (id < n)
  | .fn _ x y => VBs n x && VBs n y
  | .agg l => VBs n l
  | .tup l => VBs n l
  | _ => true
def VBs (n : Nat) : List V → Bool
  | [] => true
  | v :: r => VB n v && VBs n r
end

def BB (n : Nat) : Blk → Prop
  | .cells cs => VBs n cs = true
  | .arr _ _ _ => True
  | .loop _ _ E _ _ _ => ∀ t, VB n (Env.look E t) = true

def BBs (n : Nat) : List Blk → Prop
  | [] => True
  | b :: r => BB n b ∧ BBs n r

theorem BBs_all {n : Nat} : ∀ {l : List Blk}, BBs n l → ∀ x ∈ l, BB n x
  | [], _, x, hx => by cases hx
  | b :: r, h, x, hx => by
    rcases List.mem_cons.1 hx with rfl | hx
    · exact h.1
    · exact BBs_all h.2 x hx

/-- What lies in a cell, as data, without the blocks from n on. -/
def pubD (n : Nat) (H : Heap) (v : V) : Option D :=
  match v with
  | .ref id m lo len => if id < n then none else match H[id]? with
    | some (.arr _ _ els) => if els.length = m then some (.sl ((els.drop lo).take len)) else none
    | _ => none
  | v => toD v

def pubDs (n : Nat) (H : Heap) : List V → Option (List D)
  | [] => some []
  | v :: r => match pubD n H v, pubDs n H r with
    | some x, some l => some (x :: l)
    | _, _ => none

mutual
/-- A value, without the blocks from n on. -/
def pubV (n : Nat) (H : Heap) : V → Option V
  | .ref id m lo len => if id < n then some (.ref id m lo len) else match H[id]? with
    | some (.arr _ _ els) => if els.length = m then some (.d (.sl ((els.drop lo).take len))) else none
    | _ => none
  | .ptr id off => if id < n then some (.ptr id off) else match H[id]? with
    | some (.cells cs) => match toDs cs with
      | some ds => some (.pp (ds.drop off))
      | none => none
    | _ => none
  | .ep id m i off => if id < n then some (.ep id m i off) else none
  | .csl id es len => if id < n then some (.csl id es len) else match H[id]? with
    | some (.cells cs) => match pubDs n H cs with
      | some ds => if es = 1 then some (.d (.sl ds)) else none
      | none => none
    | _ => none
  | .fn (.yield id) x y => if id < n then some (.fn (.yield id) x y) else none
  | .fn f x y => match pubVs n H x, pubVs n H y with
    | some x', some y' => some (.fn f x' y')
    | _, _ => none
  | .agg l => match pubVs n H l with
    | some l' => if l'.all V.one = true then some (norm l') else none
    | none => none
  | .tup l => match pubVs n H l with
    | some l' => some (.tup l')
    | none => none
  | v => some v
def pubVs (n : Nat) (H : Heap) : List V → Option (List V)
  | [] => some []
  | v :: r => match pubV n H v, pubVs n H r with
    | some v', some r' => some (v' :: r')
    | _, _ => none
end

section
variable {g g' : G} {H H' : Heap} {w : World} {n : Nat}

theorem Zk.same (h : ∀ b o, g.Z b o → g'.Z b o) : Zk g.Z g'.Z w w := fun b o z => ⟨h b o z, rfl⟩

mutual
theorem VB_cut (hz : ∀ b o, g.Z b o → g'.Z b o) (hc : ∀ id, id < n → H'[id]? = H[id]? ∧ g'.φ[id]? = g.φ[id]?) : ∀ (x : V) (v : Value), VB n x = true → VR g H w x v → VR g' H' w x v
  | .und, _, _, _ => by simp [VR]
  | .d x, v, _, h => by
    simp only [VR] at h ⊢
    exact DR_mono (Zk.same hz) h
  | .slx nl l, v, _, h => by
    simp only [VR] at h ⊢
    obtain ⟨a, h1, h2, h3, h4⟩ := h
    refine ⟨a, h1, h2, h3, fun ad had => ?_⟩
    obtain ⟨h5, sz, h6⟩ := h4 ad had
    exact ⟨h5, sz, DCe_mono (Zk.same hz) l _ _ _ h6⟩
  | .ptr id off, v, hb, h => by
    simp only [VB, decide_eq_true_eq] at hb
    obtain ⟨e1, e2⟩ := hc id hb
    simpa only [VR, e1, e2] using h
  | .pp cs, v, _, h => by
    simp only [VR] at h ⊢
    obtain ⟨a, vs, h1, h2, h3, h4⟩ := h
    exact ⟨a, vs, h1, h2, fun j hj => ⟨hz _ _ (h3 j hj).1, (h3 j hj).2⟩, DCs_mono (Zk.same hz) _ _ h4⟩
  | .ref id m lo len, v, hb, h => by
    simp only [VB, decide_eq_true_eq] at hb
    obtain ⟨e1, e2⟩ := hc id hb
    simpa only [VR, e1, e2] using h
  | .ep id m i off, v, hb, h => by
    simp only [VB, decide_eq_true_eq] at hb
    obtain ⟨e1, e2⟩ := hc id hb
    simpa only [VR, e1, e2] using h
  | .csl id es len, v, hb, h => by
    simp only [VB, decide_eq_true_eq] at hb
    obtain ⟨e1, e2⟩ := hc id hb
    simpa only [VR, e1, e2] using h
  | .fn f x y, v, hb, h => by
    cases f with
    | yield id =>
      simp only [VB, decide_eq_true_eq] at hb
      obtain ⟨e1, e2⟩ := hc id hb
      simpa only [VR, e1, e2] using h
    | _ =>
      simp only [VB, Bool.and_eq_true] at hb
      simp only [VR] at h ⊢
      obtain ⟨x', y', h1, h2, h3⟩ := h
      exact ⟨x', y', h1, VBs_cut hz hc x _ hb.1 h2, VBs_cut hz hc y _ hb.2 h3⟩
  | .agg l, v, hb, h => by
    simp only [VB] at hb
    simp only [VR] at h ⊢
    obtain ⟨cs, h1, h2⟩ := h
    exact ⟨cs, h1, VBs_cut hz hc l _ hb h2⟩
  | .tup l, v, hb, h => by
    simp only [VB] at hb
    simp only [VR] at h ⊢
    obtain ⟨cs, h1, h2⟩ := h
    exact ⟨cs, h1, VBs_cut hz hc l _ hb h2⟩
theorem VBs_cut (hz : ∀ b o, g.Z b o → g'.Z b o) (hc : ∀ id, id < n → H'[id]? = H[id]? ∧ g'.φ[id]? = g.φ[id]?) : ∀ (l : List V) (cs : List Value), VBs n l = true → VRs g H w l cs → VRs g' H' w l cs
  | [], _, _, h => by simpa [VRs] using h
  | d :: ds, cs, hb, h => by
    simp only [VBs, Bool.and_eq_true] at hb
    simp only [VRs] at h ⊢
    obtain ⟨c, r, h1, h2, h3⟩ := h
    exact ⟨c, r, h1, VB_cut hz hc d _ hb.1 h2, VBs_cut hz hc ds r hb.2 h3⟩
end

end
end Go.Aw
end

section
namespace Go.Aw
open Go

/-- The ghosts after the blocks from n on are dropped, and never written again. -/
def G.pub (g : G) (n : Nat) : G := ⟨fun b o => g.Z b o ∨ ∃ id : Nat, n ≤ id ∧ g.φ[id]? = some (some b), g.φ.take n⟩

section
variable {g : G} {H : Heap} {w : World} {n : Nat}

theorem pub_z (g : G) (n : Nat) : ∀ b o, g.Z b o → (g.pub n).Z b o := fun _ _ z => .inl z

theorem pub_cut (g : G) (H : Heap) (n : Nat) : ∀ id, id < n → (H.take n)[id]? = H[id]? ∧ (g.pub n).φ[id]? = g.φ[id]? :=
  fun _ h => ⟨List.getElem?_take_of_lt h, List.getElem?_take_of_lt h⟩

mutual
theorem VB_le {m k : Nat} (h : m ≤ k) : ∀ (x : V), VB m x = true → VB k x = true
  | .und, _ => rfl
  | .d x, _ => rfl
  | .slx nl l, _ => rfl
  | .pp cs, _ => rfl
  | .ptr id off, hb => by simp only [VB, decide_eq_true_eq] at hb ⊢; omega
  | .ref id _ lo len, hb => by simp only [VB, decide_eq_true_eq] at hb ⊢; omega
  | .ep id _ i off, hb => by simp only [VB, decide_eq_true_eq] at hb ⊢; omega
  | .csl id _ _, hb => by simp only [VB, decide_eq_true_eq] at hb ⊢; omega
  | .fn f x y, hb => by
    cases f with
    | yield id => simp only [VB, decide_eq_true_eq] at hb ⊢; omega
    | _ =>
      simp only [VB, Bool.and_eq_true] at hb ⊢
      exact ⟨VBs_le h x hb.1, VBs_le h y hb.2⟩
  | .agg l, hb => by simp only [VB] at hb ⊢; exact VBs_le h l hb
  | .tup l, hb => by simp only [VB] at hb ⊢; exact VBs_le h l hb
theorem VBs_le {m k : Nat} (h : m ≤ k) : ∀ (l : List V), VBs m l = true → VBs k l = true
  | [], _ => rfl
  | d :: ds, hb => by
    simp only [VBs, Bool.and_eq_true] at hb ⊢
    exact ⟨VB_le h d hb.1, VBs_le h ds hb.2⟩
end

mutual
theorem VR_VB : ∀ (x : V) (v : Value), VR g H w x v → VB H.length x = true
  | .und, _, _ => rfl
  | .d x, v, h => rfl
  | .slx nl l, v, h => rfl
  | .pp cs, v, h => rfl
  | .ptr id off, v, h => by
    simp only [VR] at h
    obtain ⟨b, cs, h0, _⟩ := h
    simpa [VB] using lt_of_getElem? h0
  | .ref id m lo len, v, h => by
    simp only [VR] at h
    obtain ⟨_, sz, nl, els, h0, _⟩ := h
    simpa [VB] using lt_of_getElem? h0
  | .ep id m i off, v, h => by
    simp only [VR] at h
    obtain ⟨_, sz, nl, els, h0, _⟩ := h
    simpa [VB] using lt_of_getElem? h0
  | .csl id es len, v, h => by
    simp only [VR] at h
    obtain ⟨b, cs, cap, h0, _⟩ := h
    simpa [VB] using lt_of_getElem? h0
  | .fn f x y, v, h => by
    cases f with
    | yield id =>
      simp only [VR] at h
      obtain ⟨_, _, b, st, pend, E, ps, p, q, h0, _⟩ := h
      simpa [VB] using lt_of_getElem? h0
    | _ =>
      simp only [VR] at h
      obtain ⟨x', y', _, h1, h2⟩ := h
      simp only [VB, Bool.and_eq_true]
      exact ⟨VRs_VBs x _ h1, VRs_VBs y _ h2⟩
  | .agg l, v, h => by
    simp only [VR] at h
    obtain ⟨cs, _, h1⟩ := h
    simpa [VB] using VRs_VBs l _ h1
  | .tup l, v, h => by
    simp only [VR] at h
    obtain ⟨cs, _, h1⟩ := h
    simpa [VB] using VRs_VBs l _ h1
theorem VRs_VBs : ∀ (l : List V) (cs : List Value), VRs g H w l cs → VBs H.length l = true
  | [], _, _ => rfl
  | d :: ds, cs, h => by
    simp only [VRs] at h
    obtain ⟨c, r, _, h1, h2⟩ := h
    simp only [VBs, Bool.and_eq_true]
    exact ⟨VR_VB d _ h1, VRs_VBs ds r h2⟩
end

/-- The first n blocks name none but themselves: or they are all. -/
def BBq (n : Nat) (H : Heap) : Prop := H.length ≤ n ∨ BBs n (H.take n)

theorem BBq_at (hr : HR g H w) (h : BBq n H) {id b : Nat} {x : Blk} (hid : id < n) (hφ : g.φ[id]? = some (some b)) (hx : H[id]? = some x) : BB n x := by
  rcases h with h | h
  · obtain ⟨_, _, h3⟩ := hr.blk id b _ hφ hx
    have up : ∀ v, VB H.length v = true → VB n v = true := fun v => VB_le h v
    have ups : ∀ v, VBs H.length v = true → VBs n v = true := fun v => VBs_le h v
    cases x with
    | cells cs => obtain ⟨vs, t, _, h4, _⟩ := h3; exact ups _ (VRs_VBs _ _ h4)
    | arr sz nl els => trivial
    | loop st pend E ps y z => obtain ⟨r, _, _, _, _, _, _, h7⟩ := h3; exact fun t => up _ (VR_VB _ _ (h7 t))
  · exact BBs_all h x (List.mem_of_getElem? (i := id) (by rw [List.getElem?_take_of_lt hid]; exact hx))

theorem HR_pub (hr : HR g H w) (hn : n ≤ H.length) (hb : BBq n H) : HR (g.pub n) (H.take n) w where
  len := by simp [G.pub, hr.len]
  zlt := fun b o z => by
    rcases z with z | ⟨id, _, h⟩
    · exact hr.zlt b o z
    · exact hr.lt h
  inj := fun i j b hi hj => by
    simp only [G.pub, List.getElem?_take] at hi hj
    split at hi
    · split at hj
      · exact hr.inj i j b hi hj
      · cases hj
    · cases hi
  blk := fun id b x hp hx => by
    have hid : id < n := by
      rcases Nat.lt_or_ge id n with h | h
      · exact h
      · rw [List.getElem?_take, if_neg (by omega)] at hx; cases hx
    obtain ⟨e1, e2⟩ := pub_cut g H n id hid
    rw [e2] at hp
    rw [e1] at hx
    have hbx := BBq_at hr hb hid hp hx
    obtain ⟨h1, h2, h3⟩ := hr.blk id b x hp hx
    refine ⟨h1, fun o z => ?_, ?_⟩
    · rcases z with z | ⟨id', hid', h'⟩
      · exact h2 o z
      · have := hr.inj _ _ _ hp h'; omega
    · cases x with
      | cells cs =>
        obtain ⟨vs, t, k1, k2, k3⟩ := h3
        exact ⟨vs, t, k1, VBs_cut (pub_z g n) (pub_cut g H n) _ _ hbx k2, k3⟩
      | arr sz nl els =>
        obtain ⟨k0, vs, t, k1, k2, k3⟩ := h3
        exact ⟨k0, vs, t, k1, k2, fun i x hx => ⟨(k3 i x hx).1, DC_mono (Zk.same (g := g) (g' := g.pub n) (pub_z g n)) _ _ (k3 i x hx).2⟩⟩
      | loop st pend E ps y z =>
        obtain ⟨r, k1, k2, k3, k4, k5, k6, k7⟩ := h3
        exact ⟨r, k1, k2, k3, k4, k5, k6, fun t => VB_cut (pub_z g n) (pub_cut g H n) _ _ (hbx t) (k7 t)⟩

theorem Kp.pub {g0 : G} {w0 : World} (hk : Kp g0 w0 g w) (n : Nat) : Kp g0 w0 (g.pub n) w where
  os := hk.os
  tape := hk.tape
  out := hk.out
  size := hk.size
  fr := hk.fr
  z := fun b o z => .inl (hk.z b o z)
  zn := fun b o z => by
    rcases z with z | ⟨id, _, h⟩
    · exact hk.zn b o z
    · rcases hk.pn id b h with h' | h'
      · exact .inr (.inr ⟨id, h'⟩)
      · exact .inr (.inl h')
  pn := fun id b h => by
    simp only [G.pub, List.getElem?_take] at h
    split at h
    · exact hk.pn id b h
    · cases h

theorem Ag_of_cut {g0 g' : G} {H0 H' : Heap} {w0 : World} (ha : Ag g0 H0 w0 g H w) (hc : ∀ id, id < H0.length → H'[id]? = H[id]? ∧ g'.φ[id]? = g.φ[id]?) : Ag g0 H0 w0 g' H' w := by
  intro id x hx
  obtain ⟨e1, e2⟩ := hc id (lt_of_getElem? hx)
  have := ha id x hx
  cases x <;> simpa only [e1, e2] using this

theorem AgN.pub {n0 : Nat} {g0 : G} {H0 : Heap} {w0 : World} (ha : AgN n0 g0 H0 w0 g H w) (hn0 : n0 ≤ n) (hn : n ≤ H.length) : AgN n0 g0 H0 w0 (g.pub n) (H.take n) w := by
  refine ⟨ha.1, by simp; omega, Ag_of_cut ha.2.2 fun id hid => ?_⟩
  simp only [List.length_take] at hid
  refine ⟨?_, (pub_cut g H n id (by omega)).2⟩
  rw [List.getElem?_take_of_lt (by omega), List.getElem?_take_of_lt (by omega), List.getElem?_take_of_lt (by omega)]

theorem pubDs_sound (hr : HR g H w) : ∀ (l : List V) (cs : List Value) (ds : List D), pubDs n H l = some ds → (∀ c ∈ l, c.one = true) → VRs g H w l cs → DCs w (g.pub n).Z ds cs
  | [], cs, ds, hp, _, h => by simp [pubDs] at hp; subst hp; simpa [VRs, DCs] using h
  | v :: r, cs, ds, hp, ho, h => by
    simp only [pubDs] at hp
    split at hp
    · rename_i x l hx hl
      simp at hp; subst hp
      simp only [VRs] at h
      obtain ⟨c, r', rfl, h1, h2⟩ := h
      refine ⟨c, r', rfl, ?_, pubDs_sound hr r r' l hl (fun y hy => ho y (List.mem_cons_of_mem _ hy)) h2⟩
      have hone := ho v List.mem_cons_self
      cases v with
      | ref id m lo len =>
        simp only [pubD] at hx
        split at hx
        · cases hx
        · rename_i hid
          split at hx
          · rename_i sz nl els he
            split at hx
            · rename_i hm
              simp at hx; subst hx
              exact ref_frozen hr (pub_z g n) he hm (fun b o hb => .inr ⟨id, by omega, hb⟩) h1
            · cases hx
          · cases hx
      | d x' =>
        simp [pubD, toD] at hx; subst hx
        simp only [VR] at h1
        exact DC_mono (Zk.same (g := g) (g' := g.pub n) (pub_z g n)) _ _ ((DR_one hone).1 h1)
      | slx nl l' =>
        simp [pubD, toD] at hx; subst hx
        have := toD_sound (x := .slx nl l') rfl h1
        exact DC_mono (Zk.same (g := g) (g' := g.pub n) (pub_z g n)) _ _ this
      | _ => simp [pubD, toD] at hx
    · cases hp

theorem DCs_DCe {Z : Nat → Nat → Prop} {b : Nat} {t : TypeId} {vs : Array Value} (hb : w.heap[b]? = some (.cells vs t (0, 0))) (hZ : ∀ o, Z b o) : ∀ (ds : List D) (k : Nat), DCs w Z ds (vs.toList.drop k) → DCe w Z ds b k 1
  | [], _, _ => by simp [DCe]
  | d :: ds, k, h => by
    simp only [DCs] at h
    obtain ⟨c, r, h1, h2, h3⟩ := h
    simp only [DCe]
    refine ⟨⟨[c], rfl, fun j hj => ⟨hZ _, ?_⟩, h2⟩, DCs_DCe hb hZ ds (k + 1) ?_⟩
    · obtain rfl : j = 0 := by omega
      rw [cell_of_block hb]
      have := congrArg (fun l => l[0]?) h1
      simpa using this
    · have := congrArg (fun l => l.drop 1) h1
      simp only [List.drop_drop, List.drop_succ_cons, List.drop_zero] at this
      rw [this]; exact h3

mutual
theorem pub_sound (hr : HR g H w) : ∀ (x : V) (v : Value) (x' : V), pubV n H x = some x' → VR g H w x v → VR (g.pub n) (H.take n) w x' v
  | .und, _, x', hp, _ => by simp [pubV] at hp; subst hp; simp [VR]
  | .d x, v, x', hp, h => by simp [pubV] at hp; subst hp; exact VB_cut (pub_z g n) (pub_cut g H n) _ _ rfl h
  | .slx nl l, v, x', hp, h => by simp [pubV] at hp; subst hp; exact VB_cut (pub_z g n) (pub_cut g H n) _ _ rfl h
  | .pp cs, v, x', hp, h => by simp [pubV] at hp; subst hp; exact VB_cut (pub_z g n) (pub_cut g H n) _ _ rfl h
  | .ptr id off, v, x', hp, h => by
    simp only [pubV] at hp
    split at hp
    · rename_i hid
      simp at hp; subst hp
      exact VB_cut (pub_z g n) (pub_cut g H n) _ _ (by simpa [VB] using hid) h
    · rename_i hid
      split at hp
      · rename_i cs hcs
        split at hp
        · rename_i ds hds
          simp at hp; subst hp
          simp only [VR] at h ⊢
          obtain ⟨b, cs', e1, e2, rfl⟩ := h
          rw [hcs] at e1; cases e1
          obtain ⟨_, _, vs, t, k1, k2, k3⟩ := hr.blk id b _ e2 hcs
          obtain ⟨k4, _⟩ := toDs_sound _ _ _ hds k3 k2
          refine ⟨_, vs.toList.drop off, rfl, rfl, fun j hj => ⟨.inr ⟨id, by omega, e2⟩, ?_⟩, ?_⟩
          · rw [cell_of_block k1]
            simp
          · exact DCs_drop off _ _ (DCs_mono (Zk.same (g := g) (g' := g.pub n) (pub_z g n)) _ _ k4)
        · cases hp
      · cases hp
  | .ref id m lo len, v, x', hp, h => by
    simp only [pubV] at hp
    split at hp
    · rename_i hid
      simp at hp; subst hp
      exact VB_cut (pub_z g n) (pub_cut g H n) _ _ (by simpa [VB] using hid) h
    · rename_i hid
      split at hp
      · rename_i sz nl els he
        split at hp
        · rename_i hm
          simp at hp; subst hp
          simp only [VR]
          exact ref_frozen hr (pub_z g n) he hm (fun b o hb => .inr ⟨id, by omega, hb⟩) h
        · cases hp
      · cases hp
  | .ep id m i off, v, x', hp, h => by
    simp only [pubV] at hp
    split at hp
    · rename_i hid
      simp at hp; subst hp
      exact VB_cut (pub_z g n) (pub_cut g H n) _ _ (by simpa [VB] using hid) h
    · cases hp
  | .csl id es len, v, x', hp, h => by
    simp only [pubV] at hp
    split at hp
    · rename_i hid
      simp at hp; subst hp
      exact VB_cut (pub_z g n) (pub_cut g H n) _ _ (by simpa [VB] using hid) h
    · rename_i hid
      split at hp
      · rename_i cs hcs
        split at hp
        · rename_i ds hds
          split at hp
          · rename_i hes
            simp at hp; subst hp; subst hes
            simp only [VR] at h ⊢
            obtain ⟨b, cs', cap, e1, e2, e3, rfl, e4⟩ := h
            rw [hcs] at e1; cases e1
            obtain ⟨_, _, vs, t, k1, k2, k3⟩ := hr.blk id b _ e2 hcs
            have k4 := pubDs_sound hr _ _ _ hds k3 k2
            have k5 := DCs_length _ _ k4
            have k6 := VRs_length _ _ k2
            simp only [DR, DC]
            refine ⟨_, len, cap, rfl, by omega, e4, (fun h => nomatch h), fun ad had => ?_⟩
            cases had
            exact ⟨fun _ => rfl, 1, DCs_DCe k1 (fun o => .inr ⟨id, by omega, e2⟩) _ 0 k4⟩
          · cases hp
        · cases hp
      · cases hp
  | .fn f x y, v, x', hp, h => by
    cases f with
    | yield id =>
      simp only [pubV] at hp
      split at hp
      · rename_i hid
        simp at hp; subst hp
        exact VB_cut (pub_z g n) (pub_cut g H n) _ _ (by simpa [VB] using hid) h
      · cases hp
    | _ =>
      simp only [pubV] at hp
      split at hp
      · rename_i x1 y1 hx hy
        simp at hp; subst hp
        simp only [VR] at h ⊢
        obtain ⟨x', y', h1, h2, h3⟩ := h
        exact ⟨x', y', h1, pubs_sound hr x _ _ hx h2, pubs_sound hr y _ _ hy h3⟩
      · cases hp
  | .agg l, v, x', hp, h => by
    simp only [pubV] at hp
    split at hp
    · rename_i l' hl
      split at hp
      · rename_i ho
        simp at hp; subst hp
        simp only [VR] at h
        obtain ⟨cs, rfl, h2⟩ := h
        have := norm_sound (List.all_eq_true.1 ho) (pubs_sound hr l _ _ hl h2)
        simpa using this
      · cases hp
    · cases hp
  | .tup l, v, x', hp, h => by
    simp only [pubV] at hp
    split at hp
    · rename_i l' hl
      simp at hp; subst hp
      simp only [VR] at h ⊢
      obtain ⟨cs, h1, h2⟩ := h
      exact ⟨cs, h1, pubs_sound hr l _ _ hl h2⟩
    · cases hp
theorem pubs_sound (hr : HR g H w) : ∀ (l : List V) (cs : List Value) (l' : List V), pubVs n H l = some l' → VRs g H w l cs → VRs (g.pub n) (H.take n) w l' cs
  | [], cs, l', hp, h => by simp [pubVs] at hp; subst hp; simpa [VRs] using h
  | d :: ds, cs, l', hp, h => by
    simp only [pubVs] at hp
    split at hp
    · rename_i d' ds' hd hds
      simp at hp; subst hp
      simp only [VRs] at h ⊢
      obtain ⟨c, r, h1, h2, h3⟩ := h
      exact ⟨c, r, h1, pub_sound hr d _ _ hd h2, pubs_sound hr ds _ _ hds h3⟩
    · cases hp
end

/-- A value that says less. -/
def VW (n : Nat) (H : Heap) (v v' : V) : Prop :=
  v' = .und ∨ (v = v' ∧ H.length ≤ n) ∨ pubV n H v = some v' ∨ ∃ nl l, v = .slx nl l ∧ (v' = .slx none l ∨ v' = .d (.sl l))

theorem VW_sound (hr : HR g H w) {v v' : V} {cv : Value} (h : VW n H v v') (hv : VR g H w v cv) : VR (g.pub n) (H.take n) w v' cv := by
  rcases h with rfl | ⟨rfl, h⟩ | h | ⟨nl, l, rfl, h⟩
  · trivial
  · exact VB_cut (pub_z g n) (pub_cut g H n) _ _ (VB_le h _ (VR_VB _ _ hv)) hv
  · exact pub_sound hr _ _ _ h hv
  · have := VB_cut (pub_z g n) (pub_cut g H n) _ _ rfl hv
    rcases h with rfl | rfl
    · simp only [VR] at this ⊢
      obtain ⟨a, h1, h2, h3⟩ := this
      exact ⟨a, h1, by simp, h3⟩
    · simp only [VR]
      exact toD_sound (x := .slx nl l) rfl this

/-- An environment that says less: what it lists. -/
def EW (n : Nat) (H : Heap) (E : Env) : Env → Prop
  | [] => True
  | (k, v) :: r => VW n H (E.look k) v ∧ EW n H E r

theorem EW_look {E : Env} : ∀ {E' : Env}, EW n H E E' → ∀ t, VW n H (E.look t) (E'.look t)
  | [], _, t => .inl rfl
  | (k, v) :: r, h, t => by
    simp only [Env.look]
    split
    · rename_i hk; subst hk; exact h.1
    · exact EW_look h.2 t

end
end Go.Aw
end

section
namespace Go.Aw
open Go

def CutTo (n0 : Nat) (E : Env) (H : Heap) (R : Env → Heap → Prop) : Prop :=
  ∃ E' n, n0 ≤ n ∧ n ≤ H.length ∧ BBq n H ∧ EW n H E E' ∧ R E' (H.take n)

section
variable {P : Program} {T : Nat → Ty} {hint : Nat → Bool} {N n0 : Nat} {r : Option Nat}

theorem Rel.pub {l : Option Nat} {m0 : Nat} {g : G} {E E' : Env} {H : Heap} {a : Act} {w : World} {n : Nat} (h : Rel N r l m0 g E H a w) (hr : ∀ id, r = some id → id < n) (hn : n ≤ H.length) (hb : BBq n H) (he : EW n H E E') :
    Rel N r l m0 (g.pub n) E' (H.take n) a w where
  hr := HR_pub h.hr hn hb
  er := fun t => VW_sound h.hr (EW_look he t) (h.er t)
  sz := h.sz
  rnd := by
    have := h.rnd
    cases r with
    | none => exact this
    | some id =>
      obtain ⟨b, st, pend, E, ps, x, y, h1, h2, h3⟩ := this
      obtain ⟨e1, e2⟩ := pub_cut g H n id (hr id rfl)
      exact ⟨b, st, pend, E, ps, x, y, h1, e2.trans h2, e1.trans h3⟩
  df := by
    obtain ⟨h0, rs, h1, h2, h3⟩ := h.df
    refine ⟨h0, rs, h1, h2, fun r hr => ⟨(h3 r hr).1, (h3 r hr).2.1, fun id hid => ?_⟩⟩
    simp only [G.pub, List.getElem?_take] at hid
    split at hid
    · exact (h3 r hr).2.2 id hid
    · cases hid

/-- What is left is said with less. -/
theorem AWP.cut {c : Code} {E : Env} {H : Heap} {Q Q' : Ex → Env → Heap → Prop} (h : AWP P N n0 r c E H Q) (hq : ∀ x E1 H1, n0 ≤ H1.length → Q x E1 H1 → CutTo n0 E1 H1 (Q' x)) : AWP P N n0 r c E H Q' := by
  refine ⟨h.1, h.2.1, fun g w a l m0 hrel => wpIn_mono (h.2.2 g w a l m0 hrel) ?_⟩
  rintro e a' w' ⟨x, E1, H1, g', h1, h2, h3, h4, h5⟩
  obtain ⟨E', n, k1, k2, k3, k4, k5⟩ := hq x E1 H1 h5.2.1 h2
  exact ⟨x, E', H1.take n, g'.pub n, h1, k5, h3.pub (fun id hid => Nat.lt_of_lt_of_le (h.2.1 id hid) k1) k2 k3 k4, h4.pub n, h5.pub k1 k2⟩

theorem Kp.of_pub {g g' : G} {w w' : World} {n : Nat} (h : Kp (g.pub n) w g' w') : Kp g w g' w' where
  os := h.os
  tape := h.tape
  out := h.out
  size := h.size
  fr := fun b hb hn => h.fr b hb fun id hid => by
    simp only [G.pub, List.getElem?_take] at hid
    split at hid
    · exact hn id hid
    · cases hid
  z := fun b o z => h.z b o (.inl z)
  zn := fun b o z => by
    rcases h.zn b o z with (h' | ⟨id, _, h'⟩) | h' | ⟨id, h'⟩
    · exact .inl h'
    · exact .inr (.inr ⟨id, h'⟩)
    · exact .inr (.inl h')
    · simp only [G.pub, List.getElem?_take] at h'
      split at h'
      · exact .inr (.inr ⟨id, h'⟩)
      · cases h'
  pn := fun id b hp => by
    rcases h.pn id b hp with h' | h'
    · simp only [G.pub, List.getElem?_take] at h'
      split at h'
      · exact .inl h'
      · cases h'
    · exact .inr h'

/-- What is there ahead is said with less. -/
theorem AWP.of_cut {c : Code} {E : Env} {H : Heap} {Q : Ex → Env → Heap → Prop} (hn : n0 ≤ H.length) (h : CutTo n0 E H fun E' H' => AWP P N n0 r c E' H' Q) : AWP P N n0 r c E H Q := by
  obtain ⟨E', n, k1, k2, k3, k4, k5⟩ := h
  refine ⟨hn, k5.2.1, fun g w a l m0 hrel => wpIn_mono (k5.2.2 (g.pub n) w a l m0 (hrel.pub (fun id hid => Nat.lt_of_lt_of_le (k5.2.1 id hid) k1) k2 k3 k4)) ?_⟩
  rintro e a' w' ⟨x, E1, H1, g', h1, h2, h3, h4, h5⟩
  refine ⟨x, E1, H1, g', h1, h2, h3, h4.of_pub, hn, h5.2.1, ?_⟩
  have := h5.2.2
  rw [List.take_take, Nat.min_eq_left k1] at this
  intro id x hx
  have hlt := lt_of_getElem? hx
  simp only [List.length_take] at hlt
  have e2 := (pub_cut g H n id (by omega)).2
  have := this id x hx
  cases x with
  | arr sz nl els =>
    obtain ⟨nl', els', f1, f2, f3⟩ := this
    exact ⟨nl', els', f1, f2, fun he => by
      obtain ⟨k1, k2, k3⟩ := f3 he
      exact ⟨k1, k2.trans e2, fun b vs t hb hw => k3 b vs t (e2.trans hb) hw⟩⟩
  | cells cs => exact ⟨this.1, this.2.trans e2⟩
  | loop st pend E ps y z => exact ⟨this.1, this.2.trans e2⟩

/-- A loop, by a relation that holds ahead of each round when all else is forgotten, and a number that falls. -/
theorem AWP.loopW {c : Code} {E : Env} {H : Heap} {Q : Ex → Env → Heap → Prop} (inv : Nat → Env → Heap → Prop) (k0 : Nat) (hn : n0 ≤ H.length) (hr : ∀ id, r = some id → id < n0) (h0 : CutTo n0 E H (inv k0))
    (round : ∀ k E H, n0 ≤ H.length → inv k E H → AWP P N n0 r c E H (thenEx (fun E' H' => ∃ j, j < k ∧ CutTo n0 E' H' (inv j)) Q)) : AWP P N n0 r (.loop c) E H Q := by
  refine AWP.loop (fun k E H => CutTo n0 E H (inv k)) k0 hn hr h0 fun k E1 H1 hn1 hi => ?_
  obtain ⟨E2, n2, j1, j2, j3, j4, j5⟩ := hi
  exact AWP.of_cut hn1 ⟨E2, n2, j1, j2, j3, j4, round k E2 _ (by simp; omega) j5⟩

/-! ### Functions -/

def envOf : Nat → List V → Env
  | _, [] => []
  | k, v :: r => (k, v) :: envOf (k + 1) r

def resV (T : Nat → Ty) (E : Env) (H : Heap) : List ResultVar → Option (List V)
  | [] => some []
  | .tmp t :: r => match resV T E H r with
    | some vs => some (E.look t :: vs)
    | none => none
  | .cell a t :: r => match aload (T t) H (E.look a), resV T E H r with
    | some v, some vs => some (v :: vs)
    | _, _ => none

def mkRes : List V → V
  | [v] => v
  | l => .tup l

/-- What a body must come to. -/
def FnPost (T : Nat → Ty) (rs : List ResultVar) (n : Nat) (Q : V → Heap → Prop) : Ex → Env → Heap → Prop
  | .exit _, _, _ => False
  | _, E, H => Som (resV T E H rs) fun vs => Som (pubV n H (mkRes vs)) fun v => BBq n H ∧ Q v (H.take n)

theorem look_envOf : ∀ (vs : List V) (k t : Nat), Env.look (envOf k vs) t = if k ≤ t then vs.getD (t - k) .und else .und
  | [], k, t => by simp [envOf, Env.look]
  | v :: r, k, t => by
    simp only [envOf, Env.look]
    by_cases h : k = t
    · subst h; simp
    · rw [if_neg h, look_envOf r (k + 1) t]
      by_cases h2 : k ≤ t
      · rw [if_pos h2, if_pos (by omega), show t - k = (t - (k + 1)) + 1 by omega]
        simp
      · rw [if_neg h2, if_neg (by omega)]

theorem VRs_get {g : G} {H : Heap} {w : World} : ∀ {l : List V} {cs : List Value} {i : Nat} {v : V}, VRs g H w l cs → l[i]? = some v → ∃ c, cs[i]? = some c ∧ VR g H w v c
  | [], _, _, _, _, h => by simp at h
  | d :: ds, cs, i, v, hv, h => by
    simp only [VRs] at hv
    obtain ⟨c, r, rfl, h2, h3⟩ := hv
    cases i with
    | zero => simp at h; subst h; exact ⟨c, rfl, h2⟩
    | succ i => simp at h; simpa using VRs_get h3 h

theorem run_loadVar_of {t : TypeId} {a : Addr} {v : Value} {w : World} (h : (Instr.loadAt t (.pointer (some a))).run P w = .ok v w) : (loadVar t a).run P w = .ok v w := by
  simpa [Instr.loadAt, sureAddr_run] using h

def res1 (tmps : Array Value) : ResultVar → Sem Value
  | .tmp t => pure (tmps.getD t undef)
  | .cell a t => do loadVar t (← asAddr (tmps.getD a undef))

theorem results_eq (fn : Func) (tmps : Array Value) : results fn tmps = (do let vs ← fn.results.mapM (res1 tmps); pure (if h : vs.size = 1 then vs[0] else .tuple vs)) := by
  unfold results
  congr 1

theorem res_sound (hT : TOK P T) {g : G} {H : Heap} {w : World} {E : Env} {tmps : Array Value} (hr : HR g H w) (he : ER g H w E tmps) : ∀ (rs : List ResultVar) (vs : List V), resV T E H rs = some vs →
    ∃ cs, (rs.mapM (res1 tmps)).run P w = .ok cs w ∧ VRs g H w vs cs
  | [], vs, h => by
    simp [resV] at h; subst h
    exact ⟨[], by simp [Sem.run_pure], rfl⟩
  | .tmp t :: r, vs, h => by
    simp only [resV] at h
    split at h
    · rename_i vs' hvs
      simp at h; subst h
      obtain ⟨cs, h1, h2⟩ := res_sound hT hr he r vs' hvs
      refine ⟨tmps.getD t undef :: cs, ?_, ⟨_, _, rfl, he t, h2⟩⟩
      simp [List.mapM_cons, h1, res1]
    · cases h
  | .cell a t :: r, vs, h => by
    simp only [resV] at h
    split at h
    · rename_i v vs' hv hvs
      simp at h; subst h
      obtain ⟨cs, h1, h2⟩ := res_sound hT hr he r vs' hvs
      obtain ⟨cv, h3, h4⟩ := aload_sound (hT t) hr (he a) hv
      have hp : ∃ ad, tmps.getD a undef = .pointer (some ad) := by
        have := he a
        revert hv this
        generalize Env.look E a = x
        intro hv hx
        cases x with
        | pp cs => simp only [VR] at hx; obtain ⟨ad, _, h, _⟩ := hx; exact ⟨ad, h⟩
        | ptr id off => simp only [VR] at hx; obtain ⟨_, _, _, _, h⟩ := hx; exact ⟨_, h⟩
        | ep id n i off => simp only [VR] at hx; obtain ⟨⟨p, h, _⟩, _⟩ := hx; exact ⟨p, h⟩
        | _ => simp [aload] at hv
      obtain ⟨ad, hp⟩ := hp
      rw [hp] at h3
      refine ⟨cv :: cs, ?_, ⟨_, _, rfl, h4, h2⟩⟩
      simp only [List.mapM_cons, Sem.run_bind, Sem.run_pure, res1, hp, asAddr, Result.andThen_ok, run_loadVar_of h3, h1]
    · cases h

theorem results_sound (hT : TOK P T) {fn : Func} {g : G} {H : Heap} {w : World} {E : Env} {tmps : Array Value} (hr : HR g H w) (he : ER g H w E tmps) {vs : List V} (h : resV T E H fn.results.toList = some vs) :
    ∃ v, (results fn tmps).run P w = .ok v w ∧ VR g H w (mkRes vs) v := by
  obtain ⟨cs, h1, h2⟩ := res_sound hT hr he _ _ h
  have hl := VRs_length _ _ h2
  refine ⟨if h : cs.toArray.size = 1 then cs.toArray[0] else .tuple cs.toArray, ?_, ?_⟩
  · rw [results_eq, ← Array.toArray_toList (xs := fn.results)]
    simp only [List.mapM_toArray]
    simp [Sem.run_map, h1]
  · cases vs with
    | nil =>
      simp [VRs] at h2; subst h2
      simp [mkRes, VR, VRs]
    | cons v r =>
      cases r with
      | nil =>
        simp only [VRs] at h2
        obtain ⟨c, r, rfl, h3, rfl⟩ := h2
        simpa [mkRes] using h3
      | cons v2 r =>
        simp only [List.length_cons] at hl
        simp only [mkRes, VR]
        have : ¬ cs.toArray.size = 1 := by simp; omega
        rw [dif_neg this]
        exact ⟨_, rfl, by simpa using h2⟩

/-- A mark is taken. -/
theorem take_mark {g g0 : G} {H : Heap} {w w0 : World} (hr : HR g H w) {r : Nat} {ds : List Deferred} (hd : w.heap[r]? = some (.deferred (some ds))) (hφ : ∀ id : Nat, g.φ[id]? ≠ some (some r)) (hk : Kp g0 w0 g w) (h0 : w0.heap.size ≤ r) :
    HR g H (w.putObj r (.deferred none)) ∧ Kp g0 w0 g (w.putObj r (.deferred none)) ∧ Ag g H w g H (w.putObj r (.deferred none)) ∧ Zk g.Z g.Z w (w.putObj r (.deferred none)) := by
  have hrl : r < w.heap.size := (Array.getElem?_eq_some_iff.1 hd).1
  have hoth : ∀ k, k ≠ r → (w.putObj r (.deferred none)).heap[k]? = w.heap[k]? := fun k hk => World.putObj_heap_other hk
  have hz : Zk g.Z g.Z w (w.putObj r (.deferred none)) := fun b o z => ⟨z, by
    by_cases hb : b = r
    · subst hb
      simp [World.cell?, hd, World.putObj_heap_same hrl]
    · exact World.cell?_of_block (w := w) (hoth b hb)⟩
  have ha : Ag g H w g H (w.putObj r (.deferred none)) := by
    intro id x hx
    cases x with
    | cells cs => exact ⟨⟨cs, hx, rfl⟩, rfl⟩
    | arr sz nl els => exact ⟨nl, els, hx, Nat.le_refl _, fun _ => ⟨rfl, rfl, fun b vs t hb h => ⟨vs, by rw [hoth b (fun e => hφ id (e ▸ hb))]; exact h, rfl⟩⟩⟩
    | loop st pend E ps a b => exact ⟨⟨st, pend, hx⟩, rfl⟩
  refine ⟨⟨hr.len, fun b o z => by rw [World.putObj_size]; exact hr.zlt b o z, fun id b x hp hx => ?_, hr.inj⟩, ⟨hk.os, hk.tape, hk.out, by rw [World.putObj_size]; exact hk.size, fun b hb hn => ?_, hk.z, hk.zn, hk.pn⟩, ha, hz⟩
  · obtain ⟨h1, h2, h3⟩ := hr.blk id b x hp hx
    exact ⟨by rw [World.putObj_size]; exact h1, h2, BR_mono hz ha (hoth b (fun e => hφ id (e ▸ hp))) h3⟩
  · rw [hoth b (by omega)]; exact hk.fr b hb hn

theorem leaves_marks {fn : Func} {tmps : Array Value} {R : Ending → World → Prop} {g g0 : G} {H H0 : Heap} {w0 : World} {E : Env} {F : Fence} {n nn : Nat} :
    ∀ (rs : List Nat) (w : World), rs.Nodup → (∀ r ∈ rs, w0.heap.size ≤ r ∧ w.heap[r]? = some (.deferred (some [])) ∧ ∀ id : Nat, g.φ[id]? ≠ some (some r)) → HR g H w → ER g H w E tmps → Kp g0 w0 g w → AgN nn g0 H0 w0 g H w →
      (∀ w', HR g H w' → ER g H w' E tmps → Kp g0 w0 g w' → AgN nn g0 H0 w0 g H w' → ∃ v, (results fn tmps).run P w' = .ok v w' ∧ R (.returned v) w') → LeavesInM F n P fn tmps R (rs.map mkMark) .returning w
  | [], w, _, _, hr, he, hk, ha, hR => by
    obtain ⟨v, h1, h2⟩ := hR w hr he hk ha
    exact ⟨v, h1, h2⟩
  | r :: rs, w, hnd, hm, hr, he, hk, ha, hR => by
    obtain ⟨m1, m2, m3⟩ := hm r (by simp)
    obtain ⟨k1, k2, k3, k4⟩ := take_mark hr m2 m3 hk m1
    simp only [List.nodup_cons] at hnd
    refine ⟨by simp, .inl ⟨r, _, rfl, run_takeDeferred m2, ?_⟩⟩
    refine leaves_marks rs _ hnd.2 (fun q hq => ?_) k1 (ER_mono he k4 k3) k2 (ha.trans (AgN.of_ag ha.2.1 k3)) hR
    obtain ⟨j1, j2, j3⟩ := hm q (by simp [hq])
    have hne : q ≠ r := fun e => hnd.1 (by rw [← e]; exact hq)
    exact ⟨j1, by rw [World.putObj_heap_other hne]; exact j2, j3⟩

/-- A function, from its body. -/
theorem ACalls.of_body (hT : TOK P T) {f : FuncId} {fn : Func} {c : Code} {vs : List V} {H : Heap} {Q : V → Heap → Prop} (hf : P.funcs[f]? = some fn) (hb : fn.body = some c) (hnm : (fn.name == "runtime.NumGoroutine") = false) (hlen : vs.length ≤ fn.ntmps)
    (h : AWP P fn.ntmps H.length none c (envOf 0 vs) H (FnPost T fn.results.toList H.length Q)) : ACalls P f vs H Q := by
  refine ⟨⟨fn, hf, by rw [hb]; rfl, hnm⟩, fun g w cvs hr hvs => ?_⟩
  have hcl := VRs_length _ _ hvs
  refine callsIn_of_wp_marks hf hb trivial (wpIn_mono (h.2.2 g w _ none w.heap.size ⟨hr, ?_, ?_, rfl, ⟨Nat.le_refl _, [], rfl, List.nodup_nil, by simp⟩⟩) ?_)
  · intro t
    rw [look_envOf]
    simp only [Nat.zero_le, if_true, Nat.sub_zero]
    rw [List.getD_eq_getElem?_getD]
    cases hv : vs[t]? with
    | none => simp [VR]
    | some v =>
      obtain ⟨c', h1, h2⟩ := VRs_get hvs hv
      simp only [Option.getD_some]
      have hlt := lt_of_getElem? h1
      rw [Array.getD_eq_getD_getElem?, Array.getElem?_append_left (by simpa using hlt)]
      simp only [List.getElem?_toArray, h1, Option.getD_some]
      exact h2
  · simp; omega
  · rintro e a' w' ⟨x, E', H', g', rfl, h2, h3, h4, h5⟩
    obtain ⟨_, rs, hd, hnd, hrs⟩ := h3.df
    have fin : (Som (resV T E' H' fn.results.toList) fun vs => Som (pubV H.length H' (mkRes vs)) fun v => BBq H.length H' ∧ Q v (H'.take H.length)) → LeavesInM (FR none) 0 P fn a'.tmps (CPost g H w Q) a'.defers .returning w' := by
      intro hfin
      obtain ⟨us, hus, hfin⟩ := Som_iff hfin
      obtain ⟨v, hv, hbb, hq⟩ := Som_iff hfin
      rw [hd]
      refine leaves_marks rs w' hnd hrs h3.hr h3.er h4 h5 fun w2 hr2 he2 hk2 ha2 => ?_
      obtain ⟨cv, k1, k2⟩ := results_sound hT hr2 he2 hus
      refine ⟨cv, k1, cv, g'.pub H.length, v, H'.take H.length, rfl, hq, pub_sound hr2 _ _ _ hv k2, HR_pub hr2 ha2.2.1 hbb, hk2.pub _, ?_⟩
      have := (ha2.pub (Nat.le_refl _) ha2.2.1).2.2
      rwa [List.take_length, List.take_take, Nat.min_self] at this
    cases x with
    | exit id => exact h2.elim
    | normal => exact fin h2
    | ret => exact fin h2

end
end Go.Aw
end

section
namespace Go.Aw
open Go

mutual
def flatD : D → Bool
  | .sl _ => false
  | .agg l => flatDs l
  | _ => true
def flatDs : List D → Bool
  | [] => true
  | d :: r => flatD d && flatDs r
end

mutual
/-- A value that says nothing of memory. -/
def flatV : V → Bool
  | .und => true
  | .d x => flatD x
  | .tup l => flatVs l
  | _ => false
def flatVs : List V → Bool
  | [] => true
  | d :: r => flatV d && flatVs r
end

mutual
theorem DC_flat {w w' : World} {Z Z' : Nat → Nat → Prop} : ∀ (x : D) (cs : List Value), flatD x = true → DC w Z x cs → DC w' Z' x cs
  | .bool _, _, _, h => by simpa [DC] using h
  | .int _ _, _, _, h => by simpa [DC] using h
  | .str _, _, _, h => by simpa [DC] using h
  | .nilp, _, _, h => by simpa [DC] using h
  | .nilf, _, _, h => by simpa [DC] using h
  | .nilm, _, _, h => by simpa [DC] using h
  | .agg l, cs, hf, h => by
    simp only [DC] at h ⊢
    exact DCs_flat l cs (by simpa [flatD] using hf) h
  | .sl l, cs, hf, h => by simp [flatD] at hf
theorem DCs_flat {w w' : World} {Z Z' : Nat → Nat → Prop} : ∀ (l : List D) (cs : List Value), flatDs l = true → DCs w Z l cs → DCs w' Z' l cs
  | [], _, _, h => by simpa [DCs] using h
  | d :: ds, cs, hf, h => by
    simp only [flatDs, Bool.and_eq_true] at hf
    simp only [DCs] at h ⊢
    obtain ⟨c, r, h1, h2, h3⟩ := h
    exact ⟨c, r, h1, DC_flat d _ hf.1 h2, DCs_flat ds r hf.2 h3⟩
end

mutual
theorem VR_flat {w w' : World} {g g' : G} {H H' : Heap} : ∀ (x : V) (v : Value), flatV x = true → VR g H w x v → VR g' H' w' x v
  | .und, _, _, _ => by simp [VR]
  | .d x, v, hf, h => by
    simp only [flatV] at hf
    simp only [VR] at h ⊢
    unfold DR at h ⊢
    split at h
    · obtain ⟨cs, h1, h2⟩ := h
      exact ⟨cs, h1, DCs_flat _ _ (by simpa [flatD] using hf) h2⟩
    · exact DC_flat _ _ hf h
  | .tup l, v, hf, h => by
    simp only [flatV] at hf
    simp only [VR] at h ⊢
    obtain ⟨cs, h1, h2⟩ := h
    exact ⟨cs, h1, VRs_flat l _ hf h2⟩
  | .slx _ _, _, hf, _ => by simp [flatV] at hf
  | .ptr _ _, _, hf, _ => by simp [flatV] at hf
  | .pp _, _, hf, _ => by simp [flatV] at hf
  | .ref _ _ _ _, _, hf, _ => by simp [flatV] at hf
  | .ep _ _ _ _, _, hf, _ => by simp [flatV] at hf
  | .csl _ _ _, _, hf, _ => by simp [flatV] at hf
  | .fn _ _ _, _, hf, _ => by simp [flatV] at hf
  | .agg _, _, hf, _ => by simp [flatV] at hf
theorem VRs_flat {w w' : World} {g g' : G} {H H' : Heap} : ∀ (l : List V) (cs : List Value), flatVs l = true → VRs g H w l cs → VRs g' H' w' l cs
  | [], _, _, h => by simpa [VRs] using h
  | d :: ds, cs, hf, h => by
    simp only [flatVs, Bool.and_eq_true] at hf
    simp only [VRs] at h ⊢
    obtain ⟨c, r, h1, h2, h3⟩ := h
    exact ⟨c, r, h1, VR_flat d _ hf.1 h2, VRs_flat ds r hf.2 h3⟩
end

mutual
/-- A value after row id is given away. -/
def frzV (id : Nat) (els : List D) : V → V
  | .ref i m lo len => if i = id ∧ m = els.length then .d (.sl ((els.drop lo).take len)) else .ref i m lo len
  | .fn f x y => match f with
    | .yield j => .fn (.yield j) x y
    | f => .fn f (frzVs id els x) (frzVs id els y)
  | .tup l => .tup (frzVs id els l)
  | .agg l => .agg (frzVs id els l)
  | v => v
def frzVs (id : Nat) (els : List D) : List V → List V
  | [] => []
  | v :: r => frzV id els v :: frzVs id els r
end

section
variable {P : Program} {g : G} {H : Heap} {w : World}

theorem ACalls.mono {f : FuncId} {vs : List V} {Q Q' : V → Heap → Prop} (h : ACalls P f vs H Q) (hq : ∀ v H', Q v H' → Q' v H') : ACalls P f vs H Q' := by
  refine ⟨h.1, fun g w cvs hr hv => CallsIn.mono (h.2 g w cvs hr hv) ?_⟩
  rintro e w' ⟨v, g', r, H', k1, k2, k3⟩
  exact ⟨v, g', r, H', k1, hq _ _ k2, k3⟩

theorem ag_same {g' : G} {w' : World} (hφ : g'.φ = g.φ) (hh : ∀ id b : Nat, g.φ[id]? = some (some b) → w'.heap[b]? = w.heap[b]?) : Ag g H w g' H w' := by
  intro id x hx
  cases x with
  | cells cs => exact ⟨⟨cs, hx, rfl⟩, by rw [hφ]⟩
  | arr sz nl els => exact ⟨nl, els, hx, Nat.le_refl _, fun _ => ⟨rfl, by rw [hφ], fun b vs t hb h => ⟨vs, (hh id b hb).trans h, rfl⟩⟩⟩
  | loop st pend E ps a b => exact ⟨⟨st, pend, hx⟩, by rw [hφ]⟩

theorem HR_none (hr : HR g H w) : HR ⟨g.Z, []⟩ [] w :=
  ⟨rfl, hr.zlt, fun id b x hp => by simp at hp, fun i j b hi => by simp at hi⟩

/-- A contract that speaks of no heap, where there is one. -/
theorem ACalls.iso {f : FuncId} {vs : List V} {Q : V → Prop} (hvs : VBs 0 vs = true) (h : ACalls P f vs [] (fun v H' => H' = [] ∧ VB 0 v = true ∧ Q v)) : ACalls P f vs H (fun v H' => H' = H ∧ Q v) := by
  refine ⟨h.1, fun g w cvs hr hv => CallsIn.mono (h.2 ⟨g.Z, []⟩ w cvs (HR_none hr) (VBs_cut (g := g) (g' := ⟨g.Z, []⟩) (H := H) (H' := []) (n := 0) (fun _ _ z => z) (fun id hid => by omega) _ _ hvs hv)) ?_⟩
  rintro e w' ⟨v, g', r, H', rfl, ⟨rfl, hb, hq⟩, k3, k4, k5, k6⟩
  have hsame : ∀ b, b < w.heap.size → w'.heap[b]? = w.heap[b]? := fun b hb => k5.fr b hb (fun id => by simp)
  have hz : Zk g.Z g'.Z w w' := (HR_none hr).zk k5
  have ha : Ag g H w ⟨g'.Z, g.φ⟩ H w' := ag_same rfl fun id b hp => hsame b (hr.lt hp)
  refine ⟨v, ⟨g'.Z, g.φ⟩, r, H, rfl, ⟨rfl, hq⟩, VB_cut (g := g') (g' := ⟨g'.Z, g.φ⟩) (H := []) (H' := H) (n := 0) (fun _ _ z => z) (fun id hid => by omega) _ _ hb k3, ⟨hr.len, k4.zlt, fun id b x hp hx => ?_, hr.inj⟩, ⟨k5.os, k5.tape, k5.out, k5.size, fun b hb _ => hsame b hb, k5.z, fun b o z => ?_, fun id b hp => .inl hp⟩, ha⟩
  · obtain ⟨h1, h2, h3⟩ := hr.blk id b x hp hx
    refine ⟨Nat.lt_of_lt_of_le h1 k5.size, fun o z => ?_, BR_mono (g' := ⟨g'.Z, g.φ⟩) hz ha (hsame b h1) h3⟩
    rcases k5.zn b o z with z | z | ⟨id, z⟩
    · exact h2 o z
    · omega
    · simp at z
  · rcases k5.zn b o z with z | z | ⟨id, z⟩
    · exact .inl z
    · exact .inr (.inl z)
    · simp at z

/-- All rows are lent: what comes back says nothing of memory. -/
theorem ACalls.lend {f : FuncId} {vs vs' : List V} {Q : V → Prop} (hp : pubVs 0 H vs = some vs') (h : ACalls P f vs' [] (fun v H' => H' = [] ∧ flatV v = true ∧ Q v)) : ACalls P f vs H (fun v H' => H' = H ∧ Q v) := by
  refine ⟨h.1, fun g w cvs hr hv => CallsIn.mono (h.2 (g.pub 0) w cvs (by simpa using HR_pub hr (Nat.zero_le _) (.inr (by simp [BBs]))) (by simpa using pubs_sound hr _ _ _ hp hv)) ?_⟩
  rintro e w' ⟨v, g', r, H', rfl, ⟨rfl, hb, hq⟩, k3, k4, k5, k6⟩
  have hsame : ∀ b, b < w.heap.size → w'.heap[b]? = w.heap[b]? := fun b hb => k5.fr b hb (fun id => by simp [G.pub])
  have hz : Zk g.Z g.Z w w' := fun b o z => ⟨z, World.cell?_of_block (w := w) (hsame b (hr.zlt b o z))⟩
  have ha : Ag g H w g H w' := ag_same rfl fun id b hp => hsame b (hr.lt hp)
  refine ⟨v, g, r, H, rfl, ⟨rfl, hq⟩, VR_flat _ _ hb k3, ⟨hr.len, fun b o z => Nat.lt_of_lt_of_le (hr.zlt b o z) k5.size, fun id b x hp hx => ?_, hr.inj⟩, ⟨k5.os, k5.tape, k5.out, k5.size, fun b hb _ => hsame b hb, fun _ _ z => z, fun _ _ z => .inl z, fun id b hp => .inl hp⟩, ha⟩
  obtain ⟨h1, h2, h3⟩ := hr.blk id b x hp hx
  exact ⟨Nat.lt_of_lt_of_le h1 k5.size, h2, BR_mono hz ha (hsame b h1) h3⟩

mutual
theorem frz_sound (hr : HR g H w) {g' : G} {H' : Heap} {id sz : Nat} {nl : Bool} {els : List D} (he : H[id]? = some (.arr sz nl els)) (ha : Ag g H w g' H' w) (hz : ∀ b o, g.Z b o → g'.Z b o) (hf : ∀ b o, g.φ[id]? = some (some b) → g'.Z b o) :
    ∀ (x : V) (v : Value), VR g H w x v → VR g' H' w (frzV id els x) v
  | .und, _, _ => by simp [frzV, VR]
  | .d x, v, h => by simpa only [frzV] using VR_mono (Zk.same hz) ha _ _ h
  | .slx nl l, v, h => by simpa only [frzV] using VR_mono (Zk.same hz) ha _ _ h
  | .ptr i off, v, h => by simpa only [frzV] using VR_mono (Zk.same hz) ha _ _ h
  | .pp cs, v, h => by simpa only [frzV] using VR_mono (Zk.same hz) ha _ _ h
  | .ep i m k off, v, h => by simpa only [frzV] using VR_mono (Zk.same hz) ha _ _ h
  | .csl i es len, v, h => by simpa only [frzV] using VR_mono (Zk.same hz) ha _ _ h
  | .ref i m lo len, v, h => by
    simp only [frzV]
    split
    · rename_i hc
      obtain ⟨rfl, rfl⟩ := hc
      simp only [VR]
      exact ref_frozen hr hz he rfl hf h
    · exact VR_mono (Zk.same hz) ha _ _ h
  | .fn f x y, v, h => by
    cases f with
    | yield j => simpa only [frzV] using VR_mono (Zk.same hz) ha _ _ h
    | _ =>
      simp only [frzV, VR] at h ⊢
      obtain ⟨x', y', h1, h2, h3⟩ := h
      exact ⟨x', y', h1, frzs_sound hr he ha hz hf x _ h2, frzs_sound hr he ha hz hf y _ h3⟩
  | .agg l, v, h => by
    simp only [frzV, VR] at h ⊢
    obtain ⟨cs, h1, h2⟩ := h
    exact ⟨cs, h1, frzs_sound hr he ha hz hf l _ h2⟩
  | .tup l, v, h => by
    simp only [frzV, VR] at h ⊢
    obtain ⟨cs, h1, h2⟩ := h
    exact ⟨cs, h1, frzs_sound hr he ha hz hf l _ h2⟩
theorem frzs_sound (hr : HR g H w) {g' : G} {H' : Heap} {id sz : Nat} {nl : Bool} {els : List D} (he : H[id]? = some (.arr sz nl els)) (ha : Ag g H w g' H' w) (hz : ∀ b o, g.Z b o → g'.Z b o) (hf : ∀ b o, g.φ[id]? = some (some b) → g'.Z b o) :
    ∀ (l : List V) (cs : List Value), VRs g H w l cs → VRs g' H' w (frzVs id els l) cs
  | [], _, h => by simpa [frzVs, VRs] using h
  | d :: ds, cs, h => by
    simp only [frzVs, VRs] at h ⊢
    obtain ⟨c, r, h1, h2, h3⟩ := h
    exact ⟨c, r, h1, frz_sound hr he ha hz hf d _ h2, frzs_sound hr he ha hz hf ds r h3⟩
end

/-- Row id is given away for good: nobody writes it again. -/
theorem ACalls.frz {f : FuncId} {vs : List V} {Q : V → Heap → Prop} {id sz : Nat} {nl : Bool} {els : List D} (he : H[id]? = some (.arr sz nl els))
    (h : ACalls P f (frzVs id els vs) (H.set id (.arr sz nl (els ++ [.nilp]))) Q) : ACalls P f vs H Q := by
  refine ⟨h.1, fun g w cvs hr hv => ?_⟩
  obtain ⟨g', h1, h2, h3, h4, h5⟩ := frz_state hr he
  refine CallsIn.mono (h.2 g' w cvs h1 (frzs_sound hr he h3 h4 h5 _ _ hv)) ?_
  rintro e w' ⟨v, g2, r, H', rfl, k2, k3, k4, k5, k6⟩
  exact ⟨v, g2, r, H', rfl, k2, k3, k4, h2.trans k5, h3.trans k6⟩

end
end Go.Aw
end

section
namespace Go.Aw
open Go

def szOf (P : Program) (t : TypeId) : Nat :=
  match P.info? t with
  | some i => i.size
  | none => 0

/-- The kinds of the cells of fields that lie one behind the other, from a place on. -/
def kindFs (P : Program) (rec : TypeId → Option (List D)) : Nat → List Field → Option (List D)
  | _, [] => some []
  | o, f :: r => match rec f.type with
    | some k => if f.offset = o ∧ f.name ≠ "_" ∧ (P.info? f.type).isSome = true ∧ szOf P f.type = k.length then (kindFs P rec (o + k.length) r).map (k ++ ·) else none
    | none => none

/-- The kinds of the cells at a type whose '==' compares cell by cell. -/
def kindL (P : Program) : Nat → TypeId → Option (List D)
  | 0, _ => none
  | d + 1, t => match P.underlying t with
    | some (.int k) => some [.int k 0]
    | some .bool => some [.bool false]
    | some .string => some [.str ⟨#[]⟩]
    | some (.struct fs) => if P.stoodInHeld t then none else kindFs P (kindL P d) 0 fs.toList
    | _ => none

section
variable {P : Program} {w : World} {Z : Nat → Nat → Prop}

/-- A value whose cells are these. -/
def ValOf (P : Program) (t : TypeId) (xs : List Value) (v : Value) : Prop :=
  ∃ d, P.underlying t = some d ∧ ((scal d = true ∧ xs = [v]) ∨ (scal d = false ∧ v = .agg xs.toArray))

theorem aeqs_split : ∀ {a b : List D} {r : Bool} (n : Nat), aeqs a b = some r → ∃ p q, aeqs (a.take n) (b.take n) = some p ∧ aeqs (a.drop n) (b.drop n) = some q ∧ r = (p && q)
  | a, b, r, 0, h => ⟨true, r, by simp [aeqs], by simpa using h, by simp⟩
  | [], b, r, n + 1, h => by
    cases b with
    | nil => simp [aeqs] at h; subst h; exact ⟨true, true, rfl, rfl, rfl⟩
    | cons y b => simp [aeqs] at h
  | x :: a, b, r, n + 1, h => by
    cases b with
    | nil => cases x <;> simp [aeqs] at h
    | cons y b =>
      cases x <;> cases y <;> simp only [aeqs] at h <;> try (cases h; done)
      all_goals try
        (simp only [Option.map_eq_some_iff] at h
         obtain ⟨t, ht, rfl⟩ := h
         obtain ⟨p, q, h1, h2, rfl⟩ := aeqs_split n ht
         exact ⟨_, q, by simp only [List.take_succ_cons, aeqs, h1, Option.map_some]; rfl, by simpa using h2, by simp [Bool.and_assoc]⟩)
      split at h
      · rename_i hk
        simp only [Option.map_eq_some_iff] at h
        obtain ⟨t, ht, rfl⟩ := h
        obtain ⟨p, q, h1, h2, rfl⟩ := aeqs_split n ht
        exact ⟨_, q, by simp only [List.take_succ_cons, aeqs, h1, Option.map_some, hk, if_true]; rfl, by simpa using h2, by simp [Bool.and_assoc]⟩
      · cases h

theorem run_isAgg_of {t : TypeId} {d : TypeDesc} (h : P.underlying t = some d) : (isAgg t).run P w = .ok (!scal d) w := by
  cases hs : scal d with
  | true => exact run_isAgg_false h hs
  | false => exact run_isAgg_true h hs

theorem part_val {t : TypeId} {d : TypeDesc} {i : TypeInfo} (hd : P.underlying t = some d) (hi : P.info? t = some i) {cs : List Value} {off : Nat} (hl : off + i.size ≤ cs.length) (hone : scal d = true → i.size = 1) :
    ∃ v, (part t cs.toArray off).run P w = .ok v w ∧ ValOf P t ((cs.drop off).take i.size) v := by
  unfold part
  cases hs : scal d with
  | true =>
    have h1 := hone hs
    have hlt : off < cs.length := by omega
    refine ⟨cs[off], ?_, d, hd, .inl ⟨hs, ?_⟩⟩
    · simp [run_isAgg_of hd, hs, hlt]
    · rw [h1]
      apply List.ext_getElem?
      intro q
      rw [chunk_get]
      cases q with
      | zero => simp [hlt]
      | succ q => simp
  | false =>
    refine ⟨_, by simp only [Sem.run_bind, run_isAgg_of hd, hs, Result.andThen_ok, Bool.not_false, if_true, run_sizeOf hi, Sem.run_pure]; rfl, d, hd, .inr ⟨hs, ?_⟩⟩
    congr 1
    apply Array.ext'
    simp [List.extract_eq_take_drop]

theorem like_length : ∀ {a b : List D}, like a b = true → a.length = b.length
  | [], [], _ => rfl
  | [], y :: b, h => by simp [like] at h
  | x :: a, [], h => by cases x <;> simp [like] at h
  | x :: a, y :: b, h => by
    cases x <;> cases y <;> simp [like] at h
    · simp [like_length h]
    · simp [like_length h.2]
    · simp [like_length h]

theorem like_append : ∀ {a a' b : List D}, like (a ++ a') b = true → like a (b.take a.length) = true ∧ like a' (b.drop a.length) = true
  | [], a', b, h => by simpa [like] using h
  | x :: a, a', [], h => by cases x <;> simp [like] at h
  | x :: a, a', y :: b, h => by
    cases x <;> cases y <;> simp [like] at h ⊢
    · exact like_append h
    · exact ⟨⟨h.1, (like_append h.2).1⟩, (like_append h.2).2⟩
    · exact like_append h

theorem like_trans : ∀ {a b c : List D}, like a b = true → like b c = true → like a c = true
  | [], [], c, _, h => h
  | [], y :: b, c, h, _ => by simp [like] at h
  | x :: a, [], c, h, _ => by cases x <;> simp [like] at h
  | x :: a, y :: b, [], _, h => by cases y <;> simp [like] at h
  | x :: a, y :: b, z :: c, h, k => by
    cases x <;> cases y <;> simp [like] at h <;> cases z <;> simp [like] at k ⊢
    · exact like_trans h k
    · exact ⟨h.1.trans k.1, like_trans h.2 k.2⟩
    · exact like_trans h k

theorem aeqs_length : ∀ {a b : List D} {r : Bool}, aeqs a b = some r → a.length = b.length
  | [], [], _, _ => rfl
  | [], y :: b, _, h => by simp [aeqs] at h
  | x :: a, [], _, h => by cases x <;> simp [aeqs] at h
  | x :: a, y :: b, r, h => by
    cases x <;> cases y <;> simp only [aeqs] at h <;> try (cases h; done)
    · simp only [Option.map_eq_some_iff] at h; obtain ⟨t, ht, _⟩ := h; simp [aeqs_length ht]
    · split at h
      · simp only [Option.map_eq_some_iff] at h; obtain ⟨t, ht, _⟩ := h; simp [aeqs_length ht]
      · cases h
    · simp only [Option.map_eq_some_iff] at h; obtain ⟨t, ht, _⟩ := h; simp [aeqs_length ht]

def CmpAt (P : Program) (Z : Nat → Nat → Prop) (d : Nat) : Prop :=
  ∀ (t : TypeId) (kl : List D), kindL P d t = some kl → ∀ (k : Nat), d ≤ k → ∀ (w : World) (ds es : List D) (xs ys : List Value) (vx vy : Value) (b : Bool), DCs w Z ds xs → DCs w Z es ys → like kl ds = true → aeqs ds es = some b → ValOf P t xs vx → ValOf P t ys vy →
    (Op.equalIn k t vx vy).run P w = .ok b w

theorem fields_sound {d : Nat} (ih : CmpAt P Z d) : ∀ (fs : List Field) (o : Nat) (kl : List D), kindFs P (kindL P d) o fs = some kl → ∀ (k : Nat), d ≤ k → ∀ (w : World) (ds es : List D) (xs ys : List Value) (b : Bool), DCs w Z ds xs → DCs w Z es ys → o ≤ ds.length → o ≤ es.length → like kl (ds.drop o) = true → aeqs (ds.drop o) (es.drop o) = some b →
    (Op.eqFields k xs.toArray ys.toArray fs).run P w = .ok b w
  | [], o, kl, h => by
    intro k hk w ds es xs ys b hx hy hol hol' hl he
    simp [kindFs] at h; subst h
    have : ds.drop o = [] := by
      have := like_length hl
      exact List.eq_nil_of_length_eq_zero (by simpa using this.symm)
    rw [this] at he
    cases hes : es.drop o with
    | nil => rw [hes] at he; simp [aeqs] at he; subst he; simp [Op.eqFields]
    | cons y r => rw [hes] at he; simp [aeqs] at he
  | f :: fs, o, kl, h => by
    intro k hk w ds es xs ys b hx hy hol hol' hl he
    simp only [kindFs] at h
    split at h
    · rename_i kf hkf
      split at h
      · rename_i hc
        obtain ⟨ho, hname, hinfo, hsz⟩ := hc
        simp only [Option.map_eq_some_iff] at h
        obtain ⟨kr, hkr, rfl⟩ := h
        obtain ⟨i, hi⟩ := Option.isSome_iff_exists.1 hinfo
        have hisz : i.size = kf.length := by rw [← hsz]; simp [szOf, hi]
        obtain ⟨g1, g2⟩ := like_append hl
        obtain ⟨p, q, e1, e2, rfl⟩ := aeqs_split kf.length he
        have ll := like_length hl
        have l3 := aeqs_length he
        simp at ll l3
        have lx := DCs_length _ _ hx
        have ly := DCs_length _ _ hy
        obtain ⟨dd, hd⟩ : ∃ dd, P.underlying f.type = some dd := by
          cases d with
          | zero => simp [kindL] at hkf
          | succ d =>
            simp only [kindL] at hkf
            cases hu : P.underlying f.type with
            | none => rw [hu] at hkf; cases hkf
            | some dd => exact ⟨dd, rfl⟩
        have hone : scal dd = true → i.size = 1 := by
          intro hs
          rw [hisz]
          cases d with
          | zero => simp [kindL] at hkf
          | succ d =>
            simp only [kindL, hd] at hkf
            cases dd <;> simp [scal] at hs <;> simp at hkf <;> subst hkf <;> rfl
        subst ho
        obtain ⟨va, ha1, ha2⟩ := part_val (P := P) (w := w) hd hi (cs := xs) (off := f.offset) (by omega) hone
        obtain ⟨vb, hb1, hb2⟩ := part_val (P := P) (w := w) hd hi (cs := ys) (off := f.offset) (by omega) hone
        rw [hisz] at ha2 hb2
        have hrec := ih f.type kf hkf k hk w ((ds.drop f.offset).take kf.length) ((es.drop f.offset).take kf.length) _ _ va vb p (DCs_take kf.length _ _ (DCs_drop f.offset _ _ hx)) (DCs_take kf.length _ _ (DCs_drop f.offset _ _ hy)) g1 e1 ha2 hb2
        simp only [Op.eqFields, ne_eq, hname, not_false_eq_true, if_true, Sem.run_bind, ha1, hb1, hrec, Result.andThen_ok]
        cases p with
        | false => simp
        | true =>
          simp only [Bool.not_true, Bool.false_eq_true, if_false, Bool.true_and]
          exact fields_sound ih fs (f.offset + kf.length) kr hkr k hk w ds es xs ys q hx hy (by omega) (by omega) (by simpa [List.drop_drop] using g2) (by simpa [List.drop_drop] using e2)
      · cases h
    · cases h

theorem cmp_sound : ∀ (d : Nat), CmpAt P Z d
  | 0, t, kl, h => by simp [kindL] at h
  | d + 1, t, kl, h => by
    intro k hk w ds es xs ys vx vy b hx hy hl he hvx hvy
    obtain ⟨k, rfl⟩ : ∃ k', k = k' + 1 := ⟨k - 1, by omega⟩
    simp only [kindL] at h
    obtain ⟨dd, hd, hvx⟩ := hvx
    obtain ⟨dd', hd', hvy⟩ := hvy
    rw [hd] at hd'; cases hd'
    rw [hd] at h
    have l1 := DCs_length _ _ hx
    have l2 := DCs_length _ _ hy
    have l3 := aeqs_length he
    have l4 := like_length hl
    have one : scal dd = true → xs = [vx] ∧ ys = [vy] := by
      intro hs
      rcases hvx with ⟨_, h1⟩ | ⟨h', _⟩
      · rcases hvy with ⟨_, h2⟩ | ⟨h', _⟩
        · exact ⟨h1, h2⟩
        · rw [hs] at h'; cases h'
      · rw [hs] at h'; cases h'
    split at h
    · rename_i kk hdd
      cases hdd
      simp at h; subst h
      obtain ⟨rfl, rfl⟩ := one rfl
      obtain ⟨x, rfl⟩ := List.length_eq_one_iff.1 (by simpa using l1.symm)
      obtain ⟨y, rfl⟩ := List.length_eq_one_iff.1 (by simpa using l2.symm)
      cases x <;> simp [like] at hl
      cases y <;> simp [aeqs] at he
      obtain ⟨rfl, rfl⟩ := he
      simp only [DCs, DC] at hx hy
      obtain ⟨c, r, e1, h1, rfl⟩ := hx
      obtain ⟨c', r', e2, h2, rfl⟩ := hy
      cases e1; cases e2
      simp at h1 h2; subst h1; subst h2
      exact run_equalIn_int w k t _ kk _ _ hd
    · rename_i hdd
      cases hdd
      simp at h; subst h
      obtain ⟨rfl, rfl⟩ := one rfl
      obtain ⟨x, rfl⟩ := List.length_eq_one_iff.1 (by simpa using l1.symm)
      obtain ⟨y, rfl⟩ := List.length_eq_one_iff.1 (by simpa using l2.symm)
      cases x <;> simp [like] at hl
      cases y <;> simp [aeqs] at he
      subst he
      simp only [DCs, DC] at hx hy
      obtain ⟨c, r, e1, h1, rfl⟩ := hx
      obtain ⟨c', r', e2, h2, rfl⟩ := hy
      cases e1; cases e2
      simp at h1 h2; subst h1; subst h2
      exact run_equalIn_bool' w k t _ _ hd
    · rename_i hdd
      cases hdd
      simp at h; subst h
      obtain ⟨rfl, rfl⟩ := one rfl
      obtain ⟨x, rfl⟩ := List.length_eq_one_iff.1 (by simpa using l1.symm)
      obtain ⟨y, rfl⟩ := List.length_eq_one_iff.1 (by simpa using l2.symm)
      cases x <;> simp [like] at hl
      cases y <;> simp [aeqs] at he
      subst he
      simp only [DCs, DC] at hx hy
      obtain ⟨c, r, e1, h1, rfl⟩ := hx
      obtain ⟨c', r', e2, h2, rfl⟩ := hy
      cases e1; cases e2
      simp at h1 h2; subst h1; subst h2
      rw [run_equalIn_string w k t _ _ hd, beq_toListBytes]
    · rename_i fs hdd
      cases hdd
      split at h
      · cases h
      · rename_i hst
        have hst' : P.stoodInHeld t = false := by simpa using hst
        have agg : vx = .agg xs.toArray ∧ vy = .agg ys.toArray := by
          rcases hvx with ⟨h', _⟩ | ⟨_, h1⟩
          · cases h'
          · rcases hvy with ⟨h', _⟩ | ⟨_, h2⟩
            · cases h'
            · exact ⟨h1, h2⟩
        obtain ⟨rfl, rfl⟩ := agg
        have hff : P.fieldsOf t = fs := by simp [Program.fieldsOf, hd]
        rw [run_equalIn_struct w k t _ _ (by rw [hff]; exact hd) hst', hff]
        exact fields_sound (cmp_sound d) fs.toList 0 kl h k (by omega) w ds es xs ys b hx hy (Nat.zero_le _) (Nat.zero_le _) (by simpa using hl) (by simpa using he)
    · cases h
end

/-! ### The table -/

def cvD : Value → Option D
  | .agg cs => (cvds cs.toList).map .agg
  | v => cvd v

def fieldsL (P : Program) : List Field → Option (List (Nat × Nat × Nat))
  | [] => some []
  | f :: r => match P.info? f.type, fieldsL P r with
    | some j, some l => if j.size ≠ 0 then some ((f.offset, j.size, f.type) :: l) else none
    | _, _ => none

def cmpT (P : Program) (t : TypeId) (z : List D) : Bool :=
  match kindL P 10 t with
  | some kl => like kl z && !P.eqGuardType P.depth t
  | none => false

def tyAt (P : Program) (t : TypeId) (i : TypeInfo) (d : TypeDesc) (zero : Value) : Ty :=
  match d with
  | .slice e => match P.info? e, zero with
    | some j, .slice none 0 0 => match j.zero with
      | some zv => match cvD zv with
        | some z => if i.size = 1 ∧ 1 ≤ j.size ∧ j.bytes ≤ 4096 ∧ (dcells z).length = j.size then .sl j.size z else .no
        | none => .no
      | none => .no
    | _, _ => .no
  | .struct fs => match zero with
    | .agg zs => match cvds zs.toList, fieldsL P fs.toList with
      | some z, some l => if z.length = i.size ∧ z.all (fun x => (V.d x).one) = true then .st i.size l z (cmpT P t z) else .no
      | _, _ => .no
    | _ => .no
  | .array n e => match zero, P.info? e with
    | .agg zs, some j => match cvds zs.toList with
      | some z => if z.length = i.size ∧ i.size = n * j.size ∧ z.all (fun x => (V.d x).one) = true then .ar n j.size e z false else .no
      | none => .no
    | _, _ => .no
  | .int k => match zero with
    | .int k' n => if k = k' ∧ i.size = 1 then .sc (.int k n) else .no
    | _ => .no
  | .bool => match zero with
    | .bool b => if i.size = 1 then .sc (.bool b) else .no
    | _ => .no
  | .string => match zero with
    | .string b => if i.size = 1 then .sc (.str b) else .no
    | _ => .no
  | .pointer _ => match zero with
    | .pointer none => if i.size = 1 then .sc .nilp else .no
    | _ => .no
  | .func _ _ _ => match zero with
    | .nilFunc => if i.size = 1 then .sc .nilf else .no
    | _ => .no
  | .map _ _ => match zero with
    | .map none => if i.size = 1 then .sc .nilm else .no
    | _ => .no
  | _ => .no

def tyOf (P : Program) (t : TypeId) : Ty :=
  match P.info? t, P.underlying t with
  | some i, some d => match i.zero with
    | some zero => tyAt P t i d zero
    | none => .no
  | _, _ => .no

section
variable {P : Program}

theorem fieldsL_sound : ∀ (fs : List Field) (l : List (Nat × Nat × Nat)), fieldsL P fs = some l → l.length = fs.length ∧ ∀ (k : Nat) f, fs[k]? = some f → ∃ j, P.info? f.type = some j ∧ l[k]? = some (f.offset, j.size, f.type) ∧ j.size ≠ 0
  | [], l, h => by simp [fieldsL] at h; subst h; simp
  | f :: r, l, h => by
    simp only [fieldsL] at h
    split at h
    · rename_i j l' hj hl
      split at h
      · rename_i hne
        simp at h; subst h
        obtain ⟨h1, h2⟩ := fieldsL_sound r l' hl
        refine ⟨by simp [h1], fun k g hk => ?_⟩
        cases k with
        | zero => simp at hk; subst hk; exact ⟨j, hj, rfl, hne⟩
        | succ k => simpa using h2 k g (by simpa using hk)
      · cases h
    · cases h

theorem cvd_z {g : G} {H : Heap} {w : World} : ∀ (v : Value) (x : D), cvd v = some x → VR g H w (match x with
    | .sl [] => .slx (some true) []
    | x => .d x) v := by
  intro v x h
  unfold cvd at h
  split at h <;> simp at h <;> subst h <;> simp [VR, DR, DC]

theorem cvds_z {g : G} {H : Heap} {w : World} : ∀ (l : List Value) (ds : List D), cvds l = some ds → VRs g H w (ds.map fun x => match x with
    | .sl [] => .slx (some true) []
    | x => .d x) l
  | [], ds, h => by simp [cvds] at h; subst h; rfl
  | v :: r, ds, h => by
    simp only [cvds] at h
    split at h
    · rename_i x l hx hl
      simp at h; subst h
      exact ⟨v, r, rfl, cvd_z v x hx, cvds_z r l hl⟩
    · cases h

theorem cvd_noagg {v : Value} {l : List D} (h : cvd v = some (.agg l)) : False := by
  unfold cvd at h
  split at h <;> simp at h

theorem cvd_nocells {v : Value} {x : D} (h : cvd v = some x) : v.cells.toList = [v] := by
  unfold cvd at h
  split at h <;> simp [Value.cells] at h ⊢

theorem zcells_sound {g : G} {H : Heap} {w : World} {v : Value} {x : D} (h : cvD v = some x) : VRs g H w (zcells x) v.cells.toList := by
  unfold cvD at h
  split at h
  · rename_i cs
    simp only [Option.map_eq_some_iff] at h
    obtain ⟨l, h1, rfl⟩ := h
    exact cvds_z _ _ h1
  · rw [cvd_nocells h]
    have : dcells x = [x] := by
      cases x with
      | agg l => exact (cvd_noagg h).elim
      | _ => rfl
    unfold zcells
    rw [this]
    exact ⟨v, [], rfl, cvd_z v x h, rfl⟩

theorem cvD_sound {w : World} {Z : Nat → Nat → Prop} {v : Value} {x : D} (h : cvD v = some x) : DC w Z x v.cells.toList := by
  unfold cvD at h
  split at h
  · simp only [Option.map_eq_some_iff] at h
    obtain ⟨l, hl, rfl⟩ := h
    simp only [DC, Value.cells]
    exact cvds_sound _ _ hl
  · exact DR_cells (cvd_sound _ _ h).1

theorem eqok_of {t : TypeId} {z : List D} {d : TypeDesc} (hd : P.underlying t = some d) (hs : scal d = false) (h : cmpT P t z = true) : EqOK P t z := by
  unfold cmpT at h
  split at h
  · rename_i kl hkl
    simp only [Bool.and_eq_true] at h
    obtain ⟨h1, h2⟩ := h
    refine ⟨by simpa using h2, fun w Z ds es xs ys b hl hx hy he => ?_⟩
    exact cmp_sound 10 t kl hkl _ (by decide) w ds es xs ys _ _ b hx hy (like_trans h1 hl) he ⟨d, hd, .inr ⟨hs, rfl⟩⟩ ⟨d, hd, .inr ⟨hs, rfl⟩⟩
  · cases h

theorem tok (P : Program) : TOK P (tyOf P) := by
  intro t
  unfold tyOf
  split
  case h_2 => trivial
  rename_i i d hi hd
  split
  case h_2 => trivial
  rename_i zero hz
  have all : ∀ {z : List D}, z.all (fun x => (V.d x).one) = true → ∀ x ∈ z, (V.d x).one = true := fun h => List.all_eq_true.1 h
  cases d with
  | slice e =>
    simp only [tyAt]
    split
    · rename_i j hj
      split
      · rename_i zv hzv
        split
        · rename_i z hz'
          split
          · rename_i hc
            exact ⟨i, e, j, zv, hi, hc.1, hz, hd, hj, rfl, hc.2.1, hc.2.2.1, hzv, ⟨fun w Z => cvD_sound hz', fun g H w => zcells_sound hz'⟩, hc.2.2.2⟩
          · trivial
        · trivial
      · trivial
    · trivial
  | struct fs =>
    simp only [tyAt]
    split
    · rename_i zs
      split
      · rename_i z l hzs hl
        split
        · rename_i hc
          obtain ⟨f1, f2⟩ := fieldsL_sound _ _ hl
          exact ⟨fun h => eqok_of hd rfl h, i, zs, fs, hi, rfl, hz, hd, ⟨fun w Z => cvds_sound _ _ hzs, fun g H w => cvds_z _ _ hzs⟩, hc.1, all hc.2, by simpa using f1, fun k f hk => f2 k f (by simpa using hk)⟩
        · trivial
      · trivial
    · trivial
  | array n e =>
    simp only [tyAt]
    split
    · rename_i zs j hj
      split
      · rename_i z hzs
        split
        · rename_i hc
          exact ⟨fun h => by simp at h, i, zs, e, j, hi, hc.2.1, hz, hd, ⟨rfl, hj⟩, rfl, fun w Z => cvds_sound _ _ hzs, hc.1.trans hc.2.1, all hc.2.2⟩
        · trivial
      · trivial
    · trivial
  | int k =>
    simp only [tyAt]
    split
    · split
      · rename_i hc
        exact ⟨i, _, _, hi, hc.2, hz, hd, rfl, fun w Z => by simp [DR, DC, hc.1], rfl, fun k' n' h => by cases h; rw [hc.1], by simp, by simp, by simp, by simp⟩
      · trivial
    · trivial
  | bool =>
    simp only [tyAt]
    split
    · split
      · rename_i hc
        exact ⟨i, _, _, hi, hc, hz, hd, rfl, fun w Z => by simp [DR, DC], rfl, by simp, by simp, by simp, by simp, by simp⟩
      · trivial
    · trivial
  | string =>
    simp only [tyAt]
    split
    · split
      · rename_i hc
        exact ⟨i, _, _, hi, hc, hz, hd, rfl, fun w Z => by simp [DR, DC], rfl, by simp, by simp, by simp, by simp, by simp⟩
      · trivial
    · trivial
  | pointer e =>
    simp only [tyAt]
    split
    · split
      · rename_i hc
        exact ⟨i, _, _, hi, hc, hz, hd, rfl, fun w Z => by simp [DR, DC], rfl, by simp, by simp, fun _ => ⟨_, rfl⟩, by simp, by simp⟩
      · trivial
    · trivial
  | func a b c =>
    simp only [tyAt]
    split
    · split
      · rename_i hc
        exact ⟨i, _, _, hi, hc, hz, hd, rfl, fun w Z => by simp [DR, DC], rfl, by simp, by simp, by simp, fun _ => ⟨_, _, _, rfl⟩, by simp⟩
      · trivial
    · trivial
  | map a b =>
    simp only [tyAt]
    split
    · split
      · rename_i hc
        exact ⟨i, _, _, hi, hc, hz, hd, rfl, fun w Z => by simp [DR, DC], rfl, by simp, by simp, by simp, by simp, by simp⟩
      · trivial
    · trivial
  | _ => simp only [tyAt]; trivial

end
end Go.Aw
end

section
namespace Go.Aw
open Go

def normK (K : Env → Heap → Prop) : Ex → Env → Heap → Prop
  | .normal, E, H => K E H
  | _, _, _ => False

section
variable (P : Program) (N n0 : Nat) (r : Option Nat)

def ALoop : LoopH := fun c E H Q => AWP P N n0 r (.loop c) E H Q
def ARng : LoopH := fun c E H Q => AWP P N n0 r c E H Q
def ADrw : DrawH := fun ops E H K => ∀ i, AWP P N n0 r (.region i ops true) E H (normK K)

end

section
variable {P : Program} {T : Nat → Ty} {N n0 : Nat} {r : Option Nat}

theorem AWP.run (hint : Nat → Bool) (hT : TOK P T) {c : Code} {E : Env} {H : Heap} {Q : Ex → Env → Heap → Prop} (hr : ∀ id, r = some id → id < n0) (hn : n0 ≤ H.length) (hok : cOk N c = true)
    (h : ev T hint (ACallV P) (ALoop P N n0 r) (ARng P N n0 r) (ADrw P N n0 r) c E H Q) : AWP P N n0 r c E H Q := by
  refine ev_sound hT (fun _ _ _ _ h => h) (fun _ _ _ _ _ h => h) (fun _ _ _ _ _ h => h) (fun i ops E H Q hn hok h => (h i).mono ?_) hr c E H Q hok hn h
  intro x E' H' _ hx
  cases x with
  | normal => exact hx
  | exit id => exact hx.elim
  | ret => exact hx.elim

/-- A function, by the evaluator. -/
theorem ACalls.run (hint : Nat → Bool) (hT : TOK P T) {f : FuncId} {fn : Func} {c : Code} {N : Nat} {rs : List ResultVar} {vs : List V} {H : Heap} {Q : V → Heap → Prop} (hf : P.funcs[f]? = some fn) (hb : fn.body = some c) (hN : fn.ntmps = N) (hrs : fn.results.toList = rs)
    (hnm : (fn.name == "runtime.NumGoroutine") = false) (hlen : decide (vs.length ≤ N) = true) (hok : cOk N c = true)
    (h : ev T hint (ACallV P) (ALoop P N H.length none) (ARng P N H.length none) (ADrw P N H.length none) c (envOf 0 vs) H (FnPost T rs H.length Q)) : ACalls P f vs H Q := by
  subst hN; subst hrs
  exact .of_body hT hf hb hnm (by simpa using hlen) (.run hint hT (fun _ h => by cases h) (Nat.le_refl _) hok h)

/-- Of data alone comes a value. -/
def PC (P : Program) (f : FuncId) (vs : List V) (v : V) : Prop := ACalls P f vs [] (fun r H' => H' = [] ∧ r = v)

theorem PC.run (hint : Nat → Bool) (hT : TOK P T) {f : FuncId} {fn : Func} {c : Code} {N : Nat} {rs : List ResultVar} {vs : List V} {v : V} (hf : P.funcs[f]? = some fn) (hb : fn.body = some c) (hN : fn.ntmps = N) (hrs : fn.results.toList = rs)
    (hnm : (fn.name == "runtime.NumGoroutine") = false) (hlen : decide (vs.length ≤ N) = true) (hok : cOk N c = true)
    (h : ev T hint (ACallV P) (ALoop P N 0 none) (ARng P N 0 none) (ADrw P N 0 none) c (envOf 0 vs) [] (FnPost T rs 0 fun r H' => H' = [] ∧ r = v)) : PC P f vs v :=
  ACalls.run hint hT hf hb hN hrs hnm hlen hok h

theorem PC.use {f : FuncId} {vs : List V} {v : V} (h : PC P f vs v) {H : Heap} {Q : V → Heap → Prop} (h1 : VBs 0 vs = true) (h2 : VB 0 v = true) (hq : Q v H) : ACalls P f vs H Q := by
  refine ACalls.mono (ACalls.iso (Q := fun r => r = v) h1 (ACalls.mono h fun r H' hr => ⟨hr.1, hr.2 ▸ h2, hr.2⟩)) ?_
  rintro r H' ⟨rfl, rfl⟩
  exact hq

theorem PC.lend {f : FuncId} {vs vs' : List V} {v : V} (h : PC P f vs' v) {H : Heap} {Q : V → Heap → Prop} (h1 : pubVs 0 H vs = some vs') (h2 : flatV v = true) (hq : Q v H) : ACalls P f vs H Q := by
  refine ACalls.mono (ACalls.lend (Q := fun r => r = v) h1 (ACalls.mono h fun r H' hr => ⟨hr.1, hr.2 ▸ h2, hr.2⟩)) ?_
  rintro r H' ⟨rfl, rfl⟩
  exact hq

/-! ### Loops -/

/-- All else forgotten, the state is this one. -/
def ForgetTo (n0 : Nat) (E : Env) (H : Heap) (E' : Env) (H' : Heap) : Prop :=
  n0 ≤ H'.length ∧ H'.length ≤ H.length ∧ BBq H'.length H ∧ H.take H'.length = H' ∧ EW H'.length H E E'

theorem ForgetTo.cut {E : Env} {H : Heap} {E' : Env} {H' : Heap} {R : Env → Heap → Prop} (h : ForgetTo n0 E H E' H') (hr : R E' H') : CutTo n0 E H R :=
  ⟨E', H'.length, h.1, h.2.1, h.2.2.1, h.2.2.2.2, by rw [h.2.2.2.1]; exact hr⟩

/-- A loop, by the states ahead of its rounds. -/
theorem ALoop.by {S : Type} (st : S → Env) (hp : S → Heap) (μ : S → Nat) (good : S → Prop) (s0 : S) {c : Code} {E : Env} {H : Heap} {Q : Ex → Env → Heap → Prop} (hn : n0 ≤ H.length) (hr : ∀ id, r = some id → id < n0)
    (h0 : good s0) (h1 : ForgetTo n0 E H (st s0) (hp s0))
    (round : ∀ s, good s → n0 ≤ (hp s).length → AWP P N n0 r c (st s) (hp s) (thenEx (fun E' H' => ∃ s', good s' ∧ μ s' < μ s ∧ ForgetTo n0 E' H' (st s') (hp s')) Q)) : ALoop P N n0 r c E H Q := by
  refine AWP.loopW (fun k E H => ∃ s, good s ∧ μ s = k ∧ E = st s ∧ H = hp s) (μ s0) hn hr (h1.cut ⟨s0, h0, rfl, rfl, rfl⟩) ?_
  rintro k E1 H1 hn1 ⟨s, hg, rfl, rfl, rfl⟩
  refine (round s hg hn1).mono ?_
  intro x E' H' _ hx
  cases x with
  | normal =>
    obtain ⟨s', g1, g2, g3⟩ := hx
    exact ⟨μ s', g2, g3.cut ⟨s', g1, rfl, rfl, rfl⟩⟩
  | exit id => exact hx
  | ret => exact hx

/-! ### Where the evaluator looks -/

section
variable {T : Nat → Ty} {hint : Nat → Bool} {call : CallH} {loop rng : LoopH} {drw : DrawH}

@[congr] theorem ev_congr {c : Code} {E E' : Env} {H H' : Heap} {Q : Ex → Env → Heap → Prop} (hE : E = E') (hH : H = H') {one : Prop} (ho : (True ∧ True) = one) : ev T hint call loop rng drw c E H Q = ev T hint call loop rng drw c E' H' Q := by
  rw [hE, hH]

@[congr] theorem evOps_congr {all os : List Oper} {E E' : Env} {H H' : Heap} {K : Env → Heap → Prop} (hE : E = E') (hH : H = H') {one : Prop} (ho : (True ∧ True) = one) : evOps T hint call all os E H K = evOps T hint call all os E' H' K := by
  rw [hE, hH]

@[congr] theorem evOp_congr {o : Oper} {E E' : Env} {H H' : Heap} {K : V → Heap → Prop} (hE : E = E') (hH : H = H') {one : Prop} (ho : (True ∧ True) = one) : evOp T hint call o E H K = evOp T hint call o E' H' K := by
  rw [hE, hH]

@[congr] theorem thenEx_congr {x x' : Ex} {E E' : Env} {H H' : Heap} {K : Env → Heap → Prop} {Q : Ex → Env → Heap → Prop} (hx : x = x') (hE : E = E') (hH : H = H') {one : Prop} (ho : (True ∧ True) = one) : thenEx K Q x E H = thenEx K Q x' E' H' := by
  rw [hx, hE, hH]

@[congr] theorem blockEx_congr {i : Nat} {x x' : Ex} {E E' : Env} {H H' : Heap} {Q : Ex → Env → Heap → Prop} (hx : x = x') (hE : E = E') (hH : H = H') {one : Prop} (ho : (True ∧ True) = one) : blockEx i Q x E H = blockEx i Q x' E' H' := by
  rw [hx, hE, hH]

@[congr] theorem Br_congr {b b' : Bool} {A B : Unit → Prop} (h : b = b') {one : Prop} (ho : (True ∧ True) = one) : Br b A B = Br b' A B := by
  rw [h]

@[congr] theorem Som_congr {α : Type} {o o' : Option α} {K : α → Prop} (h : o = o') {one : Prop} (ho : (True ∧ True) = one) : Som o K = Som o' K := by
  rw [h]

@[congr] theorem ACallV_congr {P : Program} {f f' : V} {vs vs' : List V} {H H' : Heap} {K : V → Heap → Prop} (hf : f = f') (hv : vs = vs') (hH : H = H') {one : Prop} (ho : (True ∧ True) = one) : ACallV P f vs H K = ACallV P f' vs' H' K := by
  rw [hf, hv, hH]

@[congr] theorem ALoop_congr {P : Program} {N n0 : Nat} {r : Option Nat} {c : Code} {E E' : Env} {H H' : Heap} {Q : Ex → Env → Heap → Prop} (hE : E = E') (hH : H = H') {one : Prop} (ho : (True ∧ True) = one) : ALoop P N n0 r c E H Q = ALoop P N n0 r c E' H' Q := by
  rw [hE, hH]

@[congr] theorem ARng_congr {P : Program} {N n0 : Nat} {r : Option Nat} {c : Code} {E E' : Env} {H H' : Heap} {Q : Ex → Env → Heap → Prop} (hE : E = E') (hH : H = H') {one : Prop} (ho : (True ∧ True) = one) : ARng P N n0 r c E H Q = ARng P N n0 r c E' H' Q := by
  rw [hE, hH]

@[congr] theorem ADrw_congr {P : Program} {N n0 : Nat} {r : Option Nat} {c : Array Oper} {E E' : Env} {H H' : Heap} {Q : Env → Heap → Prop} (hE : E = E') (hH : H = H') {one : Prop} (ho : (True ∧ True) = one) : ADrw P N n0 r c E H Q = ADrw P N n0 r c E' H' Q := by
  rw [hE, hH]

@[congr] theorem FnPost_congr {T : Nat → Ty} {rs : List ResultVar} {n : Nat} {Q : V → Heap → Prop} {x x' : Ex} {E E' : Env} {H H' : Heap} (hx : x = x') (hE : E = E') (hH : H = H') {one : Prop} (ho : (True ∧ True) = one) : FnPost T rs n Q x E H = FnPost T rs n Q x' E' H' := by
  rw [hx, hE, hH]

@[congr] theorem aappend_congr {t : Ty} {b : Bool} {x x' y y' : V} {H H' : Heap} {K : V → Heap → Prop} (hx : x = x') (hy : y = y') (hH : H = H') {one : Prop} (ho : (True ∧ True) = one) : aappend t b H x y K = aappend t b H' x' y' K := by
  rw [hx, hy, hH]

end

theorem Br_split {b : Bool} {A B : Unit → Prop} (h1 : b = true → A ()) (h2 : b = false → B ()) : Br b A B := by
  cases b
  · exact h2 rfl
  · exact h1 rfl

end
end Go.Aw
end

section
namespace Go.Aw
open Go

attribute [go_sem] and_self true_and and_true if_true if_false ite_true ite_false decide_true decide_false Bool.and_true Bool.true_and Bool.and_false Bool.false_and Bool.false_eq_true Bool.not_true Bool.not_false beq_true beq_false
  List.getElem?_cons_zero List.getElem?_cons_succ List.length_cons List.length_nil List.map_cons List.map_nil List.nil_append List.cons_append List.append_nil List.take_zero List.take_nil List.drop_zero List.drop_nil List.take_succ_cons List.drop_succ_cons
  List.set_cons_zero List.set_cons_succ List.all_cons List.all_nil List.take_length Option.map_some Option.map_none Option.some.injEq reduceCtorEq decide_eq_true_eq Nat.zero_add Nat.add_zero Nat.le_refl Nat.zero_le true_or or_true forall_const
  Nat.reduceEqDiff Nat.reduceLT Nat.reduceLeDiff Nat.reduceAdd Nat.reduceSub Nat.reduceMul

section
variable {T : Nat → Ty} {hint : Nat → Bool} {call : CallH} {loop rng : LoopH} {drw : DrawH} {E : Env} {H : Heap} {Q : Ex → Env → Heap → Prop} {K : V → Heap → Prop} {KE : Env → Heap → Prop}

/-! ### Control -/

@[go_sem] theorem ev_skip : ev T hint call loop rng drw .skip E H Q = Q .normal E H := (Eq.refl _).trans rfl
@[go_sem] theorem ev_exit (i : Nat) : ev T hint call loop rng drw (.exit i) E H Q = Q (.exit i) E H := (Eq.refl _).trans rfl
@[go_sem] theorem ev_ret : ev T hint call loop rng drw .ret E H Q = Q .ret E H := (Eq.refl _).trans rfl
@[go_sem] theorem ev_region (i : Nat) (ops : List Oper) : ev T hint call loop rng drw (.region i ops.toArray false) E H Q = evOps T hint call ops ops E H (Q .normal) := (Eq.refl _).trans rfl
@[go_sem] theorem ev_draw (i : Nat) (ops : Array Oper) : ev T hint call loop rng drw (.region i ops true) E H Q = drw ops E H (Q .normal) := (Eq.refl _).trans rfl
@[go_sem] theorem ev_seq (a b : Code) : ev T hint call loop rng drw (.seq a b) E H Q = ev T hint call loop rng drw a E H (thenEx (fun E' H' => ev T hint call loop rng drw b E' H' Q) Q) := (Eq.refl _).trans rfl
@[go_sem] theorem ev_block (i : Nat) (c : Code) : ev T hint call loop rng drw (.block i c) E H Q = ev T hint call loop rng drw c E H (blockEx i Q) := (Eq.refl _).trans rfl
@[go_sem] theorem ev_loop (c : Code) : ev T hint call loop rng drw (.loop c) E H Q = loop c E H Q := (Eq.refl _).trans rfl
@[go_sem] theorem ev_rng (f : Operand) (ps : Array Tmp) (a b : Code) : ev T hint call loop rng drw (.rangeFunc f ps a b) E H Q = rng (.rangeFunc f ps a b) E H Q := (Eq.refl _).trans rfl

/-- A test of what may be a truth value. -/
def evIf (x : V) (A B : Unit → Prop) : Prop :=
  match x with
  | .d (.bool b) => Br b A B
  | _ => False

@[go_sem] theorem evIf_bool (b : Bool) (A B : Unit → Prop) : evIf (.d (.bool b)) A B = Br b A B := (Eq.refl _).trans rfl
@[go_sem] theorem ev_cond (c : Operand) (a b : Code) : ev T hint call loop rng drw (.cond c a b) E H Q = evIf (ge E c) (fun _ => ev T hint call loop rng drw a E H Q) (fun _ => ev T hint call loop rng drw b E H Q) := (Eq.refl _).trans rfl

@[go_sem] theorem thenEx_normal : thenEx KE Q .normal E H = KE E H := (Eq.refl _).trans rfl
@[go_sem] theorem thenEx_exit (i : Nat) : thenEx KE Q (.exit i) E H = Q (.exit i) E H := (Eq.refl _).trans rfl
@[go_sem] theorem thenEx_ret : thenEx KE Q .ret E H = Q .ret E H := (Eq.refl _).trans rfl
@[go_sem] theorem blockEx_normal (i : Nat) : blockEx i Q .normal E H = Q .normal E H := (Eq.refl _).trans rfl
@[go_sem] theorem blockEx_ret (i : Nat) : blockEx i Q .ret E H = Q .ret E H := (Eq.refl _).trans rfl

def blockOne (b : Bool) (j : Nat) (Q : Ex → Env → Heap → Prop) (E : Env) (H : Heap) : Prop :=
  match b with
  | true => Q .normal E H
  | false => Q (.exit j) E H

@[go_sem] theorem blockOne_true (j : Nat) : blockOne true j Q E H = Q .normal E H := (Eq.refl _).trans rfl
@[go_sem] theorem blockOne_false (j : Nat) : blockOne false j Q E H = Q (.exit j) E H := (Eq.refl _).trans rfl
@[go_sem] theorem blockEx_exit (i j : Nat) : blockEx i Q (.exit j) E H = blockOne (j == i) j Q E H := by
  simp only [blockEx]
  by_cases h : j = i
  · simp [h, blockOne]
  · rw [if_neg h, show (j == i) = false by simpa using h]
    rfl

@[go_sem] theorem br_true (A B : Unit → Prop) : Br true A B = A () := (Eq.refl _).trans rfl
@[go_sem] theorem br_false (A B : Unit → Prop) : Br false A B = B () := (Eq.refl _).trans rfl
@[go_sem] theorem som_some {α : Type} (x : α) (K : α → Prop) : Som (some x) K = K x := (Eq.refl _).trans rfl
@[go_sem] theorem normK_normal : normK KE .normal E H = KE E H := (Eq.refl _).trans rfl

/-! ### Operands, environments -/

def lookIf (b : Bool) (v : V) (r : Env) (k : Nat) : V :=
  match b with
  | true => v
  | false => Env.look r k

@[go_sem] theorem lookIf_true (v : V) (r : Env) (k : Nat) : lookIf true v r k = v := (Eq.refl _).trans rfl
@[go_sem] theorem lookIf_false (v : V) (r : Env) (k : Nat) : lookIf false v r k = Env.look r k := (Eq.refl _).trans rfl
@[go_sem] theorem look_cons (j : Nat) (v : V) (r : Env) (k : Nat) : Env.look ((j, v) :: r) k = lookIf (j == k) v r k := by
  simp only [Env.look]
  by_cases h : j = k
  · simp [h, lookIf]
  · rw [if_neg h, show (j == k) = false by simpa using h]
    rfl
@[go_sem] theorem look_nil (k : Nat) : Env.look [] k = .und := (Eq.refl _).trans rfl
@[congr] theorem lookIf_congr {b b' : Bool} {v : V} {r : Env} {k : Nat} (h : b = b') {one : Prop} (ho : (True ∧ True) = one) : lookIf b v r k = lookIf b' v r k := by rw [h]
@[go_sem] theorem ge_tmp (t : Tmp) : ge E (.tmp t) = E.look t := (Eq.refl _).trans rfl
@[go_sem] theorem ge_func (f : FuncId) : ge E (.func f) = .fn (.func f) [] [] := (Eq.refl _).trans rfl
@[go_sem] theorem ge_bool (b : Bool) : ge E (.const (.bool b)) = .d (.bool b) := (Eq.refl _).trans rfl
@[go_sem] theorem ge_int (k : IntKind) (n : Int) : ge E (.const (.int k n)) = .d (.int k n) := (Eq.refl _).trans rfl
@[go_sem] theorem ge_str (s : ByteArray) : ge E (.const (.string s)) = .d (.str s) := (Eq.refl _).trans rfl
@[go_sem] theorem ge_nilp : ge E (.const (.pointer none)) = .d .nilp := (Eq.refl _).trans rfl
@[go_sem] theorem ge_nilf : ge E (.const .nilFunc) = .d .nilf := (Eq.refl _).trans rfl
@[go_sem] theorem ge_nilm : ge E (.const (.map none)) = .d .nilm := (Eq.refl _).trans rfl
@[go_sem] theorem ge_nils : ge E (.const (.slice none 0 0)) = .slx (some true) [] := (Eq.refl _).trans rfl
@[go_sem] theorem ge_agg (cs : List Value) (l : List D) (h : cvds cs = some l) : ge E (.const (.agg cs.toArray)) = .d (.agg l) := by
  simp only [ge, cv, h]
@[go_sem] theorem put_some (t : Tmp) (v : V) : put E (some t) v = (t, v) :: E := (Eq.refl _).trans rfl
@[go_sem] theorem put_none (v : V) : put E none v = E := (Eq.refl _).trans rfl
@[go_sem] theorem envOf_nil (k : Nat) : envOf k [] = [] := (Eq.refl _).trans rfl
@[go_sem] theorem envOf_cons (k : Nat) (v : V) (r : List V) : envOf k (v :: r) = (k, v) :: envOf (k + 1) r := (Eq.refl _).trans rfl

/-! ### Regions -/

@[go_sem] theorem evOps_nil (all : List Oper) : evOps T hint call all [] E H KE = KE E H := (Eq.refl _).trans rfl
@[go_sem] theorem evOps_none (all : List Oper) (d : Option Tmp) (o : Op) (t : TypeId) (p : String) (a : Array Edge) (os : List Oper) :
    evOps T hint call all ({ dst := d, op := o, type := t, pos := p, after := a, guard := none } :: os) E H KE = evOp T hint call { dst := d, op := o, type := t, pos := p, after := a, guard := none } E H fun v H' => evOps T hint call all os (put E d v) H' KE := (Eq.refl _).trans rfl

def gval (all : List Oper) (j : Nat) (E : Env) : V :=
  match gdst all j with
  | some t => E.look t
  | none => .und

def evGd (x : V) (w : Bool) (A B : Unit → Prop) : Prop :=
  match x with
  | .d (.bool b) => Br (b == w) A B
  | _ => False

@[go_sem] theorem evGd_true (b : Bool) (A B : Unit → Prop) : evGd (.d (.bool b)) true A B = Br b A B := by simp [evGd]
@[go_sem] theorem evGd_false (b : Bool) (A B : Unit → Prop) : evGd (.d (.bool b)) false A B = Br b B A := by cases b <;> rfl
/-- As evGd; a guard that was passed over passes on. -/
def evGo (x : V) (w : Bool) (A B : Unit → Prop) : Prop :=
  match x with
  | .d (.bool b) => Br (b == w) A B
  | .tup [] => B ()
  | _ => False

@[go_sem] theorem evGo_true (b : Bool) (A B : Unit → Prop) : evGo (.d (.bool b)) true A B = Br b A B := by simp [evGo]
@[go_sem] theorem evGo_false (b : Bool) (A B : Unit → Prop) : evGo (.d (.bool b)) false A B = Br b B A := by cases b <;> rfl
@[go_sem] theorem evGo_non (w : Bool) (A B : Unit → Prop) : evGo (.tup []) w A B = B () := (Eq.refl _).trans rfl
@[congr] theorem evGo_congr {x x' : V} {w : Bool} {A B : Unit → Prop} (h : x = x') {one : Prop} (ho : (True ∧ True) = one) : evGo x w A B = evGo x' w A B := by rw [h]
@[go_sem] theorem evOps_some (all : List Oper) (d : Option Tmp) (o : Op) (t : TypeId) (p : String) (a : Array Edge) (j : Nat) (w : Bool) (os : List Oper) :
    evOps T hint call all ({ dst := d, op := o, type := t, pos := p, after := a, guard := some (j, w) } :: os) E H KE =
      evGo (gval all j E) w (fun _ => evOp T hint call { dst := d, op := o, type := t, pos := p, after := a, guard := some (j, w) } E H fun v H' => evOps T hint call all os (put E d v) H' KE) (fun _ => evOps T hint call all os (put E d (.tup [])) H KE) := by
  unfold gval evGo
  simp only [evOps]
  cases gdst all j <;> rfl
@[go_sem] theorem gval_zero (t : Tmp) (o : Op) (ty : TypeId) (p : String) (a : Array Edge) (g : Option (Nat × Bool)) (r : List Oper) : gval ({ dst := some t, op := o, type := ty, pos := p, after := a, guard := g } :: r) 0 E = E.look t := (Eq.refl _).trans rfl
@[go_sem] theorem gval_succ (x : Oper) (r : List Oper) (j : Nat) : gval (x :: r) (j + 1) E = gval r j E := (Eq.refl _).trans rfl
@[congr] theorem evGd_congr {x x' : V} {w : Bool} {A B : Unit → Prop} (h : x = x') {one : Prop} (ho : (True ∧ True) = one) : evGd x w A B = evGd x' w A B := by rw [h]
@[congr] theorem evIf_congr {x x' : V} {A B : Unit → Prop} (h : x = x') {one : Prop} (ho : (True ∧ True) = one) : evIf x A B = evIf x' A B := by rw [h]

end
end Go.Aw
end

section
namespace Go.Aw
open Go

/-! ### Types' helpers -/

section
@[go_sem] theorem dcells_int (k : IntKind) (n : Int) : dcells (.int k n) = [.int k n] := (Eq.refl _).trans rfl
@[go_sem] theorem dcells_bool (b : Bool) : dcells (.bool b) = [.bool b] := (Eq.refl _).trans rfl
@[go_sem] theorem dcells_str (s : ByteArray) : dcells (.str s) = [.str s] := (Eq.refl _).trans rfl
@[go_sem] theorem dcells_sl (l : List D) : dcells (.sl l) = [.sl l] := (Eq.refl _).trans rfl
@[go_sem] theorem dcells_agg (l : List D) : dcells (.agg l) = l := (Eq.refl _).trans rfl
@[go_sem] theorem dcells_nilp : dcells .nilp = [.nilp] := (Eq.refl _).trans rfl
@[go_sem] theorem dcells_nilf : dcells .nilf = [.nilf] := (Eq.refl _).trans rfl
@[go_sem] theorem dcells_nilm : dcells .nilm = [.nilm] := (Eq.refl _).trans rfl

@[go_sem] theorem one_int (k : IntKind) (n : Int) : V.one (.d (.int k n)) = true := (Eq.refl _).trans rfl
@[go_sem] theorem one_bool (b : Bool) : V.one (.d (.bool b)) = true := (Eq.refl _).trans rfl
@[go_sem] theorem one_str (s : ByteArray) : V.one (.d (.str s)) = true := (Eq.refl _).trans rfl
@[go_sem] theorem one_sl (l : List D) : V.one (.d (.sl l)) = true := (Eq.refl _).trans rfl
@[go_sem] theorem one_nilp : V.one (.d .nilp) = true := (Eq.refl _).trans rfl
@[go_sem] theorem one_nilf : V.one (.d .nilf) = true := (Eq.refl _).trans rfl
@[go_sem] theorem one_nilm : V.one (.d .nilm) = true := (Eq.refl _).trans rfl
@[go_sem] theorem one_slx (b : Option Bool) (l : List D) : V.one (.slx b l) = true := (Eq.refl _).trans rfl
@[go_sem] theorem one_ptr (i o : Nat) : V.one (.ptr i o) = true := (Eq.refl _).trans rfl
@[go_sem] theorem one_csl (i e l : Nat) : V.one (.csl i e l) = true := (Eq.refl _).trans rfl
@[go_sem] theorem one_pp (cs : List D) : V.one (.pp cs) = true := (Eq.refl _).trans rfl
@[go_sem] theorem one_ref (i n lo len : Nat) : V.one (.ref i n lo len) = true := (Eq.refl _).trans rfl
@[go_sem] theorem one_ep (i n k o : Nat) : V.one (.ep i n k o) = true := (Eq.refl _).trans rfl
@[go_sem] theorem one_fn (f : Fn) (x y : List V) : V.one (.fn f x y) = true := (Eq.refl _).trans rfl

@[go_sem] theorem vcells_dagg (l : List D) : vcells (.d (.agg l)) = some (l.map .d) := (Eq.refl _).trans rfl
@[go_sem] theorem vcells_agg (l : List V) : vcells (.agg l) = some l := (Eq.refl _).trans rfl
@[go_sem] theorem vcells_int (k : IntKind) (n : Int) : vcells (.d (.int k n)) = some [.d (.int k n)] := (Eq.refl _).trans rfl
@[go_sem] theorem vcells_bool (b : Bool) : vcells (.d (.bool b)) = some [.d (.bool b)] := (Eq.refl _).trans rfl
@[go_sem] theorem vcells_str (s : ByteArray) : vcells (.d (.str s)) = some [.d (.str s)] := (Eq.refl _).trans rfl
@[go_sem] theorem vcells_sl (l : List D) : vcells (.d (.sl l)) = some [.d (.sl l)] := (Eq.refl _).trans rfl
@[go_sem] theorem vcells_nilp : vcells (.d .nilp) = some [.d .nilp] := (Eq.refl _).trans rfl
@[go_sem] theorem vcells_nilf : vcells (.d .nilf) = some [.d .nilf] := (Eq.refl _).trans rfl
@[go_sem] theorem vcells_nilm : vcells (.d .nilm) = some [.d .nilm] := (Eq.refl _).trans rfl
@[go_sem] theorem vcells_slx (b : Option Bool) (l : List D) : vcells (.slx b l) = some [.slx b l] := (Eq.refl _).trans rfl
@[go_sem] theorem vcells_ptr (i o : Nat) : vcells (.ptr i o) = some [.ptr i o] := (Eq.refl _).trans rfl
@[go_sem] theorem vcells_csl (i e l : Nat) : vcells (.csl i e l) = some [.csl i e l] := (Eq.refl _).trans rfl
@[go_sem] theorem vcells_pp (cs : List D) : vcells (.pp cs) = some [.pp cs] := (Eq.refl _).trans rfl
@[go_sem] theorem vcells_ref (i n lo len : Nat) : vcells (.ref i n lo len) = some [.ref i n lo len] := (Eq.refl _).trans rfl
@[go_sem] theorem vcells_ep (i n k o : Nat) : vcells (.ep i n k o) = some [.ep i n k o] := (Eq.refl _).trans rfl
@[go_sem] theorem vcells_fn (f : Fn) (x y : List V) : vcells (.fn f x y) = some [.fn f x y] := (Eq.refl _).trans rfl

/-- The cells that are stored, by those of the value. -/
def stS (o : Option (List V)) : Option (List V) :=
  match o with
  | some l => store1 l
  | none => none

def stN (n : Nat) (o : Option (List V)) : Option (List V) :=
  match o with
  | some cs => if cs.length = n ∧ cs.all V.one = true then some cs else none
  | none => none

@[go_sem] theorem stS_one (c : V) : stS (some [c]) = if c.one = true then some [c] else none := (Eq.refl _).trans rfl
@[go_sem] theorem stN_some (n : Nat) (cs : List V) : stN n (some cs) = if cs.length = n ∧ cs.all V.one = true then some cs else none := (Eq.refl _).trans rfl
@[go_sem] theorem storeCells_sc (z : D) (v : V) : storeCells (.sc z) v = stS (vcells v) := by
  cases h : vcells v <;> simp [storeCells, stS, h]
@[go_sem] theorem storeCells_sl (es : Nat) (z : D) (v : V) : storeCells (.sl es z) v = stS (vcells v) := by
  cases h : vcells v <;> simp [storeCells, stS, h]
@[go_sem] theorem storeCells_st (n : Nat) (fs : List (Nat × Nat × Nat)) (z : List D) (c : Bool) (v : V) : storeCells (.st n fs z c) v = stN n (vcells v) := by
  cases h : vcells v <;> simp [storeCells, stN, h]
@[go_sem] theorem storeCells_ar (n es el : Nat) (z : List D) (c : Bool) (v : V) : storeCells (.ar n es el z c) v = stN (n * es) (vcells v) := by
  cases h : vcells v <;> simp [storeCells, stN, h]

@[go_sem] theorem zeroV_sc (z : D) : zeroV (.sc z) = some [.d z] := (Eq.refl _).trans rfl
@[go_sem] theorem zeroV_st (n : Nat) (fs : List (Nat × Nat × Nat)) (z : List D) (c : Bool) : zeroV (.st n fs z c) = some (z.map .d) := (Eq.refl _).trans rfl
@[go_sem] theorem zeroV_ar (n es el : Nat) (z : List D) (c : Bool) : zeroV (.ar n es el z c) = some (z.map .d) := (Eq.refl _).trans rfl
@[go_sem] theorem zeroV_sl (es : Nat) (z : D) : zeroV (.sl es z) = some [.slx (some true) []] := (Eq.refl _).trans rfl

@[go_sem] theorem headD_int (k : IntKind) (n : Int) (r : List D) : headD (.int k n :: r) = some (.int k n) := (Eq.refl _).trans rfl
@[go_sem] theorem headD_bool (b : Bool) (r : List D) : headD (.bool b :: r) = some (.bool b) := (Eq.refl _).trans rfl
@[go_sem] theorem headD_str (s : ByteArray) (r : List D) : headD (.str s :: r) = some (.str s) := (Eq.refl _).trans rfl
@[go_sem] theorem headD_sl (l : List D) (r : List D) : headD (.sl l :: r) = some (.sl l) := (Eq.refl _).trans rfl
@[go_sem] theorem headD_nilp (r : List D) : headD (.nilp :: r) = some .nilp := (Eq.refl _).trans rfl
@[go_sem] theorem headD_nilf (r : List D) : headD (.nilf :: r) = some .nilf := (Eq.refl _).trans rfl
@[go_sem] theorem headD_nilm (r : List D) : headD (.nilm :: r) = some .nilm := (Eq.refl _).trans rfl
@[go_sem] theorem headV_cons (c : V) (r : List V) : headV (c :: r) = some c := (Eq.refl _).trans rfl
@[go_sem] theorem loadD_sc (z : D) (cs : List D) : loadD (.sc z) cs = headD cs := (Eq.refl _).trans rfl
@[go_sem] theorem loadD_sl (es : Nat) (z : D) (cs : List D) : loadD (.sl es z) cs = headD cs := (Eq.refl _).trans rfl
@[go_sem] theorem loadD_st (n : Nat) (fs : List (Nat × Nat × Nat)) (z : List D) (c : Bool) (cs : List D) : loadD (.st n fs z c) cs = if n ≤ cs.length then some (.agg (cs.take n)) else none := (Eq.refl _).trans rfl
@[go_sem] theorem loadD_ar (n es el : Nat) (z : List D) (c : Bool) (cs : List D) : loadD (.ar n es el z c) cs = if n * es ≤ cs.length then some (.agg (cs.take (n * es))) else none := (Eq.refl _).trans rfl
@[go_sem] theorem loadV_sc (z : D) (cs : List V) : loadV (.sc z) cs = headV cs := (Eq.refl _).trans rfl
@[go_sem] theorem loadV_sl (es : Nat) (z : D) (cs : List V) : loadV (.sl es z) cs = headV cs := (Eq.refl _).trans rfl
@[go_sem] theorem loadV_st (n : Nat) (fs : List (Nat × Nat × Nat)) (z : List D) (c : Bool) (cs : List V) : loadV (.st n fs z c) cs = if n ≤ cs.length then some (norm (cs.take n)) else none := (Eq.refl _).trans rfl
@[go_sem] theorem loadV_ar (n es el : Nat) (z : List D) (c : Bool) (cs : List V) : loadV (.ar n es el z c) cs = if n * es ≤ cs.length then some (norm (cs.take (n * es))) else none := (Eq.refl _).trans rfl

@[go_sem] theorem toD_d (x : D) : toD (.d x) = some x := (Eq.refl _).trans rfl
@[go_sem] theorem toD_slx (b : Option Bool) (l : List D) : toD (.slx b l) = some (.sl l) := (Eq.refl _).trans rfl
@[go_sem] theorem toD_und : toD .und = none := (Eq.refl _).trans rfl
@[go_sem] theorem toD_ptr (i o : Nat) : toD (.ptr i o) = none := (Eq.refl _).trans rfl
@[go_sem] theorem toD_csl (i e l : Nat) : toD (.csl i e l) = none := (Eq.refl _).trans rfl
@[go_sem] theorem toD_pp (cs : List D) : toD (.pp cs) = none := (Eq.refl _).trans rfl
@[go_sem] theorem toD_ref (i n lo len : Nat) : toD (.ref i n lo len) = none := (Eq.refl _).trans rfl
@[go_sem] theorem toD_ep (i n k o : Nat) : toD (.ep i n k o) = none := (Eq.refl _).trans rfl
@[go_sem] theorem toD_fn (f : Fn) (x y : List V) : toD (.fn f x y) = none := (Eq.refl _).trans rfl

def toDs2 (a : Option D) (b : Option (List D)) : Option (List D) :=
  match a, b with
  | some x, some l => some (x :: l)
  | _, _ => none

@[go_sem] theorem toDs2_some (x : D) (l : List D) : toDs2 (some x) (some l) = some (x :: l) := (Eq.refl _).trans rfl
@[go_sem] theorem toDs2_none (b : Option (List D)) : toDs2 none b = none := (Eq.refl _).trans rfl
@[go_sem] theorem toDs2_none' (x : D) : toDs2 (some x) none = none := (Eq.refl _).trans rfl
@[go_sem] theorem toDs_nil : toDs [] = some [] := (Eq.refl _).trans rfl
@[go_sem] theorem toDs_cons (v : V) (r : List V) : toDs (v :: r) = toDs2 (toD v) (toDs r) := (Eq.refl _).trans rfl
theorem toDs_map (l : List D) : toDs (l.map .d) = some l := by
  induction l with
  | nil => rfl
  | cons x r ih => simp [toDs, toD, ih]

def normO (o : Option (List D)) (l : List V) : V :=
  match o with
  | some ds => .d (.agg ds)
  | none => .agg l
@[go_sem] theorem normO_some (ds : List D) (l : List V) : normO (some ds) l = .d (.agg ds) := (Eq.refl _).trans rfl
@[go_sem] theorem normO_none (l : List V) : normO none l = .agg l := (Eq.refl _).trans rfl
@[go_sem] theorem norm_eq (l : List V) : norm l = normO (toDs l) l := (Eq.refl _).trans rfl

@[go_sem] theorem splice_eq {α : Type} (cs : List α) (off : Nat) (vs : List α) : splice cs off vs = cs.take off ++ vs ++ cs.drop (off + vs.length) := (Eq.refl _).trans rfl
@[go_sem] theorem recell_agg (l cs : List D) : recell (.agg l) cs = some (.agg cs) := by
  cases cs with
  | nil => rfl
  | cons c r => cases r <;> cases c <;> rfl
@[go_sem] theorem recell_int (k k' : IntKind) (n n' : Int) : recell (.int k n) [.int k' n'] = some (.int k' n') := (Eq.refl _).trans rfl
@[go_sem] theorem recell_bool (b b' : Bool) : recell (.bool b) [.bool b'] = some (.bool b') := (Eq.refl _).trans rfl
@[go_sem] theorem recell_str (b b' : ByteArray) : recell (.str b) [.str b'] = some (.str b') := (Eq.refl _).trans rfl
@[go_sem] theorem recell_sl (b b' : List D) : recell (.sl b) [.sl b'] = some (.sl b') := (Eq.refl _).trans rfl

@[go_sem] theorem sized_nil (es : Nat) : sized es [] = true := (Eq.refl _).trans rfl
@[go_sem] theorem sized_cons (es : Nat) (x : D) (r : List D) : sized es (x :: r) = (((dcells x).length == es) && sized es r) := (Eq.refl _).trans rfl
end

/-! ### Memory -/

section
variable {H : Heap} {E : Env}

def aloadP (t : Ty) (b : Option Blk) (off : Nat) : Option V :=
  match b with
  | some (.cells cs) => loadV t (cs.drop off)
  | _ => none
def aloadE (t : Ty) (b : Option Blk) (n i off : Nat) : Option V :=
  match b with
  | some (.arr _ _ els) => if els.length = n then (match els[i]? with
      | some e => (loadD t ((dcells e).drop off)).map .d
      | none => none) else none
  | _ => none
def aloadD (t : Ty) (e : Option D) (off : Nat) : Option V :=
  match e with
  | some e => (loadD t ((dcells e).drop off)).map .d
  | none => none
@[go_sem] theorem aload_pp (t : Ty) (cs : List D) : aload t H (.pp cs) = (loadD t cs).map .d := (Eq.refl _).trans rfl
@[go_sem] theorem aload_ptr (t : Ty) (id off : Nat) : aload t H (.ptr id off) = aloadP t H[id]? off := by
  cases hb : H[id]? with
  | none => simp [aload, aloadP, hb]
  | some b => cases b <;> simp [aload, aloadP, hb] <;> rfl
@[go_sem] theorem aload_ep (t : Ty) (id n i off : Nat) : aload t H (.ep id n i off) = aloadE t H[id]? n i off := by
  cases hb : H[id]? with
  | none => simp [aload, aloadE, hb]
  | some b => cases b <;> simp [aload, aloadE, hb] <;> rfl
@[go_sem] theorem aloadP_cells (t : Ty) (cs : List V) (off : Nat) : aloadP t (some (.cells cs)) off = loadV t (cs.drop off) := (Eq.refl _).trans rfl
@[go_sem] theorem aloadE_arr (t : Ty) (sz : Nat) (nl : Bool) (els : List D) (n i off : Nat) : aloadE t (some (.arr sz nl els)) n i off = if els.length = n then aloadD t els[i]? off else none := (Eq.refl _).trans rfl
@[go_sem] theorem aloadD_some (t : Ty) (e : D) (off : Nat) : aloadD t (some e) off = (loadD t ((dcells e).drop off)).map .d := (Eq.refl _).trans rfl

def aelt (es : Nat) (o : Option D) : Option V :=
  match o with
  | some e => if (dcells e).length = es then some (.pp (dcells e)) else none
  | none => none
def aeltR (es : Nat) (b : Option Blk) (id n lo len : Nat) (k : Int) : Option V :=
  match b with
  | some (.arr sz _ els) => if els.length = n ∧ sz = es ∧ 0 ≤ k ∧ k < len then some (.ep id n (lo + k.toNat) 0) else none
  | _ => none
@[go_sem] theorem aelt_some (es : Nat) (e : D) : aelt es (some e) = if (dcells e).length = es then some (.pp (dcells e)) else none := (Eq.refl _).trans rfl
@[go_sem] theorem aeltR_arr (es sz : Nat) (nl : Bool) (els : List D) (id n lo len : Nat) (k : Int) : aeltR es (some (.arr sz nl els)) id n lo len k = if els.length = n ∧ sz = es ∧ 0 ≤ k ∧ k < len then some (.ep id n (lo + k.toNat) 0) else none := (Eq.refl _).trans rfl
@[go_sem] theorem aidx_d (es : Nat) (z : D) (l : List D) (k : IntKind) (n : Int) : aidxAddr (.sl es z) H (.d (.sl l)) (.d (.int k n)) = aelt es (idx? l n) := by
  cases hb : idx? l n <;> simp [aidxAddr, aelt, hb]
@[go_sem] theorem aidx_slx (es : Nat) (z : D) (b : Option Bool) (l : List D) (k : IntKind) (n : Int) : aidxAddr (.sl es z) H (.slx b l) (.d (.int k n)) = aelt es (idx? l n) := by
  cases hb : idx? l n <;> simp [aidxAddr, aelt, hb]
@[go_sem] theorem aidx_ref (es : Nat) (z : D) (id m lo len : Nat) (k : IntKind) (n : Int) : aidxAddr (.sl es z) H (.ref id m lo len) (.d (.int k n)) = aeltR es H[id]? id m lo len n := by
  cases hb : H[id]? with
  | none => simp [aidxAddr, aeltR, hb]
  | some b => cases b <;> simp [aidxAddr, aeltR, hb]
@[go_sem] theorem aidx_csl (es : Nat) (z : D) (id e len : Nat) (k : IntKind) (n : Int) : aidxAddr (.sl es z) H (.csl id e len) (.d (.int k n)) = if e = es ∧ 0 ≤ n ∧ n < len then some (.ptr id (n.toNat * es)) else none := (Eq.refl _).trans rfl
@[go_sem] theorem aidx_ptr (len es el : Nat) (z : List D) (c : Bool) (id off : Nat) (k : IntKind) (n : Int) : aidxAddr (.ar len es el z c) H (.ptr id off) (.d (.int k n)) = if 0 ≤ n ∧ n < len then some (.ptr id (off + n.toNat * es)) else none := (Eq.refl _).trans rfl
@[go_sem] theorem aidx_pp (len es el : Nat) (z : List D) (c : Bool) (cs : List D) (k : IntKind) (n : Int) : aidxAddr (.ar len es el z c) H (.pp cs) (.d (.int k n)) = if 0 ≤ n ∧ n < len then some (.pp (cs.drop (n.toNat * es))) else none := (Eq.refl _).trans rfl
@[go_sem] theorem aidx_ep (len es el : Nat) (z : List D) (c : Bool) (id m i off : Nat) (k : IntKind) (n : Int) : aidxAddr (.ar len es el z c) H (.ep id m i off) (.d (.int k n)) = if 0 ≤ n ∧ n < len then some (.ep id m i (off + n.toNat * es)) else none := (Eq.refl _).trans rfl
theorem idx_nat {α : Type} (l : List α) (n : Nat) : idx? l (n : Int) = l[n]? := by simp [idx?]
@[go_sem] theorem idx_lit {α : Type} (l : List α) (n : Nat) : idx? l (OfNat.ofNat n : Int) = l[n]? := idx_nat l n

def afld (o : Option (Nat × Nat × Nat)) (f : Nat → Option V) : Option V :=
  match o with
  | some p => f p.1
  | none => none
@[go_sem] theorem afld_some (p : Nat × Nat × Nat) (f : Nat → Option V) : afld (some p) f = f p.1 := (Eq.refl _).trans rfl
@[go_sem] theorem afieldAddr_ptr (n : Nat) (fs : List (Nat × Nat × Nat)) (z : List D) (c : Bool) (id off f : Nat) : afieldAddr (.st n fs z c) (.ptr id off) f = afld fs[f]? fun o => some (.ptr id (off + o)) := by
  cases hf : fs[f]? <;> simp [afieldAddr, afld, hf]
@[go_sem] theorem afieldAddr_pp (n : Nat) (fs : List (Nat × Nat × Nat)) (z : List D) (c : Bool) (cs : List D) (f : Nat) : afieldAddr (.st n fs z c) (.pp cs) f = afld fs[f]? fun o => some (.pp (cs.drop o)) := by
  cases hf : fs[f]? <;> simp [afieldAddr, afld, hf]
@[go_sem] theorem afieldAddr_ep (n : Nat) (fs : List (Nat × Nat × Nat)) (z : List D) (c : Bool) (id m i off f : Nat) : afieldAddr (.st n fs z c) (.ep id m i off) f = afld fs[f]? fun o => some (.ep id m i (off + o)) := by
  cases hf : fs[f]? <;> simp [afieldAddr, afld, hf]

def afld2 (T : Nat → Ty) (o : Option (Nat × Nat × Nat)) (f : Nat → Ty → Option V) : Option V :=
  match o with
  | some p => f p.1 (T p.2.2)
  | none => none
@[go_sem] theorem afld2_some (T : Nat → Ty) (a b c : Nat) (f : Nat → Ty → Option V) : afld2 T (some (a, b, c)) f = f a (T c) := (Eq.refl _).trans rfl
@[go_sem] theorem afield_d (T : Nat → Ty) (n : Nat) (fs : List (Nat × Nat × Nat)) (z : List D) (c : Bool) (cs : List D) (f : Nat) : afield T (.st n fs z c) (.d (.agg cs)) f = afld2 T fs[f]? fun o e => (loadD e (cs.drop o)).map .d := by
  cases hf : fs[f]? <;> simp [afield, afld2, hf]
@[go_sem] theorem afield_agg (T : Nat → Ty) (n : Nat) (fs : List (Nat × Nat × Nat)) (z : List D) (c : Bool) (cs : List V) (f : Nat) : afield T (.st n fs z c) (.agg cs) f = afld2 T fs[f]? fun o e => if cs.all V.one = true then loadV e (cs.drop o) else none := by
  cases hf : fs[f]? <;> simp [afield, afld2, hf]
@[go_sem] theorem aindex_d (T : Nat → Ty) (len es e : Nat) (z : List D) (c : Bool) (cs : List D) (k : IntKind) (n : Int) : aindex T (.ar len es e z c) (.d (.agg cs)) (.d (.int k n)) = if 0 ≤ n ∧ n < len then (loadD (T e) (cs.drop (n.toNat * es))).map .d else none := (Eq.refl _).trans rfl
@[go_sem] theorem aindex_agg (T : Nat → Ty) (len es e : Nat) (z : List D) (c : Bool) (cs : List V) (k : IntKind) (n : Int) : aindex T (.ar len es e z c) (.agg cs) (.d (.int k n)) = if 0 ≤ n ∧ n < len ∧ cs.all V.one = true then loadV (T e) (cs.drop (n.toNat * es)) else none := (Eq.refl _).trans rfl

def astP (cs : Option (List V)) (b : Option Blk) (H : Heap) (id off : Nat) : Option Heap :=
  match cs, b with
  | some cs, some (.cells old) => if off + cs.length ≤ old.length then some (H.set id (.cells (splice old off cs))) else none
  | _, _ => none
def astE3 (o : Option D) (H : Heap) (id sz : Nat) (nl : Bool) (els : List D) (i : Nat) : Option Heap :=
  match o with
  | some e' => some (H.set id (.arr sz nl (els.set i e')))
  | none => none
def astE2 (o : Option D) (ds : List D) (H : Heap) (id sz : Nat) (nl : Bool) (els : List D) (i off : Nat) : Option Heap :=
  match o with
  | some e => if off + ds.length ≤ (dcells e).length then astE3 (recell e (splice (dcells e) off ds)) H id sz nl els i else none
  | none => none
def astE (cs : Option (List V)) (b : Option Blk) (H : Heap) (id n i off : Nat) : Option Heap :=
  match cs with
  | some cs => match b, toDs cs with
    | some (.arr sz nl els), some ds => if els.length = n then astE2 els[i]? ds H id sz nl els i off else none
    | _, _ => none
  | none => none
def astE1 (d : Option (List D)) (H : Heap) (id sz : Nat) (nl : Bool) (els : List D) (n i off : Nat) : Option Heap :=
  match d with
  | some ds => if els.length = n then astE2 els[i]? ds H id sz nl els i off else none
  | none => none
@[go_sem] theorem astore_ptr (t : Ty) (id off : Nat) (v : V) : astore t H (.ptr id off) v = astP (storeCells t v) H[id]? H id off := by
  cases hs : storeCells t v with
  | none => simp [astore, astP, hs]
  | some cs => cases hb : H[id]? with
    | none => simp [astore, astP, hs, hb]
    | some b => cases b <;> simp [astore, astP, hs, hb]
@[go_sem] theorem astP_cells (cs old : List V) (id off : Nat) : astP (some cs) (some (.cells old)) H id off = if off + cs.length ≤ old.length then some (H.set id (.cells (splice old off cs))) else none := (Eq.refl _).trans rfl
@[go_sem] theorem astore_ep (t : Ty) (id n i off : Nat) (v : V) : astore t H (.ep id n i off) v = astE (storeCells t v) H[id]? H id n i off := by
  cases hs : storeCells t v with
  | none => simp [astore, astE, hs]
  | some cs => cases hb : H[id]? with
    | none => simp [astore, astE, hs, hb]
    | some b => cases b <;> cases hd : toDs cs <;> simp [astore, astE, astE2, astE3, hs, hb, hd] <;> rfl
@[go_sem] theorem astE_arr (cs : List V) (sz : Nat) (nl : Bool) (els : List D) (id n i off : Nat) : astE (some cs) (some (.arr sz nl els)) H id n i off = astE1 (toDs cs) H id sz nl els n i off := by
  cases hd : toDs cs <;> simp [astE, astE1, hd]
@[go_sem] theorem astE1_some (ds : List D) (sz : Nat) (nl : Bool) (els : List D) (id n i off : Nat) : astE1 (some ds) H id sz nl els n i off = if els.length = n then astE2 els[i]? ds H id sz nl els i off else none := (Eq.refl _).trans rfl
@[go_sem] theorem astE2_some (e : D) (ds : List D) (sz : Nat) (nl : Bool) (els : List D) (id i off : Nat) : astE2 (some e) ds H id sz nl els i off = if off + ds.length ≤ (dcells e).length then astE3 (recell e (splice (dcells e) off ds)) H id sz nl els i else none := (Eq.refl _).trans rfl
@[go_sem] theorem astE3_some (e : D) (sz : Nat) (nl : Bool) (els : List D) (id i : Nat) : astE3 (some e) H id sz nl els i = some (H.set id (.arr sz nl (els.set i e))) := (Eq.refl _).trans rfl

def contR (b : Option Blk) (n lo len : Nat) : Option (List D) :=
  match b with
  | some (.arr _ _ els) => if els.length = n then some ((els.drop lo).take len) else none
  | _ => none
@[go_sem] theorem contR_arr (sz : Nat) (nl : Bool) (els : List D) (n lo len : Nat) : contR (some (.arr sz nl els)) n lo len = if els.length = n then some ((els.drop lo).take len) else none := (Eq.refl _).trans rfl
@[go_sem] theorem content_d (l : List D) : content H (.d (.sl l)) = some l := (Eq.refl _).trans rfl
@[go_sem] theorem content_slx (b : Option Bool) (l : List D) : content H (.slx b l) = some l := (Eq.refl _).trans rfl
@[go_sem] theorem content_ref (id n lo len : Nat) : content H (.ref id n lo len) = contR H[id]? n lo len := by
  cases hb : H[id]? with
  | none => simp [content, contR, hb]
  | some b => cases b <;> simp [content, contR, hb] <;> rfl

def alenR (b : Option Blk) (n len : Nat) : Option Nat :=
  match b with
  | some (.arr _ _ els) => if els.length = n then some len else none
  | _ => none
@[go_sem] theorem alenR_arr (sz : Nat) (nl : Bool) (els : List D) (n len : Nat) : alenR (some (.arr sz nl els)) n len = if els.length = n then some len else none := (Eq.refl _).trans rfl
@[go_sem] theorem alen_d (es : Nat) (z : D) (l : List D) : alen (.sl es z) H (.d (.sl l)) = some l.length := (Eq.refl _).trans rfl
@[go_sem] theorem alen_slx (es : Nat) (z : D) (b : Option Bool) (l : List D) : alen (.sl es z) H (.slx b l) = some l.length := (Eq.refl _).trans rfl
@[go_sem] theorem alen_csl (es : Nat) (z : D) (id e n : Nat) : alen (.sl es z) H (.csl id e n) = some n := (Eq.refl _).trans rfl
@[go_sem] theorem alen_str (z s : ByteArray) : alen (.sc (.str z)) H (.d (.str s)) = some s.size := (Eq.refl _).trans rfl
@[go_sem] theorem alen_ref (es : Nat) (z : D) (id n lo len : Nat) : alen (.sl es z) H (.ref id n lo len) = alenR H[id]? n len := by
  cases hb : H[id]? with
  | none => simp [alen, alenR, hb]
  | some b => cases b <;> simp [alen, alenR, hb] <;> rfl

/-! ### Slices of slices -/

def bnd (v : V) : Option Nat :=
  match v with
  | .d (.int _ n) => if 0 ≤ n then some n.toNat else none
  | _ => none
@[go_sem] theorem bnd_int (k : IntKind) (n : Int) : bnd (.d (.int k n)) = if 0 ≤ n then some n.toNat else none := (Eq.refl _).trans rfl
@[go_sem] theorem bound_none (n : Nat) : bound? E none n = some n := (Eq.refl _).trans rfl
@[go_sem] theorem bound_some (x : Operand) (n : Nat) : bound? E (some x) n = bnd (ge E x) := by
  simp only [bound?, bnd]
  cases ge E x <;> first | rfl | (rename_i d; cases d <;> rfl)

def aslD (es : Nat) (s : List D) (l h : Option Nat) : Option V :=
  match l, h with
  | some l, some h => if sized es s = true then (if l ≤ h ∧ h ≤ s.length then some (.d (.sl ((s.take h).drop l))) else none) else none
  | _, _ => none
@[go_sem] theorem aslD_some (es : Nat) (s : List D) (l h : Nat) : aslD es s (some l) (some h) = if sized es s = true then (if l ≤ h ∧ h ≤ s.length then some (.d (.sl ((s.take h).drop l))) else none) else none := (Eq.refl _).trans rfl
@[go_sem] theorem aslice_d (es : Nat) (z : D) (s : List D) (lo hi : Option Operand) : aslice (.sl es z) E H (.d (.sl s)) lo hi none = aslD es s (bound? E lo 0) (bound? E hi s.length) := by
  cases h1 : bound? E lo 0 <;> cases h2 : bound? E hi s.length <;> simp [aslice, content, aslD, h1, h2]
@[go_sem] theorem aslice_slx (es : Nat) (z : D) (b : Option Bool) (s : List D) (lo hi : Option Operand) : aslice (.sl es z) E H (.slx b s) lo hi none = aslD es s (bound? E lo 0) (bound? E hi s.length) := by
  cases h1 : bound? E lo 0 <;> cases h2 : bound? E hi s.length <;> simp [aslice, content, aslD, h1, h2]
def aslX (es : Nat) (s : List D) (l h m : Option Nat) : Option V :=
  match l, h, m with
  | some l, some h, some k => if sized es s = true then (if l ≤ h ∧ h ≤ s.length ∧ k = h then some (.slx none ((s.take h).drop l)) else none) else none
  | _, _, _ => none
@[go_sem] theorem aslX_some (es : Nat) (s : List D) (l h k : Nat) : aslX es s (some l) (some h) (some k) = if sized es s = true then (if l ≤ h ∧ h ≤ s.length ∧ k = h then some (.slx none ((s.take h).drop l)) else none) else none := (Eq.refl _).trans rfl
@[go_sem] theorem aslice_dx (es : Nat) (z : D) (s : List D) (lo : Option Operand) (hi m : Operand) : aslice (.sl es z) E H (.d (.sl s)) lo (some hi) (some m) = aslX es s (bound? E lo 0) (bound? E (some hi) s.length) (bound? E (some m) 0) := by
  cases h1 : bound? E lo 0 <;> cases h2 : bound? E (some hi) s.length <;> cases h3 : bound? E (some m) 0 <;> simp [aslice, content, aslX, h1, h2, h3]
def aslR (es : Nat) (b : Option Blk) (id n a len : Nat) (l h : Option Nat) : Option V :=
  match b, l, h with
  | some (.arr sz _ els), some l, some h => if els.length = n ∧ sz = es ∧ l ≤ h ∧ h ≤ len ∧ (l < h ∨ l = 0) then some (.ref id n (a + l) (h - l)) else none
  | _, _, _ => none
@[go_sem] theorem aslR_arr (es sz : Nat) (nl : Bool) (els : List D) (id n a len l h : Nat) : aslR es (some (.arr sz nl els)) id n a len (some l) (some h) = if els.length = n ∧ sz = es ∧ l ≤ h ∧ h ≤ len ∧ (l < h ∨ l = 0) then some (.ref id n (a + l) (h - l)) else none := (Eq.refl _).trans rfl
@[go_sem] theorem aslice_ref (es : Nat) (z : D) (id n a len : Nat) (lo hi : Option Operand) : aslice (.sl es z) E H (.ref id n a len) lo hi none = aslR es H[id]? id n a len (bound? E lo 0) (bound? E hi len) := by
  cases hb : H[id]? with
  | none => simp [aslice, aslR, hb]
  | some b => cases b <;> cases h1 : bound? E lo 0 <;> cases h2 : bound? E hi len <;> simp [aslice, aslR, hb, h1, h2]
def aslS (s : ByteArray) (l h : Option Nat) : Option V :=
  match l, h with
  | some l, some h => if l ≤ h ∧ h ≤ s.size then some (.d (.str (s.extract l h))) else none
  | _, _ => none
@[go_sem] theorem aslS_some (s : ByteArray) (l h : Nat) : aslS s (some l) (some h) = if l ≤ h ∧ h ≤ s.size then some (.d (.str (s.extract l h))) else none := (Eq.refl _).trans rfl
@[go_sem] theorem aslice_str (z s : ByteArray) (lo hi : Option Operand) : aslice (.sc (.str z)) E H (.d (.str s)) lo hi none = aslS s (bound? E lo 0) (bound? E hi s.size) := by
  cases h1 : bound? E lo 0 <;> cases h2 : bound? E hi s.size <;> simp [aslice, aslS, h1, h2]

end
end Go.Aw
end
