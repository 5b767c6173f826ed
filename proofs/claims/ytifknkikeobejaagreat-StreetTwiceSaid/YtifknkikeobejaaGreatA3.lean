/- Every operation: what the evaluator says is what the model does. Calls, regions that draw nothing, control. Code: what the evaluator says is what the model does. The newest blocks of the abstract heap dropped; what lay in them is never written again. The newest blocks of the abstract heap dropped: states and steps. States that say less; functions. Calls: a contract on data alone, used where there is a heap; rows lent, or given away. -/
import Derived.Test.YtifknkikeobejaaGreatA2
import Derived.RangeFuncRecord
import Derived.Maps.RangeRun
import Derived.MapKept
import Derived.LoopNIn
import Derived.Scope
set_option linter.unusedSimpArgs false
set_option linter.unusedVariables false

section
namespace Go.Aw
open Go
open Go.ChangeMaps (setBlock)

section
variable {P : Program} {g : G} {H : Heap} {w : World} {K : V → Heap → Prop} {T : Nat → Ty} {hint : Nat → Bool}

variable {g' : G} {H' : Heap} {n : Nat}

theorem row_DCe {Z : Nat → Nat → Prop} {b es : Nat} {vs : Array Value} {t : TypeId} (hb : w.heap[b]? = some (.cells vs t (0, 0))) (hZ : ∀ o, Z b o) :
    ∀ (l : List D) (k : Nat), (∀ i x, l[i]? = some x → (k + i + 1) * es ≤ vs.toList.length ∧ (dcells x).length = es ∧ DC w Z x ((vs.toList.drop ((k + i) * es)).take es)) → DCe w Z l b (k * es) es
  | [], k, _ => trivial
  | d :: ds, k, hk => by
    simp only [DCe]
    obtain ⟨k1, k2, k3⟩ := hk 0 d rfl
    simp only [Nat.add_zero] at k1 k3
    refine ⟨⟨_, by rw [DC_length k3, k2], fun j hj => ⟨hZ _, ?_⟩, k3⟩, ?_⟩
    · rw [cell_of_block hb, chunk_get, if_pos hj]
      simp
    · have := row_DCe hb hZ ds (k + 1) (fun i x hx => by
        have := hk (i + 1) x (by simpa using hx)
        rw [show k + 1 + i = k + (i + 1) by omega]
        exact this)
      rwa [Nat.add_mul, Nat.one_mul] at this

/-- A slice over a row whose block is never written again. -/
theorem ref_frozen {Z' : Nat → Nat → Prop} (hr : HR g H w) (hz : ∀ b o, g.Z b o → Z' b o) {id m lo len sz : Nat} {nl : Bool} {els : List D} (he : H[id]? = some (.arr sz nl els)) (hm : els.length = m)
    (hf : ∀ b o, g.φ[id]? = some (some b) → Z' b o) {v : Value} (h : VR g H w (.ref id m lo len) v) : DR w Z' (.sl ((els.drop lo).take len)) v := by
  simp only [VR] at h
  obtain ⟨_, sz', nl', els', e1, e2, e3⟩ := h
  rw [he] at e1; cases e1
  obtain ⟨f1, f2⟩ := e3 hm
  simp only [DR, DC]
  rcases f2 with ⟨f2, f3, a, rfl, _⟩ | ⟨b, cap, vs, t, f2, rfl, f4, f5, f6⟩
  · rw [f2.2.1] at hm ⊢
    simp at hm
    exact ⟨a, 0, 0, rfl, by simp, Nat.le_refl _, fun _ => rfl, fun ad ha => ⟨fun h => absurd (by simp) h, 0, by simp [DCe]⟩⟩
  · refine ⟨_, len, cap, rfl, by simp; omega, f5, (fun h => nomatch h), fun ad ha => ?_⟩
    cases ha
    refine ⟨fun _ => rfl, sz, ?_⟩
    obtain ⟨_, _, _, vs', t', hw, har⟩ := hr.blk id b _ f2 he
    rw [f4] at hw; cases hw
    refine row_DCe f4 (fun o => hf b o f2) _ lo (fun i x hx => ?_)
    rw [chunk_get] at hx
    split at hx
    · rename_i hi
      obtain ⟨k1, k2⟩ := har.2 (lo + i) x hx
      have hle : (lo + i + 1) * sz ≤ els.length * sz := Nat.mul_le_mul_right _ (lt_of_getElem? hx)
      exact ⟨Nat.le_trans hle har.1, k1, DC_mono (fun b o z => ⟨hz b o z, rfl⟩) _ _ k2⟩
    · cases hx

theorem frz_state (hr : HR g H w) {id sz : Nat} {nl : Bool} {els : List D} (he : H[id]? = some (.arr sz nl els)) :
    ∃ g', HR g' (H.set id (.arr sz nl (els ++ [.nilp]))) w ∧ Kp g w g' w ∧ Ag g H w g' (H.set id (.arr sz nl (els ++ [.nilp]))) w ∧ (∀ b o, g.Z b o → g'.Z b o) ∧ ∀ b o, g.φ[id]? = some (some b) → g'.Z b o := by
  have hlt := lt_of_getElem? he
  have hltφ : id < g.φ.length := by rw [hr.len]; exact hlt
  have hset : (H.set id (.arr sz nl (els ++ [.nilp])))[id]? = some (.arr sz nl (els ++ [.nilp])) := by rw [List.getElem?_set_self hlt]
  have hne : ∀ j, j ≠ id → (H.set id (.arr sz nl (els ++ [.nilp])))[j]? = H[j]? := fun j hj => List.getElem?_set_ne (fun e => hj e.symm)
  have hsφ : (g.φ.set id none)[id]? = some none := by rw [List.getElem?_set_self hltφ]
  have hnφ : ∀ j, j ≠ id → (g.φ.set id none)[j]? = g.φ[j]? := fun j hj => List.getElem?_set_ne (fun e => hj e.symm)
  have old : ∀ j b : Nat, (g.φ.set id none)[j]? = some (some b) → j ≠ id ∧ g.φ[j]? = some (some b) := fun j b h => by
    by_cases hj : j = id
    · subst hj; rw [hsφ] at h; cases h
    · exact ⟨hj, by rw [← hnφ j hj]; exact h⟩
  have ha : Ag g H w ⟨fun b o => g.Z b o ∨ g.φ[id]? = some (some b), g.φ.set id none⟩ (H.set id (.arr sz nl (els ++ [.nilp]))) w := by
    intro j x hx
    by_cases hj : j = id
    · subst hj
      rw [he] at hx; cases hx
      exact ⟨nl, els ++ [.nilp], hset, by simp, fun h => by simp at h⟩
    · cases x with
      | cells cs => exact ⟨⟨cs, (hne j hj).trans hx, rfl⟩, hnφ j hj⟩
      | arr sz2 nl2 els2 => exact ⟨nl2, els2, (hne j hj).trans hx, Nat.le_refl _, fun _ => ⟨rfl, hnφ j hj, fun b vs t _ h => ⟨vs, h, rfl⟩⟩⟩
      | loop st pend E ps y z => exact ⟨⟨st, pend, (hne j hj).trans hx⟩, hnφ j hj⟩
      | obj o => exact ⟨⟨o, (hne j hj).trans hx, rfl⟩, hnφ j hj⟩
  have hz : Zk g.Z (fun b o => g.Z b o ∨ g.φ[id]? = some (some b)) w w := fun b o z => ⟨.inl z, rfl⟩
  refine ⟨⟨fun b o => g.Z b o ∨ g.φ[id]? = some (some b), g.φ.set id none⟩, ⟨by simp [hr.len], fun b o z => ?_, fun j b x hp hx => ?_, fun i j b hi hj => ?_⟩, ⟨rfl, rfl, rfl, Nat.le_refl _, fun _ _ _ => rfl, fun _ _ z => .inl z, fun b o z => ?_, fun j b hp => .inl (old j b hp).2⟩, ha, fun _ _ z => .inl z, fun b o h => .inr h⟩
  · rcases z with z | z
    · exact hr.zlt b o z
    · exact hr.lt z
  · obtain ⟨hj, hp'⟩ := old j b hp
    rw [hne j hj] at hx
    obtain ⟨h1, h2, h3⟩ := hr.blk j b x hp' hx
    refine ⟨h1, fun o z => ?_, BR_mono hz ha rfl h3⟩
    rcases z with z | z
    · exact h2 o z
    · exact hj (hr.inj _ _ _ hp' z)
  · exact hr.inj i j b (old i b hi).2 (old j b hj).2
  · rcases z with z | z
    · exact .inl z
    · exact .inr (.inr ⟨id, z⟩)

theorem Zk.same' {g' : G} (h : ∀ b o, g.Z b o → g'.Z b o) : Zk g.Z g'.Z w w := fun b o z => ⟨h b o z, rfl⟩

/-- What giving away comes to. -/
def Giv (g : G) (H : Heap) (w : World) (g' : G) (H' : Heap) : Prop := HR g' H' w ∧ Kp g w g' w ∧ Ag g H w g' H' w ∧ ∀ b o, g.Z b o → g'.Z b o

theorem Giv.refl (hr : HR g H w) : Giv g H w g H := ⟨hr, .refl g w, .refl g H w, fun _ _ z => z⟩

theorem Giv.trans {g' g'' : G} {H' H'' : Heap} (h : Giv g H w g' H') (k : Giv g' H' w g'' H'') : Giv g H w g'' H'' :=
  ⟨k.1, h.2.1.trans k.2.1, h.2.2.1.trans k.2.2.1, fun b o z => k.2.2.2 b o (h.2.2.2 b o z)⟩

theorem giv1_sound (hr : HR g H w) {v : V} {x : D} {H' : Heap} (h : giv1 H v = some (x, H')) : ∃ g', Giv g H w g' H' ∧ ∀ c, VR g H w v c → DC w g'.Z x [c] := by
  cases v with
  | ref id n lo len =>
    simp only [giv1] at h
    split at h
    · rename_i sz nl els he
      split at h
      · rename_i hn
        simp only [Option.some.injEq, Prod.mk.injEq] at h
        obtain ⟨rfl, rfl⟩ := h
        obtain ⟨g', h1, h2, h3, h4, h5⟩ := frz_state hr he
        exact ⟨g', ⟨h1, h2, h3, h4⟩, fun c hc => by simpa only [DR] using ref_frozen hr h4 he hn h5 hc⟩
      · cases h
    · cases h
  | d y =>
    cases y with
    | agg l => simp [giv1] at h
    | _ =>
      simp only [giv1, Option.some.injEq, Prod.mk.injEq] at h
      obtain ⟨rfl, rfl⟩ := h
      exact ⟨g, .refl hr, fun c hc => by simpa only [VR, DR] using hc⟩
  | slx nl l =>
    simp only [giv1, Option.some.injEq, Prod.mk.injEq] at h
    obtain ⟨rfl, rfl⟩ := h
    exact ⟨g, .refl hr, fun c hc => by simpa only [DR] using toD_sound (x := .slx nl l) rfl hc⟩
  | _ => simp [giv1] at h

theorem givs_sound : ∀ (vs : List V) {g : G} {H : Heap} (_ : HR g H w) {l : List D} {H' : Heap} (_ : givs H vs = some (l, H')), ∃ g', Giv g H w g' H' ∧ ∀ cs, VRs g H w vs cs → DCs w g'.Z l cs
  | [], g, H, hr, l, H', h => by
    simp only [givs, Option.some.injEq, Prod.mk.injEq] at h
    obtain ⟨rfl, rfl⟩ := h
    exact ⟨g, .refl hr, fun cs hc => by simpa only [VRs, DCs] using hc⟩
  | v :: r, g, H, hr, l, H', h => by
    simp only [givs] at h
    split at h
    · rename_i x H1 h1
      split at h
      · rename_i l2 H2 h2
        simp only [Option.some.injEq, Prod.mk.injEq] at h
        obtain ⟨rfl, rfl⟩ := h
        obtain ⟨g1, k1, k2⟩ := giv1_sound hr h1
        obtain ⟨g2, k3, k4⟩ := givs_sound r k1.1 h2
        refine ⟨g2, k1.trans k3, fun cs hc => ?_⟩
        simp only [VRs] at hc
        obtain ⟨c, cs', rfl, hc1, hc2⟩ := hc
        simp only [DCs]
        exact ⟨c, cs', rfl, DC_mono (Zk.same' k3.2.2.2) _ _ (k2 c hc1), k4 cs' (VRs_mono (Zk.same' k1.2.2.2) k1.2.2.1 _ _ hc2)⟩
      · cases h
    · cases h

theorem giv_sound (hr : HR g H w) {v : V} {x : D} {H' : Heap} (h : giv H v = some (x, H')) : ∃ g', Giv g H w g' H' ∧ ∀ c, VR g H w v c → DR w g'.Z x c := by
  have one : ∀ {v : V} {x : D} {H' : Heap}, giv1 H v = some (x, H') → ∃ g', Giv g H w g' H' ∧ ∀ c, VR g H w v c → DR w g'.Z x c := by
    intro v x H' h
    obtain ⟨g', h1, h2⟩ := giv1_sound hr h
    refine ⟨g', h1, fun c hc => ?_⟩
    have := h2 c hc
    cases x with
    | agg l =>
      exfalso
      cases v with
      | ref id n lo len =>
        simp only [giv1] at h
        split at h
        · split at h
          · simp at h
          · cases h
        · cases h
      | d y => cases y <;> simp [giv1] at h
      | slx nl l => simp [giv1] at h
      | _ => simp [giv1] at h
    | _ => exact this
  cases v with
  | agg cs =>
    simp only [giv] at h
    split at h
    · rename_i l H1 h1
      simp only [Option.some.injEq, Prod.mk.injEq] at h
      obtain ⟨rfl, rfl⟩ := h
      obtain ⟨g', k1, k2⟩ := givs_sound cs hr h1
      refine ⟨g', k1, fun c hc => ?_⟩
      simp only [VR] at hc
      obtain ⟨vs, rfl, hc⟩ := hc
      exact ⟨vs, rfl, k2 _ hc⟩
    · cases h
  | d y =>
    cases y with
    | agg l =>
      simp only [giv, Option.some.injEq, Prod.mk.injEq] at h
      obtain ⟨rfl, rfl⟩ := h
      exact ⟨g, .refl hr, fun c hc => hc⟩
    | _ => exact one h
  | _ => exact one h

theorem PartsD_mono {Z Z' : Nat → Nat → Prop} (hz : Zk Z Z' w w) {a : Act} {es : Nat} : ∀ (parts : List (Nat × Operand)) (k : Nat) (l : List D), PartsD w Z a es k parts l → PartsD w Z' a es k parts l
  | [], _, _, h => h
  | (j, x) :: r, k, l, h => by
    obtain ⟨y, l', h1, h2, h3, h4, h5⟩ := h
    exact ⟨y, l', h1, h2, h3, DC_mono hz _ _ h4, PartsD_mono hz r _ _ h5⟩

theorem elemG_sound {E : Env} {a : Act} {es : Nat} : ∀ (parts : List (Nat × Operand)) (k : Nat) {g : G} {H : Heap} (_ : HR g H w) (_ : ER g H w E a.tmps) {l : List D} {H' : Heap}, elemG E es k H parts = some (l, H') →
    ∃ g', Giv g H w g' H' ∧ PartsD w g'.Z a es k parts l
  | [], k, g, H, hr, he, l, H', h => by
    simp only [elemG, Option.some.injEq, Prod.mk.injEq] at h
    obtain ⟨rfl, rfl⟩ := h
    exact ⟨g, .refl hr, rfl⟩
  | (j, x) :: r, k, g, H, hr, he, l, H', h => by
    simp only [elemG] at h
    split at h
    · rename_i y H1 h1
      split at h
      · rename_i l2 H2 h2
        split at h
        · rename_i hc
          simp only [Option.some.injEq, Prod.mk.injEq] at h
          obtain ⟨rfl, rfl⟩ := h
          obtain ⟨g1, k1, k2⟩ := giv_sound hr h1
          obtain ⟨g2, k3, k4⟩ := elemG_sound r (k + 1) k1.1 (fun t => VR_mono (Zk.same' k1.2.2.2) k1.2.2.1 _ _ (he t)) h2
          exact ⟨g2, k1.trans k3, y, l2, rfl, hc.1, hc.2, DC_mono (Zk.same' k3.2.2.2) _ _ (DR_cells (k2 _ (ge_sound he x))), k4⟩
        · cases h
      · cases h
    · cases h

/-! ### Maps -/

theorem MR_get {Z : Nat → Nat → Prop} : ∀ (es : List (D × D)) (k : Nat) (l : List MapEntry), MR w Z k es l → ∀ (i : Nat) e, l[i]? = some e → e.born = k + i ∧ ∃ p, es[i]? = some p ∧ DR w Z p.1 e.key ∧ DR w Z p.2 e.val
  | [], _, l, h, i, e, he => by simp only [MR] at h; subst h; simp at he
  | p :: r, k, l, h, i, e, he => by
    obtain ⟨e0, l', rfl, h2, h3, h4, h5⟩ := h
    cases i with
    | zero => simp at he; subst he; exact ⟨by omega, p, rfl, h3, h4⟩
    | succ i =>
      obtain ⟨k1, q, k2, k3⟩ := MR_get r (k + 1) l' h5 i e (by simpa using he)
      exact ⟨by omega, q, by simpa using k2, k3⟩

theorem keq_sound {Z : Nat → Nat → Prop} {kz k a : D} {kv av : Value} {kd : TypeDesc} (hkd : kok kz k = true) (hz : (∀ i n, kz = .int i n → kd = .int i) ∧ (∀ s, kz = .str s → kd = .string) ∧ ∀ b, kz = .bool b → kd = .bool)
    (h1 : DR w Z k kv) (h2 : DR w Z a av) {r : Bool} (h : keq k a = some r) : Instr.sameNow kd kv av = some r := by
  obtain ⟨z1, z2, z3⟩ := hz
  cases k with
  | int i m =>
    cases kz with
    | int j n =>
      simp only [kok, decide_eq_true_eq] at hkd; subst hkd
      cases a with
      | int i' m' =>
        simp only [DR, DC] at h1 h2
        simp at h1 h2; subst h1; subst h2
        rw [z1 _ _ rfl]; exact h
      | _ => simp [keq] at h
    | _ => simp [kok] at hkd
  | str s =>
    cases kz with
    | str s0 =>
      cases a with
      | str s' =>
        simp only [DR, DC] at h1 h2
        simp at h1 h2; subst h1; subst h2
        rw [z2 _ rfl]; exact h
      | _ => simp [keq] at h
    | _ => simp [kok] at hkd
  | bool b =>
    cases kz with
    | bool b0 =>
      cases a with
      | bool b' =>
        simp only [DR, DC] at h1 h2
        simp at h1 h2; subst h1; subst h2
        rw [z3 _ rfl]; exact h
      | _ => simp [keq] at h
    | _ => simp [kok] at hkd
  | _ => cases kz <;> simp [kok] at hkd

/-- Where a key stands. -/
def mpos (k : D) : List (D × D) → Nat → Option Nat
  | [], _ => none
  | (a, _) :: r, i => if keq k a = some true then some i else mpos k r (i + 1)

theorem findNow_sound {Z : Nat → Nat → Prop} {kz k : D} {kv : Value} {kd : TypeDesc} (hkd : kok kz k = true) (hz : (∀ i n, kz = .int i n → kd = .int i) ∧ (∀ s, kz = .str s → kd = .string) ∧ ∀ b, kz = .bool b → kd = .bool)
    (h1 : DR w Z k kv) : ∀ (es : List (D × D)) (l : List MapEntry) (j i : Nat), MR w Z j es l →
    (∀ r, mfind k es = some r → match r with
      | some v => ∃ q e, mpos k es i = some (i + q) ∧ l[q]? = some e ∧ Instr.findNow kd kv l i = some (some (i + q, e.val)) ∧ DR w Z v e.val ∧ (∃ a, es[q]? = some (a, v) ∧ keq k a = some true)
      | none => Instr.findNow kd kv l i = some none ∧ mpos k es i = none)
  | [], l, j, i, h, r, hr => by
    simp only [MR] at h; subst h
    simp only [mfind, Option.some.injEq] at hr; subst hr
    exact ⟨rfl, rfl⟩
  | (a, b) :: es, l, j, i, h, r, hr => by
    obtain ⟨e, l', rfl, h2, h3, h4, h5⟩ := h
    simp only [mfind] at hr
    split at hr
    · rename_i hk
      simp only [Option.some.injEq] at hr; subst hr
      exact ⟨0, e, by simp [mpos, hk], rfl, by simp [Instr.findNow, keq_sound hkd hz h1 h3 hk], h4, a, rfl, hk⟩
    · rename_i hk
      have := findNow_sound hkd hz h1 es l' (j + 1) (i + 1) h5 r hr
      cases r with
      | some v =>
        obtain ⟨q, e', k1, k2, k3, k4, a', k5, k6⟩ := this
        refine ⟨q + 1, e', ?_, by simpa using k2, ?_, k4, a', by simpa using k5, k6⟩
        · simp only [mpos, hk]
          rw [if_neg (by simp), k1]; congr 1; omega
        · simp only [Instr.findNow, keq_sound hkd hz h1 h3 hk]
          rw [k3, show i + 1 + q = i + (q + 1) by omega]
      | none =>
        obtain ⟨k1, k2⟩ := this
        refine ⟨?_, ?_⟩
        · simp only [Instr.findNow, keq_sound hkd hz h1 h3 hk]; exact k1
        · simp only [mpos, hk]
          rw [if_neg (by simp), k2]
    · cases hr

theorem run_checkKey {kz k : D} {kv : Value} {kt : TypeId} {kd : TypeDesc} {b : Bool} {n : Nat} (hu : P.underlying kt = some kd) (hkd : kok kz k = true) (hz : (∀ i n, kz = .int i n → kd = .int i) ∧ (∀ s, kz = .str s → kd = .string) ∧ ∀ b, kz = .bool b → kd = .bool) :
    (Instr.checkKey b (n + 1) kt kv).run P w = .ok () w := by
  obtain ⟨z1, z2, z3⟩ := hz
  unfold Instr.checkKey
  simp only [Sem.run_bind, run_underlying hu, Result.andThen_ok]
  cases kz with
  | int i m => rw [z1 _ _ rfl]; rfl
  | str s => rw [z2 _ rfl]; rfl
  | bool s => rw [z3 _ rfl]; rfl
  | _ => cases k <;> simp [kok] at hkd

theorem run_findKey {kt : TypeId} {kd : TypeDesc} {kv : Value} {l : List MapEntry} {r : Option (Nat × Value)} (hu : P.underlying kt = some kd) (h : Instr.findNow kd kv l 0 = some r) : (Instr.findKey kt kv l).run P w = .ok r w := by
  unfold Instr.findKey
  simp only [Sem.run_bind, run_underlying hu, Result.andThen_ok, h]
  rfl

/-- What a map's value is, in a world. -/
theorem mcont_sound (hr : HR g H w) {m : V} {cm : Value} (hm : VR g H w m cm) {es : List (D × D)} (h : mcont H m = some es) :
    (∃ r ents, cm = .map (some r) ∧ w.heap[r]? = some (.map ents es.length) ∧ MR w g.Z 0 es ents.toList) ∨ (cm = .map none ∧ es = []) := by
  cases m with
  | obj id =>
    simp only [mcont] at h
    split at h
    · rename_i es' hid
      simp only [Option.some.injEq] at h; subst h
      simp only [VR] at hm
      obtain ⟨b, o, h1, h2, h3⟩ := hm
      rw [hid] at h1; cases h1
      obtain ⟨_, _, ents, k1, k2⟩ := hr.blk id b _ h2 hid
      exact .inl ⟨b, ents, by simpa [AObj.kind] using h3, k1, k2⟩
    · cases h
  | d x =>
    cases x with
    | nilm =>
      simp only [mcont, Option.some.injEq] at h
      simp only [VR, DR, DC] at hm
      exact .inr ⟨by simpa using hm, h.symm⟩
    | _ => simp [mcont] at h
  | _ => simp [mcont] at h

theorem alook_sound (hr : HR g H w) {t : TypeId} {kz z : D} (hty : TyOK P t (.mp kz z)) {m k : V} {cm ck : Value} (hm : VR g H w m cm) (hk : VR g H w k ck) {ok : Bool} {v : V} (h : alook (.mp kz z) ok H m k = some v) :
    ∃ c, (Instr.lookup t cm ck ok).run P w = .ok c w ∧ VR g H w v c := by
  obtain ⟨⟨kt, et, kd, j, zv, hu, hku, hej, hez, hzv, hz⟩, _⟩ := hty
  simp only [alook] at h
  split at h
  · rename_i es kd' heq hes
    cases heq
    split at h
    · rename_i hkok
      have hk' : DR w g.Z kd' ck := hk
      rcases mcont_sound hr hm hes with ⟨r, ents, rfl, h1, h2⟩ | ⟨rfl, rfl⟩
      · split at h
        · rename_i v' hf
          obtain ⟨q, e, _, _, k1, k2, _⟩ := findNow_sound hkok hz hk' es ents.toList 0 0 h2 _ hf
          simp only [Option.some.injEq] at h; subst h
          refine ⟨if ok = true then .tuple #[e.val, .bool true] else e.val, ?_, ?_⟩
          · unfold Instr.lookup
            simp only [Sem.run_bind, run_underlying hu, Result.andThen_ok, run_getMap h1, Sem.run_pure, run_checkKey hku hkok hz, run_findKey hku k1]
          · cases ok
            · exact k2
            · exact ⟨_, rfl, _, _, rfl, k2, _, _, rfl, rfl, rfl⟩
        · rename_i hf
          obtain ⟨k1, _⟩ := findNow_sound hkok hz hk' es ents.toList 0 0 h2 _ hf
          simp only [Option.some.injEq] at h; subst h
          refine ⟨if ok = true then .tuple #[zv, .bool false] else zv, ?_, ?_⟩
          · unfold Instr.lookup
            simp only [Sem.run_bind, run_underlying hu, Result.andThen_ok, run_getMap h1, Sem.run_pure, run_checkKey hku hkok hz, run_findKey hku k1, run_zeroValue hej hez]
          · cases ok
            · exact hzv w g.Z
            · exact ⟨_, rfl, _, _, rfl, hzv w g.Z, _, _, rfl, rfl, rfl⟩
        · cases h
      · simp only [mfind, Option.some.injEq] at h; subst h
        refine ⟨if ok = true then .tuple #[zv, .bool false] else zv, ?_, ?_⟩
        · unfold Instr.lookup
          simp only [Sem.run_bind, run_underlying hu, Result.andThen_ok, Sem.run_pure, run_checkKey hku hkok hz, run_findKey (l := []) (kv := ck) (r := none) hku rfl, run_zeroValue hej hez]
        · cases ok
          · exact hzv w g.Z
          · exact ⟨_, rfl, _, _, rfl, hzv w g.Z, _, _, rfl, rfl, rfl⟩
    · cases h
  · cases h

theorem MR_of {Z : Nat → Nat → Prop} : ∀ (es : List (D × D)) (k : Nat) (l : List MapEntry), l.length = es.length → (∀ i e p, l[i]? = some e → es[i]? = some p → e.born = k + i ∧ DR w Z p.1 e.key ∧ DR w Z p.2 e.val) → MR w Z k es l
  | [], _, l, hl, _ => by simpa [MR] using hl
  | p :: r, k, l, hl, h => by
    cases l with
    | nil => simp at hl
    | cons e l' =>
      obtain ⟨h1, h2, h3⟩ := h 0 e p rfl rfl
      refine ⟨e, l', rfl, by simpa using h1, h2, h3, MR_of r (k + 1) l' (by simpa using hl) fun i e' p' he hp => ?_⟩
      obtain ⟨k1, k2⟩ := h (i + 1) e' p' (by simpa using he) (by simpa using hp)
      exact ⟨by omega, k2⟩

theorem MR_at {Z : Nat → Nat → Prop} {es : List (D × D)} {k : Nat} {l : List MapEntry} (h : MR w Z k es l) {i : Nat} {e : MapEntry} {p : D × D} (he : l[i]? = some e) (hp : es[i]? = some p) : e.born = k + i ∧ DR w Z p.1 e.key ∧ DR w Z p.2 e.val := by
  obtain ⟨h1, q, h2, h3⟩ := MR_get es k l h i e he
  rw [hp] at h2; cases h2
  exact ⟨h1, h3⟩

theorem mput_spec (k v : D) : ∀ (es es' : List (D × D)) (i : Nat), mput k v es = some es' → match mpos k es i with
    | some p => ∃ q, p = i + q ∧ q < es.length ∧ es' = es.set q (k, v)
    | none => es' = es ++ [(k, v)]
  | [], es', i, h => by simp only [mput, Option.some.injEq] at h; subst h; rfl
  | (a, b) :: r, es', i, h => by
    simp only [mput] at h
    split at h
    · rename_i hk
      simp only [Option.some.injEq] at h; subst h
      simp only [mpos, hk, if_true]
      exact ⟨0, rfl, by simp, rfl⟩
    · rename_i hk
      split at h
      · rename_i r' hr
        simp only [Option.some.injEq] at h; subst h
        have := mput_spec k v r r' (i + 1) hr
        simp only [mpos, hk]
        rw [if_neg (by simp)]
        cases hm : mpos k r (i + 1) with
        | none => rw [hm] at this; simp only at this ⊢; rw [this]; rfl
        | some p =>
          rw [hm] at this
          obtain ⟨q, h1, h2, h3⟩ := this
          exact ⟨q + 1, by omega, by simp; omega, by rw [h3]; rfl⟩
      · cases h
    · cases h

theorem mput_find {k v : D} : ∀ {es es' : List (D × D)}, mput k v es = some es' → ∃ r, mfind k es = some r
  | [], _, _ => ⟨none, rfl⟩
  | (a, b) :: r, es', h => by
    simp only [mput] at h
    simp only [mfind]
    split at h
    · rename_i hk; exact ⟨_, rfl⟩
    · rename_i hk
      split at h
      · rename_i r' hr; exact mput_find hr
      · cases h
    · cases h

theorem keq_bits {Z : Nat → Nat → Prop} {k a : D} {kv av : Value} (h1 : DR w Z k kv) (h2 : DR w Z a av) (h : keq k a = some true) : Instr.sameBits 10000 av kv = true := by
  cases k with
  | int i m =>
    cases a with
    | int i' m' =>
      simp only [keq] at h
      split at h
      · rename_i hi
        subst hi
        simp at h; subst h
        simp only [DR, DC] at h1 h2
        simp at h1 h2; subst h1; subst h2
        simp [Instr.sameBits]
      · cases h
    | _ => simp [keq] at h
  | str s =>
    cases a with
    | str s' =>
      simp only [keq, Option.some.injEq] at h
      obtain rfl := (Go.MapKept.bytes_beq _ _).1 h
      simp only [DR, DC] at h1 h2
      simp at h1 h2; subst h1; subst h2
      simpa [Instr.sameBits] using h
    | _ => simp [keq] at h
  | bool s =>
    cases a with
    | bool s' =>
      simp only [keq, Option.some.injEq] at h
      obtain rfl := eq_of_beq h
      simp only [DR, DC] at h1 h2
      simp at h1 h2; subst h1; subst h2
      simp [Instr.sameBits]
    | _ => simp [keq] at h
  | _ => cases a <;> simp [keq] at h

theorem run_setMap {r : Nat} {es es' : Array MapEntry} {c c' : Nat} (h : w.heap[r]? = some (.map es c)) : (setObj r (.map es' c')).run P w = .ok () (w.putObj r (.map es' c')) := by
  have hlt := (Array.getElem?_eq_some_iff.1 h).1
  simp [setObj, Sem.run, h, World.putObj]

theorem run_setIter {r : Nat} {m m' : Option Nat} {n k n' k' : Nat} {s s' : Array Nat} (h : w.heap[r]? = some (.mapIter m n s k)) : (setObj r (.mapIter m' n' s' k')).run P w = .ok () (w.putObj r (.mapIter m' n' s' k')) := by
  simp [setObj, Sem.run, h, World.putObj]

/-- A map's entry is set, or is new. -/
theorem aput_post (hr : HR g H w) {t : TypeId} {kz z : D} (hty : TyOK P t (.mp kz z)) {m k x : V} {cm ck cx : Value} (hm : VR g H w m cm) (hk : VR g H w k ck) (hx : VR g H w x cx) {H' : Heap} (h : aput (.mp kz z) H m k x = some H') (hK : K .und H') :
    OpPost g H w K (((do Instr.mapUpdate t cm ck cx; pure .skip : Sem Next)).run P w) := by
  obtain ⟨⟨kt, et, kd, j, zv, hu, hku, hej, hez, hzv, hz⟩, _⟩ := hty
  unfold aput at h
  split at h
  · rename_i id kk v heq hv
    cases heq
    split at h
    · rename_i es hid
      split at h
      · rename_i hkok
        split at h
        · rename_i es' hput
          simp only [Option.some.injEq] at h; subst h
          have hk' : DR w g.Z kk ck := hk
          have hv' : DR w g.Z v cx := toD_sound hv hx
          simp only [VR] at hm
          obtain ⟨b, o, h1, h2, rfl⟩ := hm
          rw [hid] at h1; cases h1
          obtain ⟨hb1, hb2, ents, k1, k2⟩ := hr.blk id b _ h2 hid
          have hlen := MR_len es 0 ents.toList k2
          obtain ⟨fr, hf⟩ := mput_find hput
          have hfs := findNow_sound hkok hz hk' es ents.toList 0 0 k2 fr hf
          have hspec := mput_spec kk v es es' 0 hput
          have fin : ∀ (ents' : Array MapEntry) (c' : Nat), c' = es'.length → (∀ Z, Zk g.Z Z w (w.putObj b (.map ents' c')) → MR (w.putObj b (.map ents' c')) Z 0 es' ents'.toList) → (Instr.mapUpdate t (.map (some b)) ck cx).run P w = .ok () (w.putObj b (.map ents' c')) →
              OpPost g H w K (((do Instr.mapUpdate t (.map (some b)) ck cx; pure .skip : Sem Next)).run P w) := by
            intro ents' c' hc' hmr hrun
            subst hc'
            obtain ⟨r1, r2, r3⟩ := set_blk (x' := .obj (.map es')) hr h2 hid (o' := .map ents' es'.length) (w' := w.putObj b (.map ents' es'.length)) rfl rfl rfl (World.putObj_size ..) (World.putObj_heap_same hb1) (fun k hk => World.putObj_heap_other hk) rfl
              (fun hz ha => ⟨ents', World.putObj_heap_same hb1, hmr _ hz⟩)
            exact ⟨undef, _, g, .und, _, .inr ⟨unit_run hrun, rfl⟩, hK, trivial, r1, r2, r3⟩
          cases fr with
          | none =>
            obtain ⟨f1, f2⟩ := hfs
            rw [f2] at hspec
            simp only at hspec
            subst hspec
            refine fin (ents.push { key := ck, val := cx, born := es.length }) (es.length + 1) (by simp) (fun Z hzk => ?_) ?_
            · refine MR_of _ _ _ (by simp at hlen ⊢; omega) fun i e p he hp => ?_
              simp only [Array.toList_push] at he
              by_cases hi : i < es.length
              · rw [List.getElem?_append_left (by simp at hlen ⊢; omega)] at he
                rw [List.getElem?_append_left hi] at hp
                obtain ⟨e1, e2, e3⟩ := MR_at k2 he hp
                exact ⟨e1, DR_mono hzk e2, DR_mono hzk e3⟩
              · have hl2 : ents.toList.length = es.length := hlen
                rw [List.getElem?_append_right (by omega), hl2] at he
                rw [List.getElem?_append_right (by omega)] at hp
                cases hie : i - es.length with
                | zero =>
                  rw [hie] at he hp
                  simp at he hp; subst he; subst hp
                  exact ⟨by simp; omega, DR_mono hzk hk', DR_mono hzk hv'⟩
                | succ q => rw [hie] at hp; simp at hp
            · unfold Instr.mapUpdate
              simp only [Sem.run_bind, run_underlying hu, Result.andThen_ok, run_getMap k1, run_checkKey hku hkok hz, run_findKey hku f1, run_setMap k1]
          | some v0 =>
            obtain ⟨q, e, f1, f2, f3, f4, a0, f5, f6⟩ := hfs
            rw [f1] at hspec
            obtain ⟨q', g1, g2, rfl⟩ := hspec
            obtain rfl : q' = q := by omega
            obtain ⟨b1, b2, b3⟩ := MR_at k2 f2 f5
            have hsb := keq_bits hk' b2 f6
            have heq : ents[q']? = some e := by rw [← f2]; simp
            have hql : q' < ents.size := by have := lt_of_getElem? f2; simpa using this
            refine fin (ents.modify q' fun e => { e with key := ck, val := cx }) es.length (by simp) (fun Z hzk => ?_) ?_
            · refine MR_of _ _ _ (by simp at hlen ⊢; omega) fun i e1 p he hp => ?_
              have he' : (ents.modify q' fun e => { e with key := ck, val := cx })[i]? = some e1 := by rw [← he, Array.getElem?_toList]
              rw [Array.getElem?_modify] at he'
              rw [List.getElem?_set] at hp
              by_cases hi : q' = i
              · subst hi
                rw [if_pos rfl, if_pos g2] at hp
                rw [if_pos rfl, heq] at he'
                simp at he' hp; subst he'; subst hp
                exact ⟨b1, DR_mono hzk hk', DR_mono hzk hv'⟩
              · rw [if_neg hi] at hp he'
                obtain ⟨e2, e3, e4⟩ := MR_at k2 (by rw [← he']; simp) hp
                exact ⟨e2, DR_mono hzk e3, DR_mono hzk e4⟩
            · unfold Instr.mapUpdate
              simp only [Nat.zero_add] at f3
              simp only [Sem.run_bind, run_underlying hu, Result.andThen_ok, run_getMap k1, run_checkKey hku hkok hz, run_findKey hku f3, heq, Option.map_some, Option.getD_some, Instr.keyThatStays, hsb, if_true, Sem.run_pure, run_setMap k1]
        · cases h
      · cases h
    · cases h
  · cases h

theorem new_obj (hr : HR g H w) {o : AObj} {ob : Obj} (hbr : ∀ (g' : G) (w' : World), Zk g.Z g'.Z w w' → Ag g H w g' (H ++ [.obj o]) w' → w'.heap[w.heap.size]? = some ob → BR g' (H ++ [.obj o]) w' w.heap.size (.obj o)) :
    HR ⟨g.Z, g.φ ++ [some w.heap.size]⟩ (H ++ [.obj o]) (w.alloc ob) ∧ Kp g w ⟨g.Z, g.φ ++ [some w.heap.size]⟩ (w.alloc ob) ∧ Ag g H w ⟨g.Z, g.φ ++ [some w.heap.size]⟩ (H ++ [.obj o]) (w.alloc ob) ∧
      VR ⟨g.Z, g.φ ++ [some w.heap.size]⟩ (H ++ [.obj o]) (w.alloc ob) (.obj H.length) (if o.kind = true then .map (some w.heap.size) else .pointer (some ⟨w.heap.size, 0, none⟩)) := by
  obtain ⟨h1, h2, h3⟩ := alloc_blk hr ob (.obj o) (fun g' w' hz ha hn _ => hbr g' w' hz ha hn)
  refine ⟨h1, h2, h3, ?_⟩
  simp only [VR]
  exact ⟨_, o, by simp, by rw [← hr.len]; simp, rfl⟩

/-- What comes next of a map that is ranged over. -/
theorem anext_post (hr : HR g H w) {x : V} {cx : Value} (hx : VR g H w x cx) {t : TypeId} (h : anext H x K) : OpPost g H w K (((do pure (.value (← Instr.next cx false t)) : Sem Next)).run P w) := by
  unfold anext at h
  split at h
  · rename_i id
    split at h
    · rename_i mid n seen hid
      split at h
      · rename_i es hmid
        obtain ⟨hn, hend, hgo⟩ := h
        simp only [VR] at hx
        obtain ⟨b, o, h1, h2, rfl⟩ := hx
        rw [hid] at h1; cases h1
        obtain ⟨hb1, hb2, mb, es0, sA, k1, k2, k3, k4⟩ := hr.blk id b _ h2 hid
        rw [hmid] at k1; cases k1
        obtain ⟨_, _, ents, m1, m2⟩ := hr.blk mid mb _ k2 hmid
        have hl := MR_len es 0 ents.toList m2
        have hborn : ∀ e ∈ ents.toList, e.born < n := fun e he => by
          obtain ⟨i, hi, hie⟩ := List.getElem_of_mem he
          have := (MR_get es 0 ents.toList m2 i e (by rw [List.getElem?_eq_getElem hi, hie])).1
          omega
        rcases run_next_at (P := P) w t b mb n n sA ents es.length k3 m1 hborn (Nat.le_refl n) with ⟨h0, hrun⟩ | ⟨e, he, w1, hw1, hrun⟩
        · refine post_same hr (val_run hrun) (hend fun i hi => ?_) ⟨_, rfl, _, _, rfl, rfl, rfl⟩
          have hil : i < ents.toList.length := by omega
          obtain ⟨q1, _⟩ := MR_get es 0 ents.toList m2 i _ (List.getElem?_eq_getElem hil)
          rw [Nat.zero_add] at q1
          refine Classical.byContradiction fun hns => ?_
          have hin : ents.toList[i] ∈ (leftOf ents sA).toList := by
            simp only [leftOf, Array.toList_filter, List.mem_filter, List.getElem_mem, true_and, q1]
            simp only [Array.contains_toList.symm, k4]
            simpa using hns
          have := List.length_pos_of_mem hin
          simp at this
          omega
        · simp only [leftOf, Array.toList_filter, List.mem_filter] at he
          obtain ⟨he1, he2⟩ := he
          obtain ⟨i, hi, hie⟩ := List.getElem_of_mem he1
          obtain ⟨q1, p, q2, q3, q4⟩ := MR_get es 0 ents.toList m2 i e (by rw [List.getElem?_eq_getElem hi, hie])
          rw [Nat.zero_add] at q1
          have hns : i ∉ seen := by
            rw [q1] at he2
            rw [← k4]
            simpa using he2
          have hK := hgo i p q2 hns
          have main : ∀ w1 : World, w1.heap = w.heap → HR g H w1 → (∀ x v, DR w g.Z x v → DR w1 g.Z x v) → ∀ {res : Result Next}, res = .ok (.value (.tuple #[.bool true, e.key, e.val])) (setBlock w1 b (.mapIter (some mb) n (sA.push e.born) es.length)) → OpPost g H w1 K res := by
            intro w1 hh hr1 hd res hres
            have hbl : b < w1.heap.size := by rw [hh]; exact hb1
            obtain ⟨r1, r2, r3⟩ := set_blk (x' := .obj (.iter mid n (seen ++ [i]))) hr1 h2 hid (o' := .mapIter (some mb) n (sA.push e.born) es.length) (w' := setBlock w1 b (.mapIter (some mb) n (sA.push e.born) es.length)) rfl rfl rfl (by simp [setBlock])
              (by simp [setBlock, hbl]) (fun k hk => by simp only [setBlock]; rw [Array.getElem?_setIfInBounds_ne (fun e => hk e.symm)]) rfl
              (fun hz ha => by
                have hne : mid ≠ id := fun e => by subst e; rw [hid] at hmid; cases hmid
                exact ⟨mb, es, sA.push e.born, by rw [List.getElem?_set_ne (fun e => hne e.symm)]; exact hmid, k2, by rw [hn]; simp [setBlock, hbl], by simp [k4, q1]⟩)
            refine ⟨_, _, g, _, _, .inl hres, hK, ?_, r1, r2, r3⟩
            have hz : Zk g.Z g.Z w1 (setBlock w1 b (.mapIter (some mb) n (sA.push e.born) es.length)) := hr1.zk r2
            exact ⟨_, rfl, _, _, rfl, rfl, _, _, rfl, DR_mono hz (hd _ _ q3), _, _, rfl, DR_mono hz (hd _ _ q4), rfl⟩
          rcases hw1 with rfl | rfl
          · exact main w1 rfl hr (fun _ _ h => h) (val_run hrun)
          · exact drew_post hr fun hr1 _ => main w.drew rfl hr1 (fun _ _ h => DR_mono (zk_drew hr) h) (val_run hrun)
      · exact h.elim
    · exact h.elim
  · exact h.elim

theorem run_getStr {r : Nat} {s : ByteArray} {p : Nat} (h : w.heap[r]? = some (.stringIter s p)) : (getObj r).run P w = .ok (.stringIter s p) w := by
  simp [getObj, Sem.run, h]

theorem run_setStr {r : Nat} {s s' : ByteArray} {p p' : Nat} (h : w.heap[r]? = some (.stringIter s p)) : (setObj r (.stringIter s' p')).run P w = .ok () (w.putObj r (.stringIter s' p')) := by
  simp [setObj, Sem.run, h, World.putObj]

/-- What comes next of a string that is ranged over. -/
theorem asnext_post (hr : HR g H w) {x : V} {cx : Value} (hx : VR g H w x cx) {t : TypeId} (h : asnext H x K) : OpPost g H w K (((do pure (.value (← Instr.next cx true t)) : Sem Next)).run P w) := by
  unfold asnext at h
  split at h
  · rename_i id
    split at h
    · rename_i s pos hid
      simp only [VR] at hx
      obtain ⟨b, o, h1, h2, rfl⟩ := hx
      rw [hid] at h1; cases h1
      obtain ⟨hb1, hb2, k1⟩ := hr.blk id b _ h2 hid
      have k1' : w.heap[b]? = some (.stringIter s pos) := k1
      by_cases hp : pos < s.size
      · rw [show decide (pos < s.size) = true by simpa using hp, Br_true] at h
        have hrun : (Instr.next (.pointer (some ⟨b, 0, none⟩)) true t).run P w = .ok (.tuple #[.bool true, goInt pos, .int .i32 (Utf8.decode s pos).1]) (w.putObj b (.stringIter s (pos + (Utf8.decode s pos).2))) := by
          unfold Instr.next
          simp only [Sem.run_bind, run_getStr k1', Result.andThen_ok, hp, if_true, run_setStr k1', Sem.run_pure]
        obtain ⟨r1, r2, r3⟩ := set_blk (x' := .obj (.sit s (pos + (Utf8.decode s pos).2))) hr h2 hid (o' := .stringIter s (pos + (Utf8.decode s pos).2)) (w' := w.putObj b (.stringIter s (pos + (Utf8.decode s pos).2))) rfl rfl rfl (World.putObj_size ..) (World.putObj_heap_same hb1) (fun k hk => World.putObj_heap_other hk) rfl
          (fun hz ha => World.putObj_heap_same hb1)
        exact ⟨_, _, g, _, _, .inl (val_run hrun), h, ⟨_, rfl, _, _, rfl, rfl, _, _, rfl, rfl, _, _, rfl, rfl, rfl⟩, r1, r2, r3⟩
      · rw [show decide (pos < s.size) = false by simpa using hp, Br_false] at h
        have hrun : (Instr.next (.pointer (some ⟨b, 0, none⟩)) true t).run P w = .ok (.tuple #[.bool false]) w := by
          unfold Instr.next
          simp only [Sem.run_bind, run_getStr k1', Result.andThen_ok, hp, if_false, Sem.run_pure]
        exact post_same hr (val_run hrun) h ⟨_, rfl, _, _, rfl, rfl, rfl⟩
    · exact h.elim
  · exact h.elim

/-- The entry that has just come. -/
theorem aentry_sound (hr : HR g H w) {x v : V} {cx : Value} (hx : VR g H w x cx) (h : aentry H x = some v) : ∃ c, (Instr.entry cx).run P w = .ok c w ∧ VR g H w v c := by
  unfold aentry at h
  split at h
  · rename_i id
    split at h
    · rename_i mid n seen hid
      split at h
      · rename_i i es hs hmid
        split at h
        · rename_i hn
          split at h
          · rename_i p hp
            simp only [Option.some.injEq] at h; subst h
            simp only [VR] at hx
            obtain ⟨b, o, h1, h2, rfl⟩ := hx
            rw [hid] at h1; cases h1
            obtain ⟨hb1, hb2, mb, es0, sA, k1, k2, k3, k4⟩ := hr.blk id b _ h2 hid
            rw [hmid] at k1; cases k1
            obtain ⟨_, _, ents, m1, m2⟩ := hr.blk mid mb _ k2 hmid
            have hl := MR_len es 0 ents.toList m2
            have hi : i < ents.toList.length := by have := lt_of_getElem? hp; omega
            obtain ⟨q1, p', q2, q3, q4⟩ := MR_get es 0 ents.toList m2 i _ (List.getElem?_eq_getElem hi)
            rw [hp] at q2; cases q2
            have hnd : (ents.toList.map (·.born)).Nodup := by
              rw [List.Nodup, List.pairwise_iff_getElem]
              intro a c ha hc hac
              simp only [List.length_map] at ha hc
              simp only [List.getElem_map]
              have ea := (MR_get es 0 ents.toList m2 a _ (List.getElem?_eq_getElem ha)).1
              have ec := (MR_get es 0 ents.toList m2 c _ (List.getElem?_eq_getElem hc)).1
              omega
            obtain ⟨sA', rfl⟩ : ∃ s0 : Array Nat, sA = s0.push i := by
              refine ⟨seen.dropLast.toArray, Array.ext' ?_⟩
              rw [k4, Array.toList_push]
              obtain ⟨ys, hys⟩ := List.getLast?_eq_some_iff.1 hs
              rw [hys]; simp
            have hrun := run_entry_at (P := P) w b mb n sA' ents es.length (ents.toList[i]) (by rw [k3, q1, Nat.zero_add, hn]) m1 (List.getElem_mem hi) hnd
            exact ⟨_, hrun, _, rfl, _, _, rfl, q3, _, _, rfl, q4, rfl⟩
          · cases h
        · cases h
      · cases h
    · cases h
  · cases h

theorem extract_sound (hr : HR g H w) {vs : List V} {i : Nat} {v : V} {cx : Value} (hx : VR g H w (.tup vs) cx) (h : vs[i]? = some v) : ∃ c, (Instr.extract cx i).run P w = .ok c w ∧ VR g H w v c := by
  simp only [VR] at hx
  obtain ⟨cs, rfl, hx⟩ := hx
  have key : ∀ (vs : List V) (cs : List Value) (i : Nat) (v : V), VRs g H w vs cs → vs[i]? = some v → ∃ c, cs[i]? = some c ∧ VR g H w v c := by
    intro vs
    induction vs with
    | nil => intro cs i v _ h; simp at h
    | cons x xs ih =>
      intro cs i v h h'
      simp only [VRs] at h
      obtain ⟨c, r, rfl, h2, h3⟩ := h
      cases i with
      | zero => simp at h'; subst h'; exact ⟨c, rfl, h2⟩
      | succ i => exact ih r i v h3 (by simpa using h')
  obtain ⟨c, h1, h2⟩ := key vs cs.toList i v hx h
  refine ⟨c, ?_, h2⟩
  have : cs[i]? = some c := by simpa using h1
  simp [Instr.extract, this]

theorem nilCheck_exec {o : Oper} {x : Operand} (ho : o.op = .nilCheck x) {ρ : Operand → Value} (h : (∃ p : Addr, ρ x = .pointer (some p)) ∨ ∃ f a b, ρ x = .func f a b ∧ ∀ name, f ≠ .method name) :
    (execOp ρ o).run P w = .ok (.value (ρ x)) w := by
  unfold execOp
  rw [ho]
  rcases h with ⟨p, h⟩ | ⟨f, a, b, h, hm⟩
  · simp only [h]; rfl
  · simp only [h]
    cases f <;> first | rfl | exact absurd rfl (hm _)

theorem exec_assign {o : Oper} {x : Operand} (ho : o.op = .assign x) (ρ : Operand → Value) : (execOp ρ o).run P w = .ok (.value (ρ x)) w := by
  unfold execOp; rw [ho]; rfl

theorem exec_move {o : Oper} {x : Operand} (ho : o.op = .move x) (ρ : Operand → Value) : (execOp ρ o).run P w = .ok (.value (ρ x)) w := by
  unfold execOp; rw [ho]; rfl

theorem exec_makeFunc {o : Oper} {f : Fn} {x y : Array Operand} (ho : o.op = .makeFunc f x y) (ρ : Operand → Value) : (execOp ρ o).run P w = .ok (.value (.func f (x.map ρ) (y.map ρ))) w := by
  unfold execOp; rw [ho]; rfl

theorem exec_pick {o : Oper} {c x y : Operand} (ho : o.op = .pick c x y) {ρ : Operand → Value} {b : Bool} (hc : ρ c = .bool b) : (execOp ρ o).run P w = .ok (.value (if b then ρ x else ρ y)) w := by
  unfold execOp; rw [ho]; simp [hc, asBool]

/-- The operations that call no function of the text. -/
theorem op_post (hT : TOK P T) (hr : HR g H w) {E : Env} {a : Act} (he : ER g H w E a.tmps) {call : CallH} {o : Oper} (hnc : ∀ c f, o.op = .call c → c.callee ≠ .value f) (h : evOp T hint call o E H K) :
    OpPost g H w K ((execOp a.eval o).run P w) := by
  have ge1 := fun x => ge_sound he x
  unfold evOp at h
  split at h <;> rename_i ho
  · -- move
    exact post_same hr (exec_move ho _) h (ge1 _)
  · -- assign
    split at h
    · rename_i nl hh hg
      split at h
      · rename_i es z hTt
        have hx := ge1 ‹Operand›
        rw [hg] at hx
        simp only [VR] at hx
        obtain ⟨q, hq, hq2, _, hq4⟩ := hx
        exact nil_post hr (hq2 nl rfl) (by rw [exec_assign ho, hq]; rfl) h
      · exact h.elim
    · exact post_same hr (exec_assign ho _) h (ge1 _)
  · -- pick
    rename_i c x y
    split at h
    · rename_i t hg
      have hc := ge1 c
      rw [hg] at hc
      simp only [VR, DR, DC] at hc
      simp at hc
      rcases Br_iff h with ⟨rfl, h⟩ | ⟨rfl, h⟩
      · exact post_same hr (exec_pick ho hc) h (ge1 x)
      · exact post_same hr (exec_pick ho hc) h (ge1 y)
    · exact h.elim
  · -- alloc
    unfold execOp; rw [ho]; dsimp only
    obtain ⟨cs, h1, h2⟩ := Som_iff h
    exact alloc_sound (hT _) hr h1 h2
  · -- box
    unfold execOp; rw [ho]; dsimp only
    obtain ⟨cs, h1, h2⟩ := Som_iff h
    exact box_sound (hT _) hr (ge1 _) h1 h2
  · -- build
    unfold execOp; rw [ho]; dsimp only
    rename_i t parts
    split at h
    · rename_i n fs z cmp hTt
      obtain ⟨cs, h1, h2⟩ := Som_iff h
      have hty := hT t
      rw [hTt] at hty
      obtain ⟨v, h3, h4⟩ := build_sound (hinted hint o.dst) hty he (parts := parts) h1
      exact post_same hr (val_run h3) h2 h4
    · rename_i len es el z cmp hTt
      obtain ⟨cs, h1, h2⟩ := Som_iff h
      have hty := hT t
      rw [hTt] at hty
      obtain ⟨v, h3, h4⟩ := build_sound (hinted hint o.dst) hty he (parts := parts) h1
      exact post_same hr (val_run h3) h2 h4
    · exact h.elim
  · -- buildSlice
    unfold execOp; rw [ho]; dsimp only
    rename_i t len parts
    split at h
    · rename_i es z hTt
      have hty := hT t
      rw [hTt] at hty
      split at h
      · obtain ⟨l, h1, h2⟩ := Som_iff h
        split at h2
        · rename_i hc
          simp only [Bool.and_eq_true, decide_eq_true_eq] at hc
          obtain ⟨rfl, hc2⟩ := hc
          obtain ⟨e, vs, h3, h4, h5⟩ := buildSlice_sound hty (parts := parts) hc2 (elems_parts he _ _ _ h1) rfl
          exact row_post hr e h4 (Nat.le_refl _) (by omega) (val_run h3) h2
        · exact h2.elim
      · obtain ⟨⟨l, H1⟩, h1, h2⟩ := Som_iff h
        simp only at h2
        split at h2
        · rename_i hc
          simp only [Bool.and_eq_true, decide_eq_true_eq] at hc
          obtain ⟨rfl, hc2⟩ := hc
          obtain ⟨g1, ⟨k1, k2, k3, _⟩, k5⟩ := elemG_sound parts.toList 0 hr he h1
          obtain ⟨e, vs, h3, h4, h5⟩ := buildSlice_sound hty (parts := parts) hc2 k5 rfl
          obtain ⟨cv, w2, g2, v2, H2, m1, m2, m3, m4, m5, m6⟩ := frozen_post k1 e h4 (Nat.le_refl _) (val_run h3) (.inr ⟨rfl, h2⟩)
          exact ⟨cv, w2, g2, v2, H2, m1, m2, m3, m4, k2.trans m5, k3.trans m6⟩
        · exact h2.elim
    · exact h.elim
  · -- makeSlice
    unfold execOp; rw [ho]; dsimp only
    rename_i t n c
    split at h
    · rename_i es z k1 n1 k2 c1 hTt hn hc
      have hty := hT t
      rw [hTt] at hty
      have hxn := ge1 n
      have hxc := ge1 c
      rw [hn] at hxn
      rw [hc] at hxc
      simp only [VR, DR, DC] at hxn hxc
      simp at hxn hxc
      split at h
      · rename_i hcond
        simp only [Bool.and_eq_true, decide_eq_true_eq] at hcond
        obtain ⟨⟨⟨h0, rfl⟩, h1⟩, _⟩ := hcond
        obtain ⟨e, vs, h3, h4, h5, h6⟩ := makeSlice_sound (P := P) (w := w) hty (k := k1) (k' := k2) h0 h1
        rw [hxn, hxc]
        have hlen : (List.replicate n1.toNat z).length = n1.toNat := by simp
        split at h
        · split at h
          · have hall : (zcells z).all V.one = true := by first | assumption | (rename_i hsl; exact (Bool.and_eq_true_iff.1 hsl).2)
            have hone : ∀ c ∈ rep n1.toNat (zcells z), c.one = true := by
              intro c hc
              simp only [rep, List.mem_flatten, List.mem_replicate] at hc
              obtain ⟨l, ⟨_, rfl⟩, hc⟩ := hc
              exact List.all_eq_true.1 hall c hc
            obtain ⟨k1', k2', k3'⟩ := alloc_blk hr (.cells vs e) (.cells (rep n1.toNat (zcells z))) (fun g' w' hz ha hn hgz => ⟨vs, e, hn, h6 _ _ _, hone⟩)
            refine ⟨_, _, _, _, _, .inl (val_run h3), h, ?_, k1', k2', k3'⟩
            simp only [VR]
            have hl6 := VRs_length _ _ (h6 g H w)
            exact ⟨w.heap.size, rep n1.toNat (zcells z), n1.toNat, List.getElem?_concat_length .., by rw [← hr.len]; exact List.getElem?_concat_length .., by simp only [Array.length_toList] at hl6; omega, rfl, Nat.le_refl _⟩
          have := row_post (K := K) (res := ((do pure (.value (← Instr.makeSlice t (.int k1 n1) (.int k2 n1))) : Sem Next)).run P w) hr e (h4 g.Z) (cap := n1.toNat) (by simp) (by omega) (by rw [hlen]; exact val_run h3) (by rw [hlen]; exact h)
          exact this
        · exact frozen_post hr e (h4 g.Z) (cap := n1.toNat) (by simp) (by rw [hlen]; exact val_run h3) (.inr ⟨by simp, h⟩)
      · exact h.elim
    · exact h.elim
  · -- load
    unfold execOp; rw [ho]; dsimp only
    obtain ⟨v, h1, h2⟩ := Som_iff h
    obtain ⟨c, h3, h4⟩ := aload_sound (hT _) hr (ge1 _) h1
    exact post_same hr (val_run h3) h2 h4
  · -- store
    unfold execOp; rw [ho]; dsimp only
    obtain ⟨H', h1, h2⟩ := Som_iff h
    obtain ⟨w', h3, h4, h5, h6⟩ := astore_sound (hT _) hr (ge1 _) (ge1 _) h1
    exact ⟨undef, w', g, .und, H', .inr ⟨unit_run h3, rfl⟩, h2, trivial, h4, h5, h6⟩
  · -- binOp
    unfold execOp; rw [ho]; dsimp only
    exact binOp_sound hT hr he h
  · -- unOp
    unfold execOp; rw [ho]; dsimp only
    split at h
    · rename_i b hg
      have hx := ge1 ‹Operand›
      rw [hg] at hx
      simp only [VR, DR, DC] at hx
      simp at hx
      rw [hx]
      exact post_same hr (val_run (unOp_not b)) h (by simp [VR, DR, DC])
    · rename_i k n hg
      have hx := ge1 ‹Operand›
      rw [hg] at hx
      simp only [VR, DR, DC] at hx
      simp at hx
      rw [hx]
      exact post_same hr (val_run (unOp_neg k n)) h (by simp [VR, DR, DC])
    · exact h.elim
  · -- convert
    unfold execOp; rw [ho]; dsimp only
    rename_i s t x
    split at h
    · rename_i z1 kd z2 k n h1 h2 hg
      have hs := hT s
      rw [h1] at hs
      obtain ⟨_, d, _, _, _, _, hd, _⟩ := hs
      have ht := hT t
      rw [h2] at ht
      have hx := ge1 x
      rw [hg] at hx
      simp only [VR, DR, DC] at hx
      simp at hx
      rw [hx]
      exact post_same hr (val_run (convert_int ⟨d, hd⟩ ht)) h (by simp [VR, DR, DC])
    · exact h.elim
  · -- makeFunc
    rename_i f first cap
    refine post_same hr (exec_makeFunc ho _) h ?_
    have h1 := ges_sound he first.toList
    have h2 := ges_sound he cap.toList
    rw [show List.map a.eval first.toList = (first.map a.eval).toList by simp] at h1
    rw [show List.map a.eval cap.toList = (cap.map a.eval).toList by simp] at h2
    simp only [VR]
    exact ⟨_, _, rfl, h1, h2⟩
  · -- slice
    unfold execOp; rw [ho]; dsimp only
    obtain ⟨v, h1, h2⟩ := Som_iff h
    obtain ⟨c, h3, h4⟩ := aslice_sound (hT _) hr he (ge1 _) h1
    exact post_same hr (val_run h3) h2 h4
  · -- fieldAddr
    unfold execOp; rw [ho]; dsimp only
    obtain ⟨v, h1, h2⟩ := Som_iff h
    obtain ⟨c, h3, h4⟩ := afieldAddr_sound (hT _) (ge1 _) h1
    exact post_same hr (val_run h3) h2 h4
  · -- field
    unfold execOp; rw [ho]; dsimp only
    obtain ⟨v, h1, h2⟩ := Som_iff h
    obtain ⟨c, h3, h4⟩ := afield_sound hT (ge1 _) h1
    exact post_same hr (val_run h3) h2 h4
  · -- indexAddr
    unfold execOp; rw [ho]; dsimp only
    obtain ⟨v, h1, h2⟩ := Som_iff h
    obtain ⟨c, h3, h4⟩ := aidxAddr_sound (hT _) hr (ge1 _) (ge1 _) h1
    exact post_same hr (val_run h3) h2 h4
  · -- index
    unfold execOp; rw [ho]; dsimp only
    obtain ⟨v, h1, h2⟩ := Som_iff h
    obtain ⟨c, h3, h4⟩ := aindex_sound hT (ge1 _) (ge1 _) h1
    exact post_same hr (val_run h3) h2 h4
  · -- nilCheck
    rename_i x
    have hx := ge1 x
    split at h
    · rename_i id off hg
      rw [hg] at hx
      have hx' := hx
      simp only [VR] at hx'
      obtain ⟨b, cs, _, _, hp⟩ := hx'
      exact post_same hr (nilCheck_exec ho (.inl ⟨_, hp⟩)) h hx
    · rename_i cs hg
      rw [hg] at hx
      have hx' := hx
      simp only [VR] at hx'
      obtain ⟨q, vs, hp, _⟩ := hx'
      exact post_same hr (nilCheck_exec ho (.inl ⟨_, hp⟩)) h hx
    · rename_i id n i off hg
      rw [hg] at hx
      have hx' := hx
      simp only [VR] at hx'
      obtain ⟨⟨q, hp, _⟩, _⟩ := hx'
      exact post_same hr (nilCheck_exec ho (.inl ⟨_, hp⟩)) h hx
    · rename_i k p q hg
      rw [hg] at hx
      have hx' := hx
      simp only [VR] at hx'
      obtain ⟨x', y', hp, _⟩ := hx'
      exact post_same hr (nilCheck_exec ho (.inr ⟨_, _, _, hp, by simp⟩)) h hx
    · exact h.elim
  · -- extract
    unfold execOp; rw [ho]; dsimp only
    split at h
    · rename_i vs hg
      obtain ⟨v, h1, h2⟩ := Som_iff h
      have hx := ge1 ‹Operand›
      rw [hg] at hx
      obtain ⟨c, h3, h4⟩ := extract_sound (P := P) hr hx h1
      exact post_same hr (val_run h3) h2 h4
    · exact h.elim
  · -- makeMap
    unfold execOp; rw [ho]; dsimp only
    obtain ⟨h1, h2, h3, h4⟩ := new_obj (ob := .map #[] 0) (o := .map []) hr (fun g' w' _ _ hn => ⟨#[], hn, rfl⟩)
    refine ⟨_, _, _, _, _, .inl (val_run ?_), h, h4, h1, h2, h3⟩
    rfl
  · -- lookup
    unfold execOp; rw [ho]; dsimp only
    rename_i t m k ok
    obtain ⟨v, h1, h2⟩ := Som_iff h
    have hty := hT t
    cases hTt : T t with
    | mp kz z =>
      rw [hTt] at h1 hty
      obtain ⟨c, h3, h4⟩ := alook_sound hr hty (ge1 m) (ge1 k) h1
      exact post_same hr (val_run h3) h2 h4
    | _ => rw [hTt] at h1; simp [alook] at h1
  · -- mapUpdate
    unfold execOp; rw [ho]; dsimp only
    rename_i t m k v
    obtain ⟨H', h1, h2⟩ := Som_iff h
    have hty := hT t
    cases hTt : T t with
    | mp kz z =>
      rw [hTt] at h1 hty
      exact aput_post hr hty (ge1 m) (ge1 k) (ge1 v) h1 h2
    | _ => rw [hTt] at h1; simp [aput] at h1
  · -- insert
    unfold execOp; rw [ho]; dsimp only
    rename_i t m k v
    obtain ⟨H', h1, h2⟩ := Som_iff h
    have hty := hT t
    cases hTt : T t with
    | mp kz z =>
      rw [hTt] at h1 hty
      exact aput_post hr hty (ge1 m) (ge1 k) (ge1 v) h1 h2
    | _ => rw [hTt] at h1; simp [aput] at h1
  · -- range
    unfold execOp; rw [ho]; dsimp only
    rename_i t x
    have hty := hT t
    split at h
    · rename_i kz z id hTt hg
      rw [hTt] at hty
      obtain ⟨⟨kt, et, kd, j, zv, hu, _⟩, _⟩ := hty
      split at h
      · rename_i es hid
        have hx := ge1 x
        rw [hg] at hx
        simp only [VR] at hx
        obtain ⟨b, o, x1, x2, x3⟩ := hx
        rw [hid] at x1; cases x1
        obtain ⟨_, _, ents, k1, k2⟩ := hr.blk id b _ x2 hid
        have hidl := lt_of_getElem? hid
        obtain ⟨h1, h2, h3, h4⟩ := new_obj (ob := .mapIter (some b) es.length #[] es.length) (o := .iter id es.length []) hr (fun g' w' _ ha hn => by
          obtain ⟨⟨o', a1, a2⟩, a3⟩ := ha id _ hid
          cases o' with
          | map es' => exact ⟨b, es', #[], a1, a3.trans x2, hn, rfl⟩
          | iter _ _ _ => simp [AObj.kind] at a2
          | sit _ _ => simp [AObj.kind] at a2)
        refine ⟨_, _, _, _, _, .inl (val_run ?_), h, h4, h1, h2, h3⟩
        rw [x3]
        simp only [AObj.kind, if_true]
        unfold Instr.range
        simp only [Sem.run_bind, run_underlying hu, Result.andThen_ok, run_getMap k1, Sem.run_pure]
        rfl
      · exact h.elim
    · rename_i z s hTt hg
      rw [hTt] at hty
      have hx := ge1 x
      rw [hg] at hx
      have hx' : a.eval x = Value.string s := by simpa [VR, DR, DC] using hx
      have hu : P.underlying t = some .string := by
        obtain ⟨_, d, _, _, _, _, hu, _, _, _, _, _, _, _, hs⟩ := hty
        rw [hu, hs _ rfl]
      obtain ⟨h1, h2, h3, h4⟩ := new_obj (ob := .stringIter s 0) (o := .sit s 0) hr (fun g' w' _ ha hn => hn)
      refine ⟨_, _, _, _, _, .inl (val_run ?_), h, h4, h1, h2, h3⟩
      rw [hx']
      unfold Instr.range
      simp only [Sem.run_bind, run_underlying hu, Result.andThen_ok, Sem.run_pure]
      rfl
    · exact h.elim
  · -- entry
    unfold execOp; rw [ho]; dsimp only
    obtain ⟨v, h1, h2⟩ := Som_iff h
    obtain ⟨c, h3, h4⟩ := aentry_sound (P := P) hr (ge1 _) h1
    exact post_same hr (val_run h3) h2 h4
  · -- next, of a string
    unfold execOp; rw [ho]; dsimp only
    exact asnext_post (P := P) hr (ge1 _) h
  · -- call
    rename_i c
    unfold evCall at h
    split at h
    · rename_i f hf
      exact absurd hf (hnc c f ho)
    · rename_i b hf
      have hexec : (execOp a.eval o).run P w = (builtin b c.argTypes o.type (c.args.map fun | .const _ => true | _ => false) (c.args.map a.eval)).run P w := by
        unfold execOp
        rw [ho]
        simp only [resolve, hf, Sem.run_bind, Sem.run_pure, Result.andThen_ok, invoke]
        rfl
      rw [hexec]
      have hargs := ges_sound he c.args.toList
      split at h
      · rename_i x t hx ht
        obtain ⟨n, h1, h2⟩ := Som_iff h
        have e1 : c.args.map a.eval = #[a.eval x] := by
          apply Array.ext'; rw [Array.toList_map, hx]; rfl
        have e2 : c.argTypes = #[t] := by apply Array.ext'; rw [ht]
        rw [e1, e2]
        exact post_same hr (val_run (alen_sound (hT t) hr (ge1 x) h1)) h2 (by simp [VR, DR, DC])
      · rename_i _ x r hx
        obtain ⟨v, h1, h2⟩ := Som_iff h
        obtain ⟨cv, h3, h4⟩ := foldD_sound (P := P) (fun _ _ _ _ _ => amin_sound) (r.map (ge E)) (r.map a.eval) _ _ _ (ge1 x) (ges_sound he r) h1
        refine post_same hr (cv := cv) ?_ h2 h4
        refine val_run ?_
        unfold Builtin.min_
        rw [show (c.args.map a.eval).toList = a.eval x :: r.map a.eval by rw [Array.toList_map, hx]; rfl]
        exact h3
      · rename_i _ x r hx
        obtain ⟨v, h1, h2⟩ := Som_iff h
        obtain ⟨cv, h3, h4⟩ := foldD_sound (P := P) (fun _ _ _ _ _ => amax_sound) (r.map (ge E)) (r.map a.eval) _ _ _ (ge1 x) (ges_sound he r) h1
        refine post_same hr (cv := cv) ?_ h2 h4
        refine val_run ?_
        unfold Builtin.max_
        rw [show (c.args.map a.eval).toList = a.eval x :: r.map a.eval by rw [Array.toList_map, hx]; rfl]
        exact h3
      · rename_i x y t u hx ht
        split at h
        · rename_i es z hTu
          have hu := hT u
          rw [hTu] at hu
          have e1 : c.args.map a.eval = #[a.eval x, a.eval y] := by
            apply Array.ext'; rw [Array.toList_map, hx]; rfl
          have e2 : c.argTypes = #[t, u] := by apply Array.ext'; rw [ht]
          rw [e1, e2]
          exact aappend_sound (hT t) ⟨es, z, rfl⟩ hu hr (ge1 x) (ge1 y) h
        · exact h.elim
      · rename_i x y t u hx ht
        obtain ⟨p, h1, h2⟩ := Som_iff h
        have e1 : c.args.map a.eval = #[a.eval x, a.eval y] := by
          apply Array.ext'; rw [Array.toList_map, hx]; rfl
        have e2 : c.argTypes = #[t, u] := by apply Array.ext'; rw [ht]
        rw [e1, e2]
        exact acopy_sound (hT t) hr (ge1 x) (ge1 y) h1 h2
      · rename_i x t hx ht
        obtain ⟨p, h1, h2⟩ := Som_iff h
        have e1 : c.args.map a.eval = #[a.eval x] := by
          apply Array.ext'; rw [Array.toList_map, hx]; rfl
        have e2 : c.argTypes = #[t] := by apply Array.ext'; rw [ht]
        rw [e1, e2]
        exact aclear_sound (hT t) hr (ge1 x) h1 h2
      · exact h.elim
    · exact h.elim
  · exact h.elim

end
end Go.Aw
end

section
namespace Go.Aw
open Go

/-- The blocks of the abstract heap up to a number stay what they are. -/
def AgN (n : Nat) (g : G) (H : Heap) (w : World) (g' : G) (H' : Heap) (w' : World) : Prop :=
  n ≤ H.length ∧ n ≤ H'.length ∧ Ag g (H.take n) w g' (H'.take n) w'

def mkMark (r : Nat) : Deferred := { target := .collected r, args := #[] }

/-- The marks of loops over functions that this activation has ended. -/
def DfOK (m0 : Nat) (g : G) (w : World) (ds : List Deferred) : Prop :=
  m0 ≤ w.heap.size ∧ ∃ rs : List Nat, ds = rs.map mkMark ∧ rs.Nodup ∧ ∀ r ∈ rs, m0 ≤ r ∧ w.heap[r]? = some (.deferred (some [])) ∧ ∀ id : Nat, g.φ[id]? ≠ some (some r)

def exOf : Ex → Exit
  | .normal => .normal
  | .exit id => .exit id
  | .ret => .ret

def Rnd (g : G) (H : Heap) (r : Option Nat) (l : Option Nat) : Prop :=
  match r with
  | none => l = none
  | some id => ∃ b st pend E ps x y, l = some b ∧ g.φ[id]? = some (some b) ∧ H[id]? = some (.loop st pend E ps x y)

structure Rel (N : Nat) (r l : Option Nat) (m0 : Nat) (g : G) (E : Env) (H : Heap) (a : Act) (w : World) : Prop where
  hr : HR g H w
  er : ER g H w E a.tmps
  sz : a.tmps.size = N
  rnd : Rnd g H r l
  df : DfOK m0 g w a.defers

def XPost (N n0 : Nat) (r l : Option Nat) (m0 : Nat) (g : G) (H : Heap) (w : World) (Q : Ex → Env → Heap → Prop) (e : Exit) (a' : Act) (w' : World) : Prop :=
  ∃ x E' H' g', exOf x = e ∧ Q x E' H' ∧ Rel N r l m0 g' E' H' a' w' ∧ Kp g w g' w' ∧ AgN n0 g H w g' H' w'

/-- The code does, from every world that fits, what is said on abstract values. N: the number of slots; n0: how many blocks of the heap were there when the frame began; r: the loop whose round this is. -/
def AWP (P : Program) (N n0 : Nat) (r : Option Nat) (c : Code) (E : Env) (H : Heap) (Q : Ex → Env → Heap → Prop) : Prop :=
  n0 ≤ H.length ∧ (∀ id, r = some id → id < n0) ∧ ∀ g w a l m0, Rel N r l m0 g E H a w → c.wpIn (FR l) 0 P (XPost N n0 r l m0 g H w Q) a w

theorem Ag_take {n : Nat} {g g' : G} {H H' : Heap} {w w' : World} (h : Ag g H w g' H' w') : Ag g (H.take n) w g' (H'.take n) w' := by
  intro id x hx
  rw [List.getElem?_take] at hx
  split at hx
  · rename_i hlt
    have := h id x hx
    have ht : (H'.take n)[id]? = H'[id]? := List.getElem?_take_of_lt hlt
    cases x with
    | cells cs => obtain ⟨⟨cs', h1, h2⟩, h3⟩ := this; exact ⟨⟨cs', ht.trans h1, h2⟩, h3⟩
    | arr sz nl els => obtain ⟨nl', els', h1, h2⟩ := this; exact ⟨nl', els', ht.trans h1, h2⟩
    | loop st pend E ps y z => obtain ⟨⟨st', pend', h1⟩, h2⟩ := this; exact ⟨⟨st', pend', ht.trans h1⟩, h2⟩
    | obj o => obtain ⟨⟨o', h1, h2⟩, h3⟩ := this; exact ⟨⟨o', ht.trans h1, h2⟩, h3⟩
  · cases hx

theorem Ag_len {g g' : G} {H H' : Heap} {w w' : World} (h : Ag g H w g' H' w') : H.length ≤ H'.length := by
  rcases Nat.eq_zero_or_pos H.length with h0 | h0
  · omega
  · have hx := List.getElem?_eq_getElem (show H.length - 1 < H.length by omega)
    have := h _ _ hx
    have key : ∃ y, H'[H.length - 1]? = some y := by
      generalize H[H.length - 1] = x at this
      cases x with
      | cells cs => obtain ⟨⟨cs', h1, _⟩, _⟩ := this; exact ⟨_, h1⟩
      | arr sz nl els => obtain ⟨nl', els', h1, _⟩ := this; exact ⟨_, h1⟩
      | loop st pend E ps y z => obtain ⟨⟨st', pend', h1⟩, _⟩ := this; exact ⟨_, h1⟩
      | obj o => obtain ⟨⟨o', h1, _⟩, _⟩ := this; exact ⟨_, h1⟩
    obtain ⟨y, hy⟩ := key
    have := lt_of_getElem? hy
    omega

theorem AgN.of_ag {n : Nat} {g g' : G} {H H' : Heap} {w w' : World} (hn : n ≤ H.length) (h : Ag g H w g' H' w') : AgN n g H w g' H' w' :=
  ⟨hn, Nat.le_trans hn (Ag_len h), Ag_take h⟩

theorem AgN.trans {n : Nat} {g g' g'' : G} {H H' H'' : Heap} {w w' w'' : World} (h : AgN n g H w g' H' w') (k : AgN n g' H' w' g'' H'' w'') : AgN n g H w g'' H'' w'' :=
  ⟨h.1, k.2.1, h.2.2.trans k.2.2⟩

theorem AgN.refl {n : Nat} {g : G} {H : Heap} {w : World} (hn : n ≤ H.length) : AgN n g H w g H w := ⟨hn, hn, Ag.refl _ _ _⟩

theorem DfOK.kp {g g' : G} {w w' : World} {ds : List Deferred} {m0 : Nat} (h : DfOK m0 g w ds) (k : Kp g w g' w') : DfOK m0 g' w' ds := by
  obtain ⟨h0, rs, h1, h2, h3⟩ := h
  refine ⟨Nat.le_trans h0 k.size, rs, h1, h2, fun r hr => ?_⟩
  obtain ⟨h6, h4, h5⟩ := h3 r hr
  have hlt : r < w.heap.size := (Array.getElem?_eq_some_iff.1 h4).1
  refine ⟨h6, (k.fr r hlt h5).trans h4, fun id hid => ?_⟩
  rcases k.pn id r hid with h' | h'
  · exact h5 id h'
  · omega

theorem Rnd.agn {g g' : G} {H H' : Heap} {w w' : World} {r l : Option Nat} {n : Nat} (h : Rnd g H r l) (hn : ∀ id, r = some id → id < n) (k : AgN n g H w g' H' w') : Rnd g' H' r l := by
  cases r with
  | none => exact h
  | some id =>
    obtain ⟨b, st, pend, E, ps, x, y, h1, h2, h3⟩ := h
    have hlt := hn id rfl
    have h4 := k.2.2 id _ (by rw [List.getElem?_take_of_lt hlt]; exact h3)
    obtain ⟨⟨st', pend', h5⟩, h6⟩ := h4
    rw [List.getElem?_take_of_lt hlt] at h5
    exact ⟨b, st', pend', E, ps, x, y, h1, h6.trans h2, h5⟩

section
variable {P : Program} {T : Nat → Ty} {hint : Nat → Bool}

theorem ER_put {g : G} {H : Heap} {w : World} {E : Env} {a : Act} (he : ER g H w E a.tmps) {dst : Option Tmp} (hd : ∀ d, dst = some d → d < a.tmps.size) {v : V} {cv : Value} (hv : VR g H w v cv) :
    ER g H w (put E dst v) (a.put dst cv).tmps := by
  cases dst with
  | none => exact he
  | some d =>
    intro t
    have hdl := hd d rfl
    simp only [put, Act.put]
    by_cases ht : t = d
    · subst ht
      simp only [Env.look, if_true]
      rw [Array.getD_eq_getD_getElem?, Array.getElem?_setIfInBounds_self_of_lt hdl]
      exact hv
    · simp only [Env.look]
      rw [if_neg (fun e => ht e.symm), Array.getD_eq_getD_getElem?, Array.getElem?_setIfInBounds_ne (fun e => ht e.symm), ← Array.getD_eq_getD_getElem?]
      exact he t

theorem ER_mono {g g' : G} {H H' : Heap} {w w' : World} {E : Env} {tmps : Array Value} (he : ER g H w E tmps) (hz : Zk g.Z g'.Z w w') (ha : Ag g H w g' H' w') : ER g' H' w' E tmps :=
  fun t => VR_mono hz ha _ _ (he t)

theorem put_size (a : Act) (dst : Option Tmp) (v : Value) : (a.put dst v).tmps.size = a.tmps.size := by
  cases dst <;> simp [Act.put]

theorem put_defers (a : Act) (dst : Option Tmp) (v : Value) : (a.put dst v).defers = a.defers := by
  cases dst <;> rfl

/-- A call, as an operation. -/
theorem call_sound {g : G} {H : Heap} {w : World} {E : Env} {K : V → Heap → Prop} (hr : HR g H w) {a : Act} (he : ER g H w E a.tmps) {o : Oper} {c : Call} {f : Operand} (ho : o.op = .call c) (hf : c.callee = .value f)
    (h : ACallV P (ge E f) (c.args.toList.map (ge E)) H K) {l : Option Nat} {next : Act → World → Prop} {Q : Exit → Act → World → Prop}
    (hnext : ∀ v H' cv w' g', K v H' → VR g' H' w' v cv → HR g' H' w' → Kp g w g' w' → Ag g H w g' H' w' → next (a.put o.dst cv) w') : o.wpIn (FR l) 0 P a w next Q := by
  refine ⟨fun _ _ => trivial, ?_⟩
  rw [Oper.semAt_eq _ _ _ (by rw [ho]; simp)]
  have hargs := ges_sound he c.args.toList
  have hfv := ge_sound he f
  have hex : (execOp a.eval o).run P w = ((do let d ← Deferred.ofValue (a.eval f) (c.args.map a.eval); invoke d.target d.args : Sem Next)).run P w := by
    unfold execOp
    rw [ho]
    simp only [resolve, hf]
  rw [hex]
  unfold ACallV at h
  split at h
  · rename_i k first cap hg
    rw [hg] at hfv
    simp only [VR] at hfv
    obtain ⟨x', y', hfe, h1, h2⟩ := hfv
    obtain ⟨hb, hc⟩ := h
    rw [hfe]
    have hrun : ((do let d ← Deferred.ofValue (.func (.func k) x' y') (c.args.map a.eval); invoke d.target d.args : Sem Next)).run P w = .ok (.enter k (x' ++ c.args.map a.eval ++ y')) w := by
      simp only [Deferred.ofValue, Sem.run_bind, Sem.run_pure, Result.andThen_ok, invoke]
      exact run_callFunc hb _
    rw [hrun]
    refine ⟨fun _ => by simp_all [FR, Fence.wide], ?_⟩
    have hvs : VRs g H w (first ++ c.args.toList.map (ge E) ++ cap) (x' ++ c.args.map a.eval ++ y').toList := by
      simp only [Array.toList_append, Array.toList_map]
      exact VRs_append _ _ _ _ (VRs_append _ _ _ _ h1 hargs) h2
    have := hc g w _ hr hvs
    simp only [Array.toArray_toList] at this
    refine CallsIn.mono (F := FR l) (n := 0) this ?_
    rintro e w' ⟨v, g', r, H', rfl, k1, k2, k3, k4, k5⟩
    exact hnext r H' v w' g' k1 k2 k3 k4 k5
  · rename_i id hg
    rw [hg] at hfv
    simp only [VR] at hfv
    obtain ⟨_, _, b, _, _, _, _, _, _, _, hφ, hfe⟩ := hfv
    rw [hfe]
    obtain ⟨fn, tmps, x, y, h1, h2⟩ := h g w _ b hr hargs hφ
    have hrun : ((do let d ← Deferred.ofValue (.func (.yield b) #[] #[]) (c.args.map a.eval); invoke d.target d.args : Sem Next)).run P w = .ok (.round b fn tmps x y) w := by
      simp only [Deferred.ofValue, Sem.run_bind, Sem.run_pure, Result.andThen_ok, invoke]
      rw [show (#[] ++ c.args.map a.eval : Array Value) = (c.args.toList.map a.eval).toArray by apply Array.ext'; simp]
      exact h1
    rw [hrun]
    refine ⟨fun _ => by simp_all [FR, Fence.wide], ?_⟩
    refine RoundIn.mono (F := FR l) (n := 0) h2 ?_
    rintro e w' ⟨v, g', r, H', rfl, k1, k2, k3, k4, k5⟩
    exact hnext r H' v w' g' k1 k2 k3 k4 k5
  · exact h.elim

/-- What is asked of a text by itself: the slots that it writes are there; a deferred call is none of its operations. -/
def opOk (N : Nat) (o : Oper) : Bool :=
  (match o.dst with
   | some d => decide (d < N)
   | none => true)

def opsOk (N : Nat) (ops : List Oper) : Bool := ops.all (opOk N)

theorem evOp_sound (hT : TOK P T) {call : CallH} (hcall : ∀ f vs H K, call f vs H K → ACallV P f vs H K) {g : G} {H : Heap} {w : World} {E : Env} {K : V → Heap → Prop} (hr : HR g H w) {a : Act} (he : ER g H w E a.tmps) {o : Oper}
    (h : evOp T hint call o E H K) {l : Option Nat} {next : Act → World → Prop} {Q : Exit → Act → World → Prop}
    (hnext : ∀ v H' cv w' g', K v H' → VR g' H' w' v cv → HR g' H' w' → Kp g w g' w' → Ag g H w g' H' w' → next (a.put o.dst cv) w') : o.wpIn (FR l) 0 P a w next Q := by
  by_cases hc : ∃ c f, o.op = .call c ∧ c.callee = .value f
  · obtain ⟨c, f, ho, hf⟩ := hc
    have h' : call (ge E f) (c.args.toList.map (ge E)) H K := by
      unfold evOp at h
      rw [ho] at h
      simp only [evCall, hf] at h
      exact h
    exact call_sound hr he ho hf (hcall _ _ _ _ h') hnext
  · refine wpIn_of_post (fun c hd => ?_) (op_post hT hr he (fun c f ho hf => hc ⟨c, f, ho, hf⟩) h) hnext
    unfold evOp at h
    rw [hd] at h
    exact h

theorem evN_sound (hT : TOK P T) {call : CallH} (hcall : ∀ f vs H K, call f vs H K → ACallV P f vs H K) {g : G} {H : Heap} {w : World} {E : Env} {K : V → Heap → Prop} (hr : HR g H w) {a : Act} (he : ER g H w E a.tmps) {o : Oper}
    (h : evN T hint call o E H K) {l : Option Nat} {next : Act → World → Prop} {Q : Exit → Act → World → Prop}
    (hnext : ∀ v H' cv w' g', K v H' → VR g' H' w' v cv → HR g' H' w' → Kp g w g' w' → Ag g H w g' H' w' → next (a.put o.dst cv) w') : o.wpIn (FR l) 0 P a w next Q := by
  unfold evN at h
  split at h
  · rename_i x hx
    have ho : o.op = .next x false := by
      unfold nxt at hx
      split at hx
      · rename_i y hy; cases hx; exact hy
      · cases hx
    refine wpIn_of_post (fun c hd => by rw [ho] at hd; cases hd) ?_ hnext
    have := anext_post (P := P) (t := o.type) hr (ge_sound he x) h
    unfold execOp
    rw [ho]
    exact this
  · exact evOp_sound hT hcall hr he h hnext

theorem yielded_of {ops : Array Oper} {tmps : Array Value} {j t : Nat} {b : Bool} (h1 : gdst ops.toList j = some t) (h2 : tmps.getD t undef = .bool b) : yielded ops tmps j = some b := by
  unfold gdst at h1
  unfold yielded
  have ho : ops[j]? = ops.toList[j]? := by simp
  rw [ho]
  split at h1
  · rename_i o hoj
    rw [hoj]
    simp only [Option.bind_some, h1]
    rw [Array.getD_eq_getD_getElem?] at h2
    cases hv : tmps[t]? with
    | none => rw [hv] at h2; simp [undef] at h2
    | some v => rw [hv] at h2; simp at h2; subst h2; rfl
  · cases h1

theorem yielded_no {ops : Array Oper} {tmps : Array Value} {j t : Nat} {cs : Array Value} (h1 : gdst ops.toList j = some t) (h2 : tmps.getD t undef = .tuple cs) : yielded ops tmps j = none := by
  unfold gdst at h1
  unfold yielded
  have ho : ops[j]? = ops.toList[j]? := by simp
  rw [ho]
  split at h1
  · rename_i o hoj
    rw [hoj]
    simp only [Option.bind_some, h1]
    rw [Array.getD_eq_getD_getElem?] at h2
    cases hv : tmps[t]? with
    | none => rfl
    | some v => rw [hv] at h2; simp at h2; subst h2; rfl
  · cases h1

theorem evOps_sound (hT : TOK P T) {call : CallH} (hcall : ∀ f vs H K, call f vs H K → ACallV P f vs H K) {N : Nat} {ops : Array Oper} (hok : opsOk N ops.toList = true) {l : Option Nat} {g0 : G} {H0 : Heap} {w0 : World} {a0 : Act}
    {K : Env → Heap → Prop} {Q : Exit → Act → World → Prop} (hQ : ∀ E' H' a' w' g', K E' H' → HR g' H' w' → ER g' H' w' E' a'.tmps → a'.tmps.size = N → a'.defers = a0.defers → Kp g0 w0 g' w' → Ag g0 H0 w0 g' H' w' → Q .normal a' w') :
    ∀ (os : List Oper) (i : Nat) (E : Env) (H : Heap) (a : Act) (w : World) (g : G), ops.toList.drop i = os → evOps T hint call ops.toList os E H K → HR g H w → ER g H w E a.tmps → a.tmps.size = N → a.defers = a0.defers → Kp g0 w0 g w → Ag g0 H0 w0 g H w →
      wpOpsIn (FR l) 0 P ops Q (List.range' i os.length) a w := by
  intro os
  induction os with
  | nil =>
    intro i E H a w g hd h hr he hs hdf hk ha
    simp only [List.length_nil, List.range'_zero, wpOpsIn]
    simp only [evOps] at h
    exact hQ E H a w g h hr he hs hdf hk ha
  | cons o os ih =>
    intro i E H a w g hd h hr he hs hdf hk ha
    simp only [List.length_cons, List.range'_succ, wpOpsIn]
    have hoi : ops.toList[i]? = some o := by
      have := congrArg (fun l => l[0]?) hd
      simpa [List.getElem?_drop] using this
    have hoi' : ops[i]? = some o := by rw [← hoi]; simp
    have hd' : ops.toList.drop (i + 1) = os := by
      have := congrArg (fun l => l.drop 1) hd
      simpa [List.drop_drop] using this
    have hdst : ∀ d, o.dst = some d → d < a.tmps.size := by
      intro d hod
      have := List.all_eq_true.1 hok o (List.mem_of_getElem? hoi)
      unfold opOk at this
      rw [hod] at this
      rw [hs]
      simpa using this
    simp only [hoi']
    have run : ∀ (hev : evN T hint call o E H fun v H' => evOps T hint call ops.toList os (put E o.dst v) H' K), o.wpIn (FR l) 0 P a w (wpOpsIn (FR l) 0 P ops Q (List.range' (i + 1) os.length)) Q := by
      intro hev
      refine evN_sound hT hcall hr he hev ?_
      intro v H' cv w' g' hK hv hr' hk' ha'
      refine ih (i + 1) _ H' _ w' g' hd' hK hr' (ER_put (ER_mono he (hr.zk hk') ha') hdst hv) (by rw [put_size]; exact hs) (by rw [put_defers]; exact hdf) (hk.trans hk') (ha.trans ha')
    have skip : ∀ (hev : evOps T hint call ops.toList os (put E o.dst (.tup [])) H K), (∀ f, o.about P w a.eval = some f → (FR l).fn f) ∧ wpOpsIn (FR l) 0 P ops Q (List.range' (i + 1) os.length) (a.put o.dst undef) w := by
      intro hev
      exact ⟨fun _ _ => trivial, ih (i + 1) _ H _ w g hd' hev hr (ER_put he hdst ⟨#[], rfl, rfl⟩) (by rw [put_size]; exact hs) (by rw [put_defers]; exact hdf) hk ha⟩
    simp only [evOps] at h
    split at h
    · rename_i hg
      have hw : Region.wanted o (yielded ops a.tmps) = true := by unfold Region.wanted; rw [hg]
      simp only [hw, if_true]
      exact run h
    · rename_i j want hg
      split at h
      · rename_i t ht
        split at h
        · rename_i b hb
          have hv := he t
          rw [hb] at hv
          simp only [VR, DR, DC] at hv
          simp at hv
          have hy := yielded_of (ops := ops) (tmps := a.tmps) ht (by rw [Array.getD_eq_getD_getElem?]; exact hv)
          have hw : Region.wanted o (yielded ops a.tmps) = (b == want) := by
            unfold Region.wanted
            simp only [hg, hy]
            cases b <;> cases want <;> rfl
          rw [hw]
          rcases Br_iff h with ⟨h1, h⟩ | ⟨h1, h⟩
          · rw [h1]; simp only [if_true]; exact run h
          · rw [h1]; simp only [Bool.false_eq_true, if_false]; exact skip h
        · rename_i hb
          have hv := he t
          rw [hb] at hv
          simp only [VR] at hv
          obtain ⟨cs, hv, hcs⟩ := hv
          have hcs' : cs.toList = [] := by simpa [VRs] using hcs
          have hy : yielded ops a.tmps j = none := yielded_no (ops := ops) (tmps := a.tmps) ht hv
          have hw : Region.wanted o (yielded ops a.tmps) = false := by
            unfold Region.wanted
            simp only [hg, hy]
            rfl
          rw [hw]; simp only [Bool.false_eq_true, if_false]; exact skip h
        · exact h.elim
      · exact h.elim

end
end Go.Aw
end

section
namespace Go.Aw
open Go

/-- The slots that a text writes are there. What is walked by a rule of its own is looked at there. -/
def cOk (N : Nat) : Code → Bool
  | .region _ ops _ => opsOk N ops.toList
  | .seq a b => cOk N a && cOk N b
  | .cond _ a b => cOk N a && cOk N b
  | .block _ c => cOk N c
  | .scope c => cOk N c
  | _ => true

section
variable {P : Program} {T : Nat → Ty} {hint : Nat → Bool} {N n0 : Nat} {r : Option Nat}

theorem XPost.trans {l : Option Nat} {m0 : Nat} {g g1 : G} {H H1 : Heap} {w w1 : World} {Q : Ex → Env → Heap → Prop} (hk : Kp g w g1 w1) (ha : AgN n0 g H w g1 H1 w1) {e : Exit} {a : Act} {w' : World}
    (h : XPost N n0 r l m0 g1 H1 w1 Q e a w') : XPost N n0 r l m0 g H w Q e a w' := by
  obtain ⟨x, E', H', g', h1, h2, h3, h4, h5⟩ := h
  exact ⟨x, E', H', g', h1, h2, h3, hk.trans h4, ha.trans h5⟩

theorem AWP.mono {c : Code} {E : Env} {H : Heap} {Q Q' : Ex → Env → Heap → Prop} (h : AWP P N n0 r c E H Q) (hq : ∀ x E' H', n0 ≤ H'.length → Q x E' H' → Q' x E' H') : AWP P N n0 r c E H Q' := by
  refine ⟨h.1, h.2.1, fun g w a l m0 hrel => wpIn_mono (h.2.2 g w a l m0 hrel) ?_⟩
  rintro e a' w' ⟨x, E', H', g', h1, h2, h3, h4, h5⟩
  exact ⟨x, E', H', g', h1, hq x E' H' h5.2.1 h2, h3, h4, h5⟩

theorem Rel.of_agn {l : Option Nat} {m0 : Nat} {g g' : G} {E' : Env} {H H' : Heap} {a a' : Act} {w w' : World} {E : Env} (h : Rel N r l m0 g E H a w) (hn : ∀ id, r = some id → id < n0) (hr : HR g' H' w') (he : ER g' H' w' E' a'.tmps) (hs : a'.tmps.size = N) (hd : a'.defers = a.defers) (hk : Kp g w g' w') (ha : AgN n0 g H w g' H' w') :
    Rel N r l m0 g' E' H' a' w' :=
  ⟨hr, he, hs, h.rnd.agn hn ha, hd ▸ h.df.kp hk⟩

theorem xpost_now {l : Option Nat} {m0 : Nat} {g : G} {E : Env} {H : Heap} {a : Act} {w : World} (hn : n0 ≤ H.length) (h : Rel N r l m0 g E H a w) {Q : Ex → Env → Heap → Prop} {x : Ex} (hq : Q x E H) : XPost N n0 r l m0 g H w Q (exOf x) a w :=
  ⟨x, E, H, g, rfl, hq, h, Kp.refl g w, AgN.refl hn⟩

theorem AWP.skip {E : Env} {H : Heap} {Q : Ex → Env → Heap → Prop} (hn : n0 ≤ H.length) (hr : ∀ id, r = some id → id < n0) (h : Q .normal E H) : AWP P N n0 r .skip E H Q :=
  ⟨hn, hr, fun _ _ _ _ _ hrel => wpIn_skip (xpost_now hn hrel h)⟩

theorem AWP.exit {E : Env} {H : Heap} {Q : Ex → Env → Heap → Prop} {id : Nat} (hn : n0 ≤ H.length) (hr : ∀ id, r = some id → id < n0) (h : Q (.exit id) E H) : AWP P N n0 r (.exit id) E H Q :=
  ⟨hn, hr, fun _ _ _ _ _ hrel => wpIn_exit (xpost_now hn hrel h)⟩

theorem AWP.ret {E : Env} {H : Heap} {Q : Ex → Env → Heap → Prop} (hn : n0 ≤ H.length) (hr : ∀ id, r = some id → id < n0) (h : Q .ret E H) : AWP P N n0 r .ret E H Q :=
  ⟨hn, hr, fun _ _ _ _ _ hrel => wpIn_ret (xpost_now hn hrel h)⟩

theorem AWP.seq {c d : Code} {E : Env} {H : Heap} {K : Env → Heap → Prop} {Q : Ex → Env → Heap → Prop} (h : AWP P N n0 r c E H (thenEx K Q)) (hd : ∀ E' H', n0 ≤ H'.length → K E' H' → AWP P N n0 r d E' H' Q) : AWP P N n0 r (.seq c d) E H Q := by
  refine ⟨h.1, h.2.1, fun g w a l m0 hrel => wpIn_seq (wpIn_mono (h.2.2 g w a l m0 hrel) ?_)⟩
  rintro e a' w' ⟨x, E', H', g', rfl, h2, h3, h4, h5⟩
  cases x with
  | normal =>
    refine wpIn_mono ((hd E' H' h5.2.1 h2).2.2 g' w' a' l m0 h3) fun e a2 w2 hx => ?_
    exact hx.trans h4 h5
  | exit id => exact ⟨.exit id, E', H', g', rfl, h2, h3, h4, h5⟩
  | ret => exact ⟨.ret, E', H', g', rfl, h2, h3, h4, h5⟩

theorem AWP.cond {c d : Code} {E : Env} {H : Heap} {Q : Ex → Env → Heap → Prop} {x : Operand} {b : Bool} (hb : ge E x = .d (.bool b)) (h : AWP P N n0 r (if b then c else d) E H Q) : AWP P N n0 r (.cond x c d) E H Q := by
  refine ⟨h.1, h.2.1, fun g w a l m0 hrel => wpIn_cond (t := b) ?_ (h.2.2 g w a l m0 hrel)⟩
  have := ge_sound hrel.er x
  rw [hb] at this
  simp only [VR, DR, DC] at this
  simpa using this

theorem AWP.block {c : Code} {E : Env} {H : Heap} {Q : Ex → Env → Heap → Prop} {i : Nat} (h : AWP P N n0 r c E H (blockEx i Q)) : AWP P N n0 r (.block i c) E H Q := by
  refine ⟨h.1, h.2.1, fun g w a l m0 hrel => wpIn_block (wpIn_mono (h.2.2 g w a l m0 hrel) ?_)⟩
  rintro e a' w' ⟨x, E', H', g', rfl, h2, h3, h4, h5⟩
  cases x with
  | normal => exact ⟨.normal, E', H', g', rfl, h2, h3, h4, h5⟩
  | ret => exact ⟨.ret, E', H', g', rfl, h2, h3, h4, h5⟩
  | exit id =>
    simp only [exOf, Exit.inBlock]
    simp only [blockEx] at h2
    by_cases hid : id = i
    · rw [if_pos hid] at h2 ⊢
      exact ⟨.normal, E', H', g', rfl, h2, h3, h4, h5⟩
    · rw [if_neg hid] at h2 ⊢
      exact ⟨.exit id, E', H', g', rfl, h2, h3, h4, h5⟩

theorem stepR_scope {b : Frame} {a : Act} {k : List Item} {cs : List Frame} {w : World} {c : Code} : step P (lone (b.atR a (.code (.scope c) :: k)) cs w) = .next (lone (b.atR a (.code c :: .inScope c :: k)) cs w) :=
  step_lone_go (by simp [stepG, stepG.exec, Frame.atR])

theorem stepR_inScope {b : Frame} {a : Act} {k : List Item} {cs : List Frame} {w : World} {c : Code} : step P (lone (b.atR a (.inScope c :: k)) cs w) = .next (lone (b.atR a k) cs w) :=
  step_lone_go (by simp [stepG, stepG.exec, Frame.atR])

/-- A scope that no jump is made to. -/
theorem wpIn_scope {F : Fence} {n : Nat} {Q : Exit → Act → World → Prop} {a : Act} {w : World} {c : Code} (h : c.wpIn F n P (Exit.noGoto Q) a w) : (Code.scope c).wpIn F n P Q a w := by
  intro b k cs hro hb hr
  have h0 : (lone (b.atR a (.code (.scope c) :: k)) cs w).fenced P F := fenced_calm hb hr rfl
  obtain ⟨e, a₁, w₁, hq, harr⟩ := h b (.inScope c :: k) cs hro hb hr
  cases e with
  | normal => exact ⟨.normal, a₁, w₁, hq, .head h0 stepR_scope (StepsIn.trans harr (.one (fenced_calm hb hr rfl) stepR_inScope))⟩
  | exit id =>
    have hx : exitTo id (.inScope c :: k) = exitTo id k := by simp [exitTo]
    exact ⟨.exit id, a₁, w₁, hq, fun k' hk => .head h0 stepR_scope (harr.1 k' (by rw [hx]; exact hk)),
      fun hr' hk => let ⟨k₁, h1, h2⟩ := harr.2 hr' (by rw [hx]; exact hk); ⟨k₁, h1, .head h0 stepR_scope h2⟩⟩
  | goto l => exact hq.elim
  | ret => exact ⟨_, a₁, w₁, hq, .of_steps (.one h0 stepR_scope) harr⟩
  | panic ch => exact ⟨_, a₁, w₁, hq, .of_steps (.one h0 stepR_scope) harr⟩
  | outgrown => exact ⟨_, a₁, w₁, hq, .of_steps (.one h0 stepR_scope) harr⟩

theorem AWP.scope {c : Code} {E : Env} {H : Heap} {Q : Ex → Env → Heap → Prop} (h : AWP P N n0 r c E H Q) : AWP P N n0 r (.scope c) E H Q := by
  refine ⟨h.1, h.2.1, fun g w a l m0 hrel => wpIn_scope (wpIn_mono (h.2.2 g w a l m0 hrel) ?_)⟩
  rintro e a' w' ⟨x, E', H', g', rfl, h2⟩
  cases x <;> exact ⟨_, E', H', g', rfl, h2⟩

theorem AWP.label {E : Env} {H : Heap} {Q : Ex → Env → Heap → Prop} {i : Nat} (hn : n0 ≤ H.length) (hr : ∀ id, r = some id → id < n0) (h : Q .normal E H) : AWP P N n0 r (.label i) E H Q :=
  ⟨hn, hr, fun _ _ _ _ _ hrel => wpIn_label (xpost_now hn hrel h)⟩

theorem AWP.region (hT : TOK P T) {call : CallH} (hcall : ∀ f vs H K, call f vs H K → ACallV P f vs H K) {i : Nat} {ops : Array Oper} (hok : opsOk N ops.toList = true) {E : Env} {H : Heap} {Q : Ex → Env → Heap → Prop}
    (hn : n0 ≤ H.length) (hr : ∀ id, r = some id → id < n0) (h : evOps T hint call ops.toList ops.toList E H (Q .normal)) : AWP P N n0 r (.region i ops false) E H Q := by
  refine ⟨hn, hr, fun g w a l m0 hrel => wpIn_region ?_⟩
  have := evOps_sound (P := P) hT hcall (N := N) hok (l := l) (g0 := g) (H0 := H) (w0 := w) (a0 := a) (K := Q .normal) (Q := XPost N n0 r l m0 g H w Q)
    (fun E' H' a' w' g' hK hr' he hs hd hk ha => ⟨.normal, E', H', g', rfl, hK, hrel.of_agn hr hr' he hs hd hk (AgN.of_ag hn ha), hk, AgN.of_ag hn ha⟩)
    ops.toList 0 E H a w g rfl h hrel.hr hrel.er hrel.sz rfl (Kp.refl g w) (Ag.refl g H w)
  rw [List.range_eq_range']
  simpa using this

/-- A loop, by a relation that holds ahead of each round, and a number that falls. -/
theorem AWP.loop {c : Code} {E : Env} {H : Heap} {Q : Ex → Env → Heap → Prop} (inv : Nat → Env → Heap → Prop) (k0 : Nat) (hn : n0 ≤ H.length) (hr : ∀ id, r = some id → id < n0) (h0 : inv k0 E H)
    (round : ∀ k E H, n0 ≤ H.length → inv k E H → AWP P N n0 r c E H (thenEx (fun E' H' => ∃ j, j < k ∧ inv j E' H') Q)) : AWP P N n0 r (.loop c) E H Q := by
  refine ⟨hn, hr, fun g w a l m0 hrel => wpIn_loop_rounds (k0 + 1) ?_⟩
  have key : ∀ m k E' H' g' w' a', k < m → inv k E' H' → Rel N r l m0 g' E' H' a' w' → Kp g w g' w' → AgN n0 g H w g' H' w' → Code.roundsIn (FR l) 0 P c (XPost N n0 r l m0 g H w Q) m a' w' := by
    intro m
    induction m with
    | zero => intro k _ _ _ _ _ hk; omega
    | succ m ih =>
      intro k E' H' g' w' a' hk hi hrel' hkp hag
      rw [roundsIn_succ]
      refine wpIn_mono ((round k E' H' hag.2.1 hi).2.2 g' w' a' l m0 hrel') ?_
      rintro e a2 w2 ⟨x, E2, H2, g2, rfl, h2, h3, h4, h5⟩
      cases x with
      | normal =>
        obtain ⟨j, hj, hi2⟩ := h2
        exact ih j E2 H2 g2 w2 a2 (by omega) hi2 h3 (hkp.trans h4) (hag.trans h5)
      | exit id => exact ⟨.exit id, E2, H2, g2, rfl, h2, h3, hkp.trans h4, hag.trans h5⟩
      | ret => exact ⟨.ret, E2, H2, g2, rfl, h2, h3, hkp.trans h4, hag.trans h5⟩
  exact key (k0 + 1) k0 E H g w a (by omega) h0 hrel (Kp.refl g w) (AgN.refl hn)

theorem ev_sound (hT : TOK P T) {call : CallH} (hcall : ∀ f vs H K, call f vs H K → ACallV P f vs H K) {loop rng : LoopH} {drw : DrawH}
    (hloop : ∀ c E H Q, n0 ≤ H.length → loop c E H Q → AWP P N n0 r (.loop c) E H Q) (hrng : ∀ c E H Q, n0 ≤ H.length → rng c E H Q → AWP P N n0 r c E H Q)
    (hdrw : ∀ i ops E H Q, n0 ≤ H.length → opsOk N ops.toList = true → drw ops E H (Q .normal) → AWP P N n0 r (.region i ops true) E H Q) (hr : ∀ id, r = some id → id < n0) :
    ∀ (c : Code) (E : Env) (H : Heap) (Q : Ex → Env → Heap → Prop), cOk N c = true → n0 ≤ H.length → ev T hint call loop rng drw c E H Q → AWP P N n0 r c E H Q
  | .skip, E, H, Q, _, hn, h => by simp only [ev] at h; exact .skip hn hr h
  | .exit _, E, H, Q, _, hn, h => by simp only [ev] at h; exact .exit hn hr h
  | .ret, E, H, Q, _, hn, h => by simp only [ev] at h; exact .ret hn hr h
  | .region i ops true, E, H, Q, hk, hn, h => by simp only [ev] at h; exact hdrw i ops E H Q hn hk h
  | .region i ops false, E, H, Q, hk, hn, h => by simp only [ev] at h; exact .region hT hcall hk hn hr h
  | .seq a b, E, H, Q, hk, hn, h => by
    simp only [ev] at h
    simp only [cOk, Bool.and_eq_true] at hk
    exact .seq (ev_sound hT hcall hloop hrng hdrw hr a E H _ hk.1 hn h) fun E' H' hn' h' => ev_sound hT hcall hloop hrng hdrw hr b E' H' Q hk.2 hn' h'
  | .cond c a b, E, H, Q, hk, hn, h => by
    simp only [ev] at h
    simp only [cOk, Bool.and_eq_true] at hk
    split at h
    · rename_i x hx
      rcases Br_iff h with ⟨rfl, h⟩ | ⟨rfl, h⟩
      · exact .cond hx (ev_sound hT hcall hloop hrng hdrw hr a E H Q hk.1 hn h)
      · exact .cond hx (ev_sound hT hcall hloop hrng hdrw hr b E H Q hk.2 hn h)
    · exact h.elim
  | .block i c, E, H, Q, hk, hn, h => by
    simp only [ev] at h
    simp only [cOk] at hk
    exact .block (ev_sound hT hcall hloop hrng hdrw hr c E H _ hk hn h)
  | .scope c, E, H, Q, hk, hn, h => by
    simp only [ev] at h
    simp only [cOk] at hk
    exact .scope (ev_sound hT hcall hloop hrng hdrw hr c E H Q hk hn h)
  | .label _, E, H, Q, _, hn, h => by simp only [ev] at h; exact .label hn hr h
  | .loop c, E, H, Q, _, hn, h => by simp only [ev] at h; exact hloop c E H Q hn h
  | .rangeFunc f ps a b, E, H, Q, _, hn, h => by simp only [ev] at h; exact hrng _ E H Q hn h

end
end Go.Aw
end

section
namespace Go.Aw
open Go

mutual
/-- All blocks that a value names are among the first n. -/
def VB (n : Nat) : V → Bool
  | .ptr id _ => decide (id < n)
  | .ref id _ _ _ => decide (id < n)
  | .ep id _ _ _ => decide (id < n)
  | .csl id _ _ => decide (id < n)
  | .obj id => decide (id < n)
  | .fn (.yield id) _ _ => decide (id < n)
  | .fn _ x y => VBs n x && VBs n y
  | .agg l => VBs n l
  | .tup l => VBs n l
  | _ => true
def VBs (n : Nat) : List V → Bool
  | [] => true
  | v :: r => VB n v && VBs n r
end

def BB (n : Nat) : Blk → Prop
  | .cells cs => VBs n cs = true
  | .arr _ _ _ => True
  | .loop _ _ E _ _ _ => ∀ t, VB n (Env.look E t) = true
  | .obj (.map _) => True
  | .obj (.iter mid _ _) => mid < n
  | .obj (.sit _ _) => True

def BBs (n : Nat) : List Blk → Prop
  | [] => True
  | b :: r => BB n b ∧ BBs n r

theorem BBs_all {n : Nat} : ∀ {l : List Blk}, BBs n l → ∀ x ∈ l, BB n x
  | [], _, x, hx => by cases hx
  | b :: r, h, x, hx => by
    rcases List.mem_cons.1 hx with rfl | hx
    · exact h.1
    · exact BBs_all h.2 x hx

/-- What lies in a cell, as data, without the blocks from n on. -/
def pubD (n : Nat) (H : Heap) (v : V) : Option D :=
  match v with
  | .ref id m lo len => if id < n then none else match H[id]? with
    | some (.arr _ _ els) => if els.length = m then some (.sl ((els.drop lo).take len)) else none
    | _ => none
  | v => toD v

def pubDs (n : Nat) (H : Heap) : List V → Option (List D)
  | [] => some []
  | v :: r => match pubD n H v, pubDs n H r with
    | some x, some l => some (x :: l)
    | _, _ => none

mutual
/-- A value, without the blocks from n on. -/
def pubV (n : Nat) (H : Heap) : V → Option V
  | .ref id m lo len => if id < n then some (.ref id m lo len) else match H[id]? with
    | some (.arr _ _ els) => if els.length = m then some (.d (.sl ((els.drop lo).take len))) else none
    | _ => none
  | .ptr id off => if id < n then some (.ptr id off) else match H[id]? with
    | some (.cells cs) => match toDs cs with
      | some ds => some (.pp (ds.drop off))
      | none => none
    | _ => none
  | .ep id m i off => if id < n then some (.ep id m i off) else none
  | .obj id => if id < n then some (.obj id) else none
  | .csl id es len => if id < n then some (.csl id es len) else match H[id]? with
    | some (.cells cs) => match pubDs n H cs with
      | some ds => if es = 1 then some (.d (.sl ds)) else none
      | none => none
    | _ => none
  | .fn (.yield id) x y => if id < n then some (.fn (.yield id) x y) else none
  | .fn f x y => match pubVs n H x, pubVs n H y with
    | some x', some y' => some (.fn f x' y')
    | _, _ => none
  | .agg l => match pubVs n H l with
    | some l' => if l'.all V.one = true then some (norm l') else none
    | none => none
  | .tup l => match pubVs n H l with
    | some l' => some (.tup l')
    | none => none
  | v => some v
def pubVs (n : Nat) (H : Heap) : List V → Option (List V)
  | [] => some []
  | v :: r => match pubV n H v, pubVs n H r with
    | some v', some r' => some (v' :: r')
    | _, _ => none
end

section
variable {g g' : G} {H H' : Heap} {w : World} {n : Nat}

theorem Zk.same (h : ∀ b o, g.Z b o → g'.Z b o) : Zk g.Z g'.Z w w := fun b o z => ⟨h b o z, rfl⟩

mutual
theorem VB_cut (hz : ∀ b o, g.Z b o → g'.Z b o) (hc : ∀ id, id < n → H'[id]? = H[id]? ∧ g'.φ[id]? = g.φ[id]?) : ∀ (x : V) (v : Value), VB n x = true → VR g H w x v → VR g' H' w x v
  | .und, _, _, _ => by simp [VR]
  | .d x, v, _, h => by
    simp only [VR] at h ⊢
    exact DR_mono (Zk.same hz) h
  | .slx nl l, v, _, h => by
    simp only [VR] at h ⊢
    obtain ⟨a, h1, h2, h3, h4⟩ := h
    refine ⟨a, h1, h2, h3, fun ad had => ?_⟩
    obtain ⟨h5, sz, h6⟩ := h4 ad had
    exact ⟨h5, sz, DCe_mono (Zk.same hz) l _ _ _ h6⟩
  | .ptr id off, v, hb, h => by
    simp only [VB, decide_eq_true_eq] at hb
    obtain ⟨e1, e2⟩ := hc id hb
    simpa only [VR, e1, e2] using h
  | .pp cs, v, _, h => by
    simp only [VR] at h ⊢
    obtain ⟨a, vs, h1, h2, h3, h4⟩ := h
    exact ⟨a, vs, h1, h2, fun j hj => ⟨hz _ _ (h3 j hj).1, (h3 j hj).2⟩, DCs_mono (Zk.same hz) _ _ h4⟩
  | .ref id m lo len, v, hb, h => by
    simp only [VB, decide_eq_true_eq] at hb
    obtain ⟨e1, e2⟩ := hc id hb
    simpa only [VR, e1, e2] using h
  | .ep id m i off, v, hb, h => by
    simp only [VB, decide_eq_true_eq] at hb
    obtain ⟨e1, e2⟩ := hc id hb
    simpa only [VR, e1, e2] using h
  | .csl id es len, v, hb, h => by
    simp only [VB, decide_eq_true_eq] at hb
    obtain ⟨e1, e2⟩ := hc id hb
    simpa only [VR, e1, e2] using h
  | .obj id, v, hb, h => by
    simp only [VB, decide_eq_true_eq] at hb
    simp only [VR] at h ⊢
    obtain ⟨b, o, h0, h1, h2⟩ := h
    obtain ⟨e1, e2⟩ := hc id hb
    exact ⟨b, o, e1.trans h0, e2.trans h1, h2⟩
  | .fn f x y, v, hb, h => by
    cases f with
    | yield id =>
      simp only [VB, decide_eq_true_eq] at hb
      obtain ⟨e1, e2⟩ := hc id hb
      simpa only [VR, e1, e2] using h
    | _ =>
      simp only [VB, Bool.and_eq_true] at hb
      simp only [VR] at h ⊢
      obtain ⟨x', y', h1, h2, h3⟩ := h
      exact ⟨x', y', h1, VBs_cut hz hc x _ hb.1 h2, VBs_cut hz hc y _ hb.2 h3⟩
  | .agg l, v, hb, h => by
    simp only [VB] at hb
    simp only [VR] at h ⊢
    obtain ⟨cs, h1, h2⟩ := h
    exact ⟨cs, h1, VBs_cut hz hc l _ hb h2⟩
  | .tup l, v, hb, h => by
    simp only [VB] at hb
    simp only [VR] at h ⊢
    obtain ⟨cs, h1, h2⟩ := h
    exact ⟨cs, h1, VBs_cut hz hc l _ hb h2⟩
theorem VBs_cut (hz : ∀ b o, g.Z b o → g'.Z b o) (hc : ∀ id, id < n → H'[id]? = H[id]? ∧ g'.φ[id]? = g.φ[id]?) : ∀ (l : List V) (cs : List Value), VBs n l = true → VRs g H w l cs → VRs g' H' w l cs
  | [], _, _, h => by simpa [VRs] using h
  | d :: ds, cs, hb, h => by
    simp only [VBs, Bool.and_eq_true] at hb
    simp only [VRs] at h ⊢
    obtain ⟨c, r, h1, h2, h3⟩ := h
    exact ⟨c, r, h1, VB_cut hz hc d _ hb.1 h2, VBs_cut hz hc ds r hb.2 h3⟩
end

end
end Go.Aw
end

section
namespace Go.Aw
open Go

/-- The ghosts after the blocks from n on are dropped, and never written again. -/
def G.pub (g : G) (n : Nat) : G := ⟨fun b o => g.Z b o ∨ ∃ id : Nat, n ≤ id ∧ g.φ[id]? = some (some b), g.φ.take n⟩

section
variable {g : G} {H : Heap} {w : World} {n : Nat}

theorem pub_z (g : G) (n : Nat) : ∀ b o, g.Z b o → (g.pub n).Z b o := fun _ _ z => .inl z

theorem pub_cut (g : G) (H : Heap) (n : Nat) : ∀ id, id < n → (H.take n)[id]? = H[id]? ∧ (g.pub n).φ[id]? = g.φ[id]? :=
  fun _ h => ⟨List.getElem?_take_of_lt h, List.getElem?_take_of_lt h⟩

mutual
theorem VB_le {m k : Nat} (h : m ≤ k) : ∀ (x : V), VB m x = true → VB k x = true
  | .und, _ => rfl
  | .d x, _ => rfl
  | .slx nl l, _ => rfl
  | .pp cs, _ => rfl
  | .ptr id off, hb => by simp only [VB, decide_eq_true_eq] at hb ⊢; omega
  | .ref id _ lo len, hb => by simp only [VB, decide_eq_true_eq] at hb ⊢; omega
  | .ep id _ i off, hb => by simp only [VB, decide_eq_true_eq] at hb ⊢; omega
  | .csl id _ _, hb => by simp only [VB, decide_eq_true_eq] at hb ⊢; omega
  | .obj id, hb => by simp only [VB, decide_eq_true_eq] at hb ⊢; omega
  | .fn f x y, hb => by
    cases f with
    | yield id => simp only [VB, decide_eq_true_eq] at hb ⊢; omega
    | _ =>
      simp only [VB, Bool.and_eq_true] at hb ⊢
      exact ⟨VBs_le h x hb.1, VBs_le h y hb.2⟩
  | .agg l, hb => by simp only [VB] at hb ⊢; exact VBs_le h l hb
  | .tup l, hb => by simp only [VB] at hb ⊢; exact VBs_le h l hb
theorem VBs_le {m k : Nat} (h : m ≤ k) : ∀ (l : List V), VBs m l = true → VBs k l = true
  | [], _ => rfl
  | d :: ds, hb => by
    simp only [VBs, Bool.and_eq_true] at hb ⊢
    exact ⟨VB_le h d hb.1, VBs_le h ds hb.2⟩
end

mutual
theorem VR_VB : ∀ (x : V) (v : Value), VR g H w x v → VB H.length x = true
  | .und, _, _ => rfl
  | .d x, v, h => rfl
  | .slx nl l, v, h => rfl
  | .pp cs, v, h => rfl
  | .ptr id off, v, h => by
    simp only [VR] at h
    obtain ⟨b, cs, h0, _⟩ := h
    simpa [VB] using lt_of_getElem? h0
  | .ref id m lo len, v, h => by
    simp only [VR] at h
    obtain ⟨_, sz, nl, els, h0, _⟩ := h
    simpa [VB] using lt_of_getElem? h0
  | .ep id m i off, v, h => by
    simp only [VR] at h
    obtain ⟨_, sz, nl, els, h0, _⟩ := h
    simpa [VB] using lt_of_getElem? h0
  | .csl id es len, v, h => by
    simp only [VR] at h
    obtain ⟨b, cs, cap, h0, _⟩ := h
    simpa [VB] using lt_of_getElem? h0
  | .obj id, v, h => by
    simp only [VR] at h
    obtain ⟨b, o, h0, _⟩ := h
    simpa [VB] using lt_of_getElem? h0
  | .fn f x y, v, h => by
    cases f with
    | yield id =>
      simp only [VR] at h
      obtain ⟨_, _, b, st, pend, E, ps, p, q, h0, _⟩ := h
      simpa [VB] using lt_of_getElem? h0
    | _ =>
      simp only [VR] at h
      obtain ⟨x', y', _, h1, h2⟩ := h
      simp only [VB, Bool.and_eq_true]
      exact ⟨VRs_VBs x _ h1, VRs_VBs y _ h2⟩
  | .agg l, v, h => by
    simp only [VR] at h
    obtain ⟨cs, _, h1⟩ := h
    simpa [VB] using VRs_VBs l _ h1
  | .tup l, v, h => by
    simp only [VR] at h
    obtain ⟨cs, _, h1⟩ := h
    simpa [VB] using VRs_VBs l _ h1
theorem VRs_VBs : ∀ (l : List V) (cs : List Value), VRs g H w l cs → VBs H.length l = true
  | [], _, _ => rfl
  | d :: ds, cs, h => by
    simp only [VRs] at h
    obtain ⟨c, r, _, h1, h2⟩ := h
    simp only [VBs, Bool.and_eq_true]
    exact ⟨VR_VB d _ h1, VRs_VBs ds r h2⟩
end

/-- The first n blocks name none but themselves: or they are all. -/
def BBq (n : Nat) (H : Heap) : Prop := H.length ≤ n ∨ BBs n (H.take n)

theorem BBq_at (hr : HR g H w) (h : BBq n H) {id b : Nat} {x : Blk} (hid : id < n) (hφ : g.φ[id]? = some (some b)) (hx : H[id]? = some x) : BB n x := by
  rcases h with h | h
  · obtain ⟨_, _, h3⟩ := hr.blk id b _ hφ hx
    have up : ∀ v, VB H.length v = true → VB n v = true := fun v => VB_le h v
    have ups : ∀ v, VBs H.length v = true → VBs n v = true := fun v => VBs_le h v
    cases x with
    | cells cs => obtain ⟨vs, t, _, h4, _⟩ := h3; exact ups _ (VRs_VBs _ _ h4)
    | arr sz nl els => trivial
    | loop st pend E ps y z => obtain ⟨r, _, _, _, _, _, _, h7⟩ := h3; exact fun t => up _ (VR_VB _ _ (h7 t))
    | obj o =>
      cases o with
      | map es => trivial
      | iter mid m seen => obtain ⟨mb, es, sA, h4, _⟩ := h3; exact Nat.lt_of_lt_of_le (lt_of_getElem? h4) h
      | sit s p => trivial
  · exact BBs_all h x (List.mem_of_getElem? (i := id) (by rw [List.getElem?_take_of_lt hid]; exact hx))

theorem HR_pub (hr : HR g H w) (hn : n ≤ H.length) (hb : BBq n H) : HR (g.pub n) (H.take n) w where
  len := by simp [G.pub, hr.len]
  zlt := fun b o z => by
    rcases z with z | ⟨id, _, h⟩
    · exact hr.zlt b o z
    · exact hr.lt h
  inj := fun i j b hi hj => by
    simp only [G.pub, List.getElem?_take] at hi hj
    split at hi
    · split at hj
      · exact hr.inj i j b hi hj
      · cases hj
    · cases hi
  blk := fun id b x hp hx => by
    have hid : id < n := by
      rcases Nat.lt_or_ge id n with h | h
      · exact h
      · rw [List.getElem?_take, if_neg (by omega)] at hx; cases hx
    obtain ⟨e1, e2⟩ := pub_cut g H n id hid
    rw [e2] at hp
    rw [e1] at hx
    have hbx := BBq_at hr hb hid hp hx
    obtain ⟨h1, h2, h3⟩ := hr.blk id b x hp hx
    refine ⟨h1, fun o z => ?_, ?_⟩
    · rcases z with z | ⟨id', hid', h'⟩
      · exact h2 o z
      · have := hr.inj _ _ _ hp h'; omega
    · cases x with
      | cells cs =>
        obtain ⟨vs, t, k1, k2, k3⟩ := h3
        exact ⟨vs, t, k1, VBs_cut (pub_z g n) (pub_cut g H n) _ _ hbx k2, k3⟩
      | arr sz nl els =>
        obtain ⟨k0, vs, t, k1, k2, k3⟩ := h3
        exact ⟨k0, vs, t, k1, k2, fun i x hx => ⟨(k3 i x hx).1, DC_mono (Zk.same (g := g) (g' := g.pub n) (pub_z g n)) _ _ (k3 i x hx).2⟩⟩
      | loop st pend E ps y z =>
        obtain ⟨r, k1, k2, k3, k4, k5, k6, k7⟩ := h3
        exact ⟨r, k1, k2, k3, k4, k5, k6, fun t => VB_cut (pub_z g n) (pub_cut g H n) _ _ (hbx t) (k7 t)⟩
      | obj o =>
        cases o with
        | map es =>
          obtain ⟨ents, k1, k2⟩ := h3
          exact ⟨ents, k1, MR_mono (Zk.same (g := g) (g' := g.pub n) (pub_z g n)) _ _ _ k2⟩
        | iter mid m seen =>
          obtain ⟨mb, es, sA, k1, k2, k3, k4⟩ := h3
          obtain ⟨c1, c2⟩ := pub_cut g H n mid hbx
          exact ⟨mb, es, sA, c1.trans k1, c2.trans k2, k3, k4⟩
        | sit s p => exact h3

theorem Kp.pub {g0 : G} {w0 : World} (hk : Kp g0 w0 g w) (n : Nat) : Kp g0 w0 (g.pub n) w where
  os := hk.os
  tape := hk.tape
  out := hk.out
  size := hk.size
  fr := hk.fr
  z := fun b o z => .inl (hk.z b o z)
  zn := fun b o z => by
    rcases z with z | ⟨id, _, h⟩
    · exact hk.zn b o z
    · rcases hk.pn id b h with h' | h'
      · exact .inr (.inr ⟨id, h'⟩)
      · exact .inr (.inl h')
  pn := fun id b h => by
    simp only [G.pub, List.getElem?_take] at h
    split at h
    · exact hk.pn id b h
    · cases h

theorem Ag_of_cut {g0 g' : G} {H0 H' : Heap} {w0 : World} (ha : Ag g0 H0 w0 g H w) (hc : ∀ id, id < H0.length → H'[id]? = H[id]? ∧ g'.φ[id]? = g.φ[id]?) : Ag g0 H0 w0 g' H' w := by
  intro id x hx
  obtain ⟨e1, e2⟩ := hc id (lt_of_getElem? hx)
  have := ha id x hx
  cases x <;> simpa only [e1, e2] using this

theorem AgN.pub {n0 : Nat} {g0 : G} {H0 : Heap} {w0 : World} (ha : AgN n0 g0 H0 w0 g H w) (hn0 : n0 ≤ n) (hn : n ≤ H.length) : AgN n0 g0 H0 w0 (g.pub n) (H.take n) w := by
  refine ⟨ha.1, by simp; omega, Ag_of_cut ha.2.2 fun id hid => ?_⟩
  simp only [List.length_take] at hid
  refine ⟨?_, (pub_cut g H n id (by omega)).2⟩
  rw [List.getElem?_take_of_lt (by omega), List.getElem?_take_of_lt (by omega), List.getElem?_take_of_lt (by omega)]

theorem pubDs_sound (hr : HR g H w) : ∀ (l : List V) (cs : List Value) (ds : List D), pubDs n H l = some ds → (∀ c ∈ l, c.one = true) → VRs g H w l cs → DCs w (g.pub n).Z ds cs
  | [], cs, ds, hp, _, h => by simp [pubDs] at hp; subst hp; simpa [VRs, DCs] using h
  | v :: r, cs, ds, hp, ho, h => by
    simp only [pubDs] at hp
    split at hp
    · rename_i x l hx hl
      simp at hp; subst hp
      simp only [VRs] at h
      obtain ⟨c, r', rfl, h1, h2⟩ := h
      refine ⟨c, r', rfl, ?_, pubDs_sound hr r r' l hl (fun y hy => ho y (List.mem_cons_of_mem _ hy)) h2⟩
      have hone := ho v List.mem_cons_self
      cases v with
      | ref id m lo len =>
        simp only [pubD] at hx
        split at hx
        · cases hx
        · rename_i hid
          split at hx
          · rename_i sz nl els he
            split at hx
            · rename_i hm
              simp at hx; subst hx
              exact ref_frozen hr (pub_z g n) he hm (fun b o hb => .inr ⟨id, by omega, hb⟩) h1
            · cases hx
          · cases hx
      | d x' =>
        simp [pubD, toD] at hx; subst hx
        simp only [VR] at h1
        exact DC_mono (Zk.same (g := g) (g' := g.pub n) (pub_z g n)) _ _ ((DR_one hone).1 h1)
      | slx nl l' =>
        simp [pubD, toD] at hx; subst hx
        have := toD_sound (x := .slx nl l') rfl h1
        exact DC_mono (Zk.same (g := g) (g' := g.pub n) (pub_z g n)) _ _ this
      | _ => simp [pubD, toD] at hx
    · cases hp

theorem DCs_DCe {Z : Nat → Nat → Prop} {b : Nat} {t : TypeId} {vs : Array Value} (hb : w.heap[b]? = some (.cells vs t (0, 0))) (hZ : ∀ o, Z b o) : ∀ (ds : List D) (k : Nat), DCs w Z ds (vs.toList.drop k) → DCe w Z ds b k 1
  | [], _, _ => by simp [DCe]
  | d :: ds, k, h => by
    simp only [DCs] at h
    obtain ⟨c, r, h1, h2, h3⟩ := h
    simp only [DCe]
    refine ⟨⟨[c], rfl, fun j hj => ⟨hZ _, ?_⟩, h2⟩, DCs_DCe hb hZ ds (k + 1) ?_⟩
    · obtain rfl : j = 0 := by omega
      rw [cell_of_block hb]
      have := congrArg (fun l => l[0]?) h1
      simpa using this
    · have := congrArg (fun l => l.drop 1) h1
      simp only [List.drop_drop, List.drop_succ_cons, List.drop_zero] at this
      rw [this]; exact h3

mutual
theorem pub_sound (hr : HR g H w) : ∀ (x : V) (v : Value) (x' : V), pubV n H x = some x' → VR g H w x v → VR (g.pub n) (H.take n) w x' v
  | .und, _, x', hp, _ => by simp [pubV] at hp; subst hp; simp [VR]
  | .d x, v, x', hp, h => by simp [pubV] at hp; subst hp; exact VB_cut (pub_z g n) (pub_cut g H n) _ _ rfl h
  | .slx nl l, v, x', hp, h => by simp [pubV] at hp; subst hp; exact VB_cut (pub_z g n) (pub_cut g H n) _ _ rfl h
  | .pp cs, v, x', hp, h => by simp [pubV] at hp; subst hp; exact VB_cut (pub_z g n) (pub_cut g H n) _ _ rfl h
  | .ptr id off, v, x', hp, h => by
    simp only [pubV] at hp
    split at hp
    · rename_i hid
      simp at hp; subst hp
      exact VB_cut (pub_z g n) (pub_cut g H n) _ _ (by simpa [VB] using hid) h
    · rename_i hid
      split at hp
      · rename_i cs hcs
        split at hp
        · rename_i ds hds
          simp at hp; subst hp
          simp only [VR] at h ⊢
          obtain ⟨b, cs', e1, e2, rfl⟩ := h
          rw [hcs] at e1; cases e1
          obtain ⟨_, _, vs, t, k1, k2, k3⟩ := hr.blk id b _ e2 hcs
          obtain ⟨k4, _⟩ := toDs_sound _ _ _ hds k3 k2
          refine ⟨_, vs.toList.drop off, rfl, rfl, fun j hj => ⟨.inr ⟨id, by omega, e2⟩, ?_⟩, ?_⟩
          · rw [cell_of_block k1]
            simp
          · exact DCs_drop off _ _ (DCs_mono (Zk.same (g := g) (g' := g.pub n) (pub_z g n)) _ _ k4)
        · cases hp
      · cases hp
  | .ref id m lo len, v, x', hp, h => by
    simp only [pubV] at hp
    split at hp
    · rename_i hid
      simp at hp; subst hp
      exact VB_cut (pub_z g n) (pub_cut g H n) _ _ (by simpa [VB] using hid) h
    · rename_i hid
      split at hp
      · rename_i sz nl els he
        split at hp
        · rename_i hm
          simp at hp; subst hp
          simp only [VR]
          exact ref_frozen hr (pub_z g n) he hm (fun b o hb => .inr ⟨id, by omega, hb⟩) h
        · cases hp
      · cases hp
  | .ep id m i off, v, x', hp, h => by
    simp only [pubV] at hp
    split at hp
    · rename_i hid
      simp at hp; subst hp
      exact VB_cut (pub_z g n) (pub_cut g H n) _ _ (by simpa [VB] using hid) h
    · cases hp
  | .obj id, v, x', hp, h => by
    simp only [pubV] at hp
    split at hp
    · rename_i hid
      simp at hp; subst hp
      exact VB_cut (pub_z g n) (pub_cut g H n) _ _ (by simpa [VB] using hid) h
    · cases hp
  | .csl id es len, v, x', hp, h => by
    simp only [pubV] at hp
    split at hp
    · rename_i hid
      simp at hp; subst hp
      exact VB_cut (pub_z g n) (pub_cut g H n) _ _ (by simpa [VB] using hid) h
    · rename_i hid
      split at hp
      · rename_i cs hcs
        split at hp
        · rename_i ds hds
          split at hp
          · rename_i hes
            simp at hp; subst hp; subst hes
            simp only [VR] at h ⊢
            obtain ⟨b, cs', cap, e1, e2, e3, rfl, e4⟩ := h
            rw [hcs] at e1; cases e1
            obtain ⟨_, _, vs, t, k1, k2, k3⟩ := hr.blk id b _ e2 hcs
            have k4 := pubDs_sound hr _ _ _ hds k3 k2
            have k5 := DCs_length _ _ k4
            have k6 := VRs_length _ _ k2
            simp only [DR, DC]
            refine ⟨_, len, cap, rfl, by omega, e4, (fun h => nomatch h), fun ad had => ?_⟩
            cases had
            exact ⟨fun _ => rfl, 1, DCs_DCe k1 (fun o => .inr ⟨id, by omega, e2⟩) _ 0 k4⟩
          · cases hp
        · cases hp
      · cases hp
  | .fn f x y, v, x', hp, h => by
    cases f with
    | yield id =>
      simp only [pubV] at hp
      split at hp
      · rename_i hid
        simp at hp; subst hp
        exact VB_cut (pub_z g n) (pub_cut g H n) _ _ (by simpa [VB] using hid) h
      · cases hp
    | _ =>
      simp only [pubV] at hp
      split at hp
      · rename_i x1 y1 hx hy
        simp at hp; subst hp
        simp only [VR] at h ⊢
        obtain ⟨x', y', h1, h2, h3⟩ := h
        exact ⟨x', y', h1, pubs_sound hr x _ _ hx h2, pubs_sound hr y _ _ hy h3⟩
      · cases hp
  | .agg l, v, x', hp, h => by
    simp only [pubV] at hp
    split at hp
    · rename_i l' hl
      split at hp
      · rename_i ho
        simp at hp; subst hp
        simp only [VR] at h
        obtain ⟨cs, rfl, h2⟩ := h
        have := norm_sound (List.all_eq_true.1 ho) (pubs_sound hr l _ _ hl h2)
        simpa using this
      · cases hp
    · cases hp
  | .tup l, v, x', hp, h => by
    simp only [pubV] at hp
    split at hp
    · rename_i l' hl
      simp at hp; subst hp
      simp only [VR] at h ⊢
      obtain ⟨cs, h1, h2⟩ := h
      exact ⟨cs, h1, pubs_sound hr l _ _ hl h2⟩
    · cases hp
theorem pubs_sound (hr : HR g H w) : ∀ (l : List V) (cs : List Value) (l' : List V), pubVs n H l = some l' → VRs g H w l cs → VRs (g.pub n) (H.take n) w l' cs
  | [], cs, l', hp, h => by simp [pubVs] at hp; subst hp; simpa [VRs] using h
  | d :: ds, cs, l', hp, h => by
    simp only [pubVs] at hp
    split at hp
    · rename_i d' ds' hd hds
      simp at hp; subst hp
      simp only [VRs] at h ⊢
      obtain ⟨c, r, h1, h2, h3⟩ := h
      exact ⟨c, r, h1, pub_sound hr d _ _ hd h2, pubs_sound hr ds _ _ hds h3⟩
    · cases hp
end

/-- A value that says less. -/
def VW (n : Nat) (H : Heap) (v v' : V) : Prop :=
  v' = .und ∨ (v = v' ∧ H.length ≤ n) ∨ pubV n H v = some v' ∨ ∃ nl l, v = .slx nl l ∧ (v' = .slx none l ∨ v' = .d (.sl l))

theorem VW_sound (hr : HR g H w) {v v' : V} {cv : Value} (h : VW n H v v') (hv : VR g H w v cv) : VR (g.pub n) (H.take n) w v' cv := by
  rcases h with rfl | ⟨rfl, h⟩ | h | ⟨nl, l, rfl, h⟩
  · trivial
  · exact VB_cut (pub_z g n) (pub_cut g H n) _ _ (VB_le h _ (VR_VB _ _ hv)) hv
  · exact pub_sound hr _ _ _ h hv
  · have := VB_cut (pub_z g n) (pub_cut g H n) _ _ rfl hv
    rcases h with rfl | rfl
    · simp only [VR] at this ⊢
      obtain ⟨a, h1, h2, h3⟩ := this
      exact ⟨a, h1, by simp, h3⟩
    · simp only [VR]
      exact toD_sound (x := .slx nl l) rfl this

/-- An environment that says less: what it lists. -/
def EW (n : Nat) (H : Heap) (E : Env) : Env → Prop
  | [] => True
  | (k, v) :: r => VW n H (E.look k) v ∧ EW n H E r

theorem EW_look {E : Env} : ∀ {E' : Env}, EW n H E E' → ∀ t, VW n H (E.look t) (E'.look t)
  | [], _, t => .inl rfl
  | (k, v) :: r, h, t => by
    simp only [Env.look]
    split
    · rename_i hk; subst hk; exact h.1
    · exact EW_look h.2 t

end
end Go.Aw
end

section
namespace Go.Aw
open Go

def CutTo (n0 : Nat) (E : Env) (H : Heap) (R : Env → Heap → Prop) : Prop :=
  ∃ E' n, n0 ≤ n ∧ n ≤ H.length ∧ BBq n H ∧ EW n H E E' ∧ R E' (H.take n)

section
variable {P : Program} {T : Nat → Ty} {hint : Nat → Bool} {N n0 : Nat} {r : Option Nat}

theorem Rel.pub {l : Option Nat} {m0 : Nat} {g : G} {E E' : Env} {H : Heap} {a : Act} {w : World} {n : Nat} (h : Rel N r l m0 g E H a w) (hr : ∀ id, r = some id → id < n) (hn : n ≤ H.length) (hb : BBq n H) (he : EW n H E E') :
    Rel N r l m0 (g.pub n) E' (H.take n) a w where
  hr := HR_pub h.hr hn hb
  er := fun t => VW_sound h.hr (EW_look he t) (h.er t)
  sz := h.sz
  rnd := by
    have := h.rnd
    cases r with
    | none => exact this
    | some id =>
      obtain ⟨b, st, pend, E, ps, x, y, h1, h2, h3⟩ := this
      obtain ⟨e1, e2⟩ := pub_cut g H n id (hr id rfl)
      exact ⟨b, st, pend, E, ps, x, y, h1, e2.trans h2, e1.trans h3⟩
  df := by
    obtain ⟨h0, rs, h1, h2, h3⟩ := h.df
    refine ⟨h0, rs, h1, h2, fun r hr => ⟨(h3 r hr).1, (h3 r hr).2.1, fun id hid => ?_⟩⟩
    simp only [G.pub, List.getElem?_take] at hid
    split at hid
    · exact (h3 r hr).2.2 id hid
    · cases hid

/-- What is left is said with less. -/
theorem AWP.cut {c : Code} {E : Env} {H : Heap} {Q Q' : Ex → Env → Heap → Prop} (h : AWP P N n0 r c E H Q) (hq : ∀ x E1 H1, n0 ≤ H1.length → Q x E1 H1 → CutTo n0 E1 H1 (Q' x)) : AWP P N n0 r c E H Q' := by
  refine ⟨h.1, h.2.1, fun g w a l m0 hrel => wpIn_mono (h.2.2 g w a l m0 hrel) ?_⟩
  rintro e a' w' ⟨x, E1, H1, g', h1, h2, h3, h4, h5⟩
  obtain ⟨E', n, k1, k2, k3, k4, k5⟩ := hq x E1 H1 h5.2.1 h2
  exact ⟨x, E', H1.take n, g'.pub n, h1, k5, h3.pub (fun id hid => Nat.lt_of_lt_of_le (h.2.1 id hid) k1) k2 k3 k4, h4.pub n, h5.pub k1 k2⟩

theorem Kp.of_pub {g g' : G} {w w' : World} {n : Nat} (h : Kp (g.pub n) w g' w') : Kp g w g' w' where
  os := h.os
  tape := h.tape
  out := h.out
  size := h.size
  fr := fun b hb hn => h.fr b hb fun id hid => by
    simp only [G.pub, List.getElem?_take] at hid
    split at hid
    · exact hn id hid
    · cases hid
  z := fun b o z => h.z b o (.inl z)
  zn := fun b o z => by
    rcases h.zn b o z with (h' | ⟨id, _, h'⟩) | h' | ⟨id, h'⟩
    · exact .inl h'
    · exact .inr (.inr ⟨id, h'⟩)
    · exact .inr (.inl h')
    · simp only [G.pub, List.getElem?_take] at h'
      split at h'
      · exact .inr (.inr ⟨id, h'⟩)
      · cases h'
  pn := fun id b hp => by
    rcases h.pn id b hp with h' | h'
    · simp only [G.pub, List.getElem?_take] at h'
      split at h'
      · exact .inl h'
      · cases h'
    · exact .inr h'

/-- What is there ahead is said with less. -/
theorem AWP.of_cut {c : Code} {E : Env} {H : Heap} {Q : Ex → Env → Heap → Prop} (hn : n0 ≤ H.length) (h : CutTo n0 E H fun E' H' => AWP P N n0 r c E' H' Q) : AWP P N n0 r c E H Q := by
  obtain ⟨E', n, k1, k2, k3, k4, k5⟩ := h
  refine ⟨hn, k5.2.1, fun g w a l m0 hrel => wpIn_mono (k5.2.2 (g.pub n) w a l m0 (hrel.pub (fun id hid => Nat.lt_of_lt_of_le (k5.2.1 id hid) k1) k2 k3 k4)) ?_⟩
  rintro e a' w' ⟨x, E1, H1, g', h1, h2, h3, h4, h5⟩
  refine ⟨x, E1, H1, g', h1, h2, h3, h4.of_pub, hn, h5.2.1, ?_⟩
  have := h5.2.2
  rw [List.take_take, Nat.min_eq_left k1] at this
  intro id x hx
  have hlt := lt_of_getElem? hx
  simp only [List.length_take] at hlt
  have e2 := (pub_cut g H n id (by omega)).2
  have := this id x hx
  cases x with
  | arr sz nl els =>
    obtain ⟨nl', els', f1, f2, f3⟩ := this
    exact ⟨nl', els', f1, f2, fun he => by
      obtain ⟨k1, k2, k3⟩ := f3 he
      exact ⟨k1, k2.trans e2, fun b vs t hb hw => k3 b vs t (e2.trans hb) hw⟩⟩
  | cells cs => exact ⟨this.1, this.2.trans e2⟩
  | loop st pend E ps y z => exact ⟨this.1, this.2.trans e2⟩
  | obj o => exact ⟨this.1, this.2.trans e2⟩

/-- A loop, by a relation that holds ahead of each round when all else is forgotten, and a number that falls. -/
theorem AWP.loopW {c : Code} {E : Env} {H : Heap} {Q : Ex → Env → Heap → Prop} (inv : Nat → Env → Heap → Prop) (k0 : Nat) (hn : n0 ≤ H.length) (hr : ∀ id, r = some id → id < n0) (h0 : CutTo n0 E H (inv k0))
    (round : ∀ k E H, n0 ≤ H.length → inv k E H → AWP P N n0 r c E H (thenEx (fun E' H' => ∃ j, j < k ∧ CutTo n0 E' H' (inv j)) Q)) : AWP P N n0 r (.loop c) E H Q := by
  refine AWP.loop (fun k E H => CutTo n0 E H (inv k)) k0 hn hr h0 fun k E1 H1 hn1 hi => ?_
  obtain ⟨E2, n2, j1, j2, j3, j4, j5⟩ := hi
  exact AWP.of_cut hn1 ⟨E2, n2, j1, j2, j3, j4, round k E2 _ (by simp; omega) j5⟩

/-! ### Functions -/

def envOf : Nat → List V → Env
  | _, [] => []
  | k, v :: r => (k, v) :: envOf (k + 1) r

def resV (T : Nat → Ty) (E : Env) (H : Heap) : List ResultVar → Option (List V)
  | [] => some []
  | .tmp t :: r => match resV T E H r with
    | some vs => some (E.look t :: vs)
    | none => none
  | .cell a t :: r => match aload (T t) H (E.look a), resV T E H r with
    | some v, some vs => some (v :: vs)
    | _, _ => none

def mkRes : List V → V
  | [v] => v
  | l => .tup l

/-- What a body must come to. -/
def FnPost (T : Nat → Ty) (rs : List ResultVar) (n : Nat) (Q : V → Heap → Prop) : Ex → Env → Heap → Prop
  | .exit _, _, _ => False
  | _, E, H => Som (resV T E H rs) fun vs => Som (pubV n H (mkRes vs)) fun v => BBq n H ∧ Q v (H.take n)

theorem look_envOf : ∀ (vs : List V) (k t : Nat), Env.look (envOf k vs) t = if k ≤ t then vs.getD (t - k) .und else .und
  | [], k, t => by simp [envOf, Env.look]
  | v :: r, k, t => by
    simp only [envOf, Env.look]
    by_cases h : k = t
    · subst h; simp
    · rw [if_neg h, look_envOf r (k + 1) t]
      by_cases h2 : k ≤ t
      · rw [if_pos h2, if_pos (by omega), show t - k = (t - (k + 1)) + 1 by omega]
        simp
      · rw [if_neg h2, if_neg (by omega)]

theorem VRs_get {g : G} {H : Heap} {w : World} : ∀ {l : List V} {cs : List Value} {i : Nat} {v : V}, VRs g H w l cs → l[i]? = some v → ∃ c, cs[i]? = some c ∧ VR g H w v c
  | [], _, _, _, _, h => by simp at h
  | d :: ds, cs, i, v, hv, h => by
    simp only [VRs] at hv
    obtain ⟨c, r, rfl, h2, h3⟩ := hv
    cases i with
    | zero => simp at h; subst h; exact ⟨c, rfl, h2⟩
    | succ i => simp at h; simpa using VRs_get h3 h

theorem run_loadVar_of {t : TypeId} {a : Addr} {v : Value} {w : World} (h : (Instr.loadAt t (.pointer (some a))).run P w = .ok v w) : (loadVar t a).run P w = .ok v w := by
  simpa [Instr.loadAt, sureAddr_run] using h

def res1 (tmps : Array Value) : ResultVar → Sem Value
  | .tmp t => pure (tmps.getD t undef)
  | .cell a t => do loadVar t (← asAddr (tmps.getD a undef))

theorem results_eq (fn : Func) (tmps : Array Value) : results fn tmps = (do let vs ← fn.results.mapM (res1 tmps); pure (if h : vs.size = 1 then vs[0] else .tuple vs)) := by
  unfold results
  congr 1

theorem res_sound (hT : TOK P T) {g : G} {H : Heap} {w : World} {E : Env} {tmps : Array Value} (hr : HR g H w) (he : ER g H w E tmps) : ∀ (rs : List ResultVar) (vs : List V), resV T E H rs = some vs →
    ∃ cs, (rs.mapM (res1 tmps)).run P w = .ok cs w ∧ VRs g H w vs cs
  | [], vs, h => by
    simp [resV] at h; subst h
    exact ⟨[], by simp [Sem.run_pure], rfl⟩
  | .tmp t :: r, vs, h => by
    simp only [resV] at h
    split at h
    · rename_i vs' hvs
      simp at h; subst h
      obtain ⟨cs, h1, h2⟩ := res_sound hT hr he r vs' hvs
      refine ⟨tmps.getD t undef :: cs, ?_, ⟨_, _, rfl, he t, h2⟩⟩
      simp [List.mapM_cons, h1, res1]
    · cases h
  | .cell a t :: r, vs, h => by
    simp only [resV] at h
    split at h
    · rename_i v vs' hv hvs
      simp at h; subst h
      obtain ⟨cs, h1, h2⟩ := res_sound hT hr he r vs' hvs
      obtain ⟨cv, h3, h4⟩ := aload_sound (hT t) hr (he a) hv
      have hp : ∃ ad, tmps.getD a undef = .pointer (some ad) := by
        have := he a
        revert hv this
        generalize Env.look E a = x
        intro hv hx
        cases x with
        | pp cs => simp only [VR] at hx; obtain ⟨ad, _, h, _⟩ := hx; exact ⟨ad, h⟩
        | ptr id off => simp only [VR] at hx; obtain ⟨_, _, _, _, h⟩ := hx; exact ⟨_, h⟩
        | ep id n i off => simp only [VR] at hx; obtain ⟨⟨p, h, _⟩, _⟩ := hx; exact ⟨p, h⟩
        | _ => simp [aload] at hv
      obtain ⟨ad, hp⟩ := hp
      rw [hp] at h3
      refine ⟨cv :: cs, ?_, ⟨_, _, rfl, h4, h2⟩⟩
      simp only [List.mapM_cons, Sem.run_bind, Sem.run_pure, res1, hp, asAddr, Result.andThen_ok, run_loadVar_of h3, h1]
    · cases h

theorem results_sound (hT : TOK P T) {fn : Func} {g : G} {H : Heap} {w : World} {E : Env} {tmps : Array Value} (hr : HR g H w) (he : ER g H w E tmps) {vs : List V} (h : resV T E H fn.results.toList = some vs) :
    ∃ v, (results fn tmps).run P w = .ok v w ∧ VR g H w (mkRes vs) v := by
  obtain ⟨cs, h1, h2⟩ := res_sound hT hr he _ _ h
  have hl := VRs_length _ _ h2
  refine ⟨if h : cs.toArray.size = 1 then cs.toArray[0] else .tuple cs.toArray, ?_, ?_⟩
  · rw [results_eq, ← Array.toArray_toList (xs := fn.results)]
    simp only [List.mapM_toArray]
    simp [Sem.run_map, h1]
  · cases vs with
    | nil =>
      simp [VRs] at h2; subst h2
      simp [mkRes, VR, VRs]
    | cons v r =>
      cases r with
      | nil =>
        simp only [VRs] at h2
        obtain ⟨c, r, rfl, h3, rfl⟩ := h2
        simpa [mkRes] using h3
      | cons v2 r =>
        simp only [List.length_cons] at hl
        simp only [mkRes, VR]
        have : ¬ cs.toArray.size = 1 := by simp; omega
        rw [dif_neg this]
        exact ⟨_, rfl, by simpa using h2⟩

/-- A mark is taken. -/
theorem take_mark {g g0 : G} {H : Heap} {w w0 : World} (hr : HR g H w) {r : Nat} {ds : List Deferred} (hd : w.heap[r]? = some (.deferred (some ds))) (hφ : ∀ id : Nat, g.φ[id]? ≠ some (some r)) (hk : Kp g0 w0 g w) (h0 : w0.heap.size ≤ r) :
    HR g H (w.putObj r (.deferred none)) ∧ Kp g0 w0 g (w.putObj r (.deferred none)) ∧ Ag g H w g H (w.putObj r (.deferred none)) ∧ Zk g.Z g.Z w (w.putObj r (.deferred none)) := by
  have hrl : r < w.heap.size := (Array.getElem?_eq_some_iff.1 hd).1
  have hoth : ∀ k, k ≠ r → (w.putObj r (.deferred none)).heap[k]? = w.heap[k]? := fun k hk => World.putObj_heap_other hk
  have hz : Zk g.Z g.Z w (w.putObj r (.deferred none)) := fun b o z => ⟨z, by
    by_cases hb : b = r
    · subst hb
      simp [World.cell?, hd, World.putObj_heap_same hrl]
    · exact World.cell?_of_block (w := w) (hoth b hb)⟩
  have ha : Ag g H w g H (w.putObj r (.deferred none)) := by
    intro id x hx
    cases x with
    | cells cs => exact ⟨⟨cs, hx, rfl⟩, rfl⟩
    | arr sz nl els => exact ⟨nl, els, hx, Nat.le_refl _, fun _ => ⟨rfl, rfl, fun b vs t hb h => ⟨vs, by rw [hoth b (fun e => hφ id (e ▸ hb))]; exact h, rfl⟩⟩⟩
    | loop st pend E ps a b => exact ⟨⟨st, pend, hx⟩, rfl⟩
    | obj o => exact ⟨⟨o, hx, rfl⟩, rfl⟩
  refine ⟨⟨hr.len, fun b o z => by rw [World.putObj_size]; exact hr.zlt b o z, fun id b x hp hx => ?_, hr.inj⟩, ⟨hk.os, hk.tape, hk.out, by rw [World.putObj_size]; exact hk.size, fun b hb hn => ?_, hk.z, hk.zn, hk.pn⟩, ha, hz⟩
  · obtain ⟨h1, h2, h3⟩ := hr.blk id b x hp hx
    exact ⟨by rw [World.putObj_size]; exact h1, h2, BR_mono hz ha (hoth b (fun e => hφ id (e ▸ hp))) h3⟩
  · rw [hoth b (by omega)]; exact hk.fr b hb hn

theorem leaves_marks {fn : Func} {tmps : Array Value} {R : Ending → World → Prop} {g g0 : G} {H H0 : Heap} {w0 : World} {E : Env} {F : Fence} {n nn : Nat} :
    ∀ (rs : List Nat) (w : World), rs.Nodup → (∀ r ∈ rs, w0.heap.size ≤ r ∧ w.heap[r]? = some (.deferred (some [])) ∧ ∀ id : Nat, g.φ[id]? ≠ some (some r)) → HR g H w → ER g H w E tmps → Kp g0 w0 g w → AgN nn g0 H0 w0 g H w →
      (∀ w', HR g H w' → ER g H w' E tmps → Kp g0 w0 g w' → AgN nn g0 H0 w0 g H w' → ∃ v, (results fn tmps).run P w' = .ok v w' ∧ R (.returned v) w') → LeavesInM F n P fn tmps R (rs.map mkMark) .returning w
  | [], w, _, _, hr, he, hk, ha, hR => by
    obtain ⟨v, h1, h2⟩ := hR w hr he hk ha
    exact ⟨v, h1, h2⟩
  | r :: rs, w, hnd, hm, hr, he, hk, ha, hR => by
    obtain ⟨m1, m2, m3⟩ := hm r (by simp)
    obtain ⟨k1, k2, k3, k4⟩ := take_mark hr m2 m3 hk m1
    simp only [List.nodup_cons] at hnd
    refine ⟨by simp, .inl ⟨r, _, rfl, run_takeDeferred m2, ?_⟩⟩
    refine leaves_marks rs _ hnd.2 (fun q hq => ?_) k1 (ER_mono he k4 k3) k2 (ha.trans (AgN.of_ag ha.2.1 k3)) hR
    obtain ⟨j1, j2, j3⟩ := hm q (by simp [hq])
    have hne : q ≠ r := fun e => hnd.1 (by rw [← e]; exact hq)
    exact ⟨j1, by rw [World.putObj_heap_other hne]; exact j2, j3⟩

/-- A function, from its body. -/
theorem ACalls.of_body (hT : TOK P T) {f : FuncId} {fn : Func} {c : Code} {vs : List V} {H : Heap} {Q : V → Heap → Prop} (hf : P.funcs[f]? = some fn) (hb : fn.body = some c) (hnm : (fn.name == "runtime.NumGoroutine") = false) (hlen : vs.length ≤ fn.ntmps)
    (h : AWP P fn.ntmps H.length none c (envOf 0 vs) H (FnPost T fn.results.toList H.length Q)) : ACalls P f vs H Q := by
  refine ⟨⟨fn, hf, by rw [hb]; rfl, hnm⟩, fun g w cvs hr hvs => ?_⟩
  have hcl := VRs_length _ _ hvs
  refine callsIn_of_wp_marks hf hb trivial (wpIn_mono (h.2.2 g w _ none w.heap.size ⟨hr, ?_, ?_, rfl, ⟨Nat.le_refl _, [], rfl, List.nodup_nil, by simp⟩⟩) ?_)
  · intro t
    rw [look_envOf]
    simp only [Nat.zero_le, if_true, Nat.sub_zero]
    rw [List.getD_eq_getElem?_getD]
    cases hv : vs[t]? with
    | none => simp [VR]
    | some v =>
      obtain ⟨c', h1, h2⟩ := VRs_get hvs hv
      simp only [Option.getD_some]
      have hlt := lt_of_getElem? h1
      rw [Array.getD_eq_getD_getElem?, Array.getElem?_append_left (by simpa using hlt)]
      simp only [List.getElem?_toArray, h1, Option.getD_some]
      exact h2
  · simp; omega
  · rintro e a' w' ⟨x, E', H', g', rfl, h2, h3, h4, h5⟩
    obtain ⟨_, rs, hd, hnd, hrs⟩ := h3.df
    have fin : (Som (resV T E' H' fn.results.toList) fun vs => Som (pubV H.length H' (mkRes vs)) fun v => BBq H.length H' ∧ Q v (H'.take H.length)) → LeavesInM (FR none) 0 P fn a'.tmps (CPost g H w Q) a'.defers .returning w' := by
      intro hfin
      obtain ⟨us, hus, hfin⟩ := Som_iff hfin
      obtain ⟨v, hv, hbb, hq⟩ := Som_iff hfin
      rw [hd]
      refine leaves_marks rs w' hnd hrs h3.hr h3.er h4 h5 fun w2 hr2 he2 hk2 ha2 => ?_
      obtain ⟨cv, k1, k2⟩ := results_sound hT hr2 he2 hus
      refine ⟨cv, k1, cv, g'.pub H.length, v, H'.take H.length, rfl, hq, pub_sound hr2 _ _ _ hv k2, HR_pub hr2 ha2.2.1 hbb, hk2.pub _, ?_⟩
      have := (ha2.pub (Nat.le_refl _) ha2.2.1).2.2
      rwa [List.take_length, List.take_take, Nat.min_self] at this
    cases x with
    | exit id => exact h2.elim
    | normal => exact fin h2
    | ret => exact fin h2

end
end Go.Aw
end

section
namespace Go.Aw
open Go

mutual
def flatD : D → Bool
  | .sl _ => false
  | .agg l => flatDs l
  | _ => true
def flatDs : List D → Bool
  | [] => true
  | d :: r => flatD d && flatDs r
end

mutual
/-- A value that says nothing of memory. -/
def flatV : V → Bool
  | .und => true
  | .d x => flatD x
  | .tup l => flatVs l
  | _ => false
def flatVs : List V → Bool
  | [] => true
  | d :: r => flatV d && flatVs r
end

mutual
theorem DC_flat {w w' : World} {Z Z' : Nat → Nat → Prop} : ∀ (x : D) (cs : List Value), flatD x = true → DC w Z x cs → DC w' Z' x cs
  | .bool _, _, _, h => by simpa [DC] using h
  | .int _ _, _, _, h => by simpa [DC] using h
  | .str _, _, _, h => by simpa [DC] using h
  | .nilp, _, _, h => by simpa [DC] using h
  | .nilf, _, _, h => by simpa [DC] using h
  | .nilm, _, _, h => by simpa [DC] using h
  | .agg l, cs, hf, h => by
    simp only [DC] at h ⊢
    exact DCs_flat l cs (by simpa [flatD] using hf) h
  | .sl l, cs, hf, h => by simp [flatD] at hf
theorem DCs_flat {w w' : World} {Z Z' : Nat → Nat → Prop} : ∀ (l : List D) (cs : List Value), flatDs l = true → DCs w Z l cs → DCs w' Z' l cs
  | [], _, _, h => by simpa [DCs] using h
  | d :: ds, cs, hf, h => by
    simp only [flatDs, Bool.and_eq_true] at hf
    simp only [DCs] at h ⊢
    obtain ⟨c, r, h1, h2, h3⟩ := h
    exact ⟨c, r, h1, DC_flat d _ hf.1 h2, DCs_flat ds r hf.2 h3⟩
end

mutual
theorem VR_flat {w w' : World} {g g' : G} {H H' : Heap} : ∀ (x : V) (v : Value), flatV x = true → VR g H w x v → VR g' H' w' x v
  | .und, _, _, _ => by simp [VR]
  | .d x, v, hf, h => by
    simp only [flatV] at hf
    simp only [VR] at h ⊢
    unfold DR at h ⊢
    split at h
    · obtain ⟨cs, h1, h2⟩ := h
      exact ⟨cs, h1, DCs_flat _ _ (by simpa [flatD] using hf) h2⟩
    · exact DC_flat _ _ hf h
  | .tup l, v, hf, h => by
    simp only [flatV] at hf
    simp only [VR] at h ⊢
    obtain ⟨cs, h1, h2⟩ := h
    exact ⟨cs, h1, VRs_flat l _ hf h2⟩
  | .slx _ _, _, hf, _ => by simp [flatV] at hf
  | .ptr _ _, _, hf, _ => by simp [flatV] at hf
  | .pp _, _, hf, _ => by simp [flatV] at hf
  | .ref _ _ _ _, _, hf, _ => by simp [flatV] at hf
  | .ep _ _ _ _, _, hf, _ => by simp [flatV] at hf
  | .csl _ _ _, _, hf, _ => by simp [flatV] at hf
  | .fn _ _ _, _, hf, _ => by simp [flatV] at hf
  | .agg _, _, hf, _ => by simp [flatV] at hf
theorem VRs_flat {w w' : World} {g g' : G} {H H' : Heap} : ∀ (l : List V) (cs : List Value), flatVs l = true → VRs g H w l cs → VRs g' H' w' l cs
  | [], _, _, h => by simpa [VRs] using h
  | d :: ds, cs, hf, h => by
    simp only [flatVs, Bool.and_eq_true] at hf
    simp only [VRs] at h ⊢
    obtain ⟨c, r, h1, h2, h3⟩ := h
    exact ⟨c, r, h1, VR_flat d _ hf.1 h2, VRs_flat ds r hf.2 h3⟩
end

mutual
/-- A value after row id is given away. -/
def frzV (id : Nat) (els : List D) : V → V
  | .ref i m lo len => if i = id ∧ m = els.length then .d (.sl ((els.drop lo).take len)) else .ref i m lo len
  | .fn f x y => match f with
    | .yield j => .fn (.yield j) x y
    | f => .fn f (frzVs id els x) (frzVs id els y)
  | .tup l => .tup (frzVs id els l)
  | .agg l => .agg (frzVs id els l)
  | v => v
def frzVs (id : Nat) (els : List D) : List V → List V
  | [] => []
  | v :: r => frzV id els v :: frzVs id els r
end

section
variable {P : Program} {g : G} {H : Heap} {w : World}

theorem ACalls.mono {f : FuncId} {vs : List V} {Q Q' : V → Heap → Prop} (h : ACalls P f vs H Q) (hq : ∀ v H', Q v H' → Q' v H') : ACalls P f vs H Q' := by
  refine ⟨h.1, fun g w cvs hr hv => CallsIn.mono (h.2 g w cvs hr hv) ?_⟩
  rintro e w' ⟨v, g', r, H', k1, k2, k3⟩
  exact ⟨v, g', r, H', k1, hq _ _ k2, k3⟩

theorem ag_same {g' : G} {w' : World} (hφ : g'.φ = g.φ) (hh : ∀ id b : Nat, g.φ[id]? = some (some b) → w'.heap[b]? = w.heap[b]?) : Ag g H w g' H w' := by
  intro id x hx
  cases x with
  | cells cs => exact ⟨⟨cs, hx, rfl⟩, by rw [hφ]⟩
  | arr sz nl els => exact ⟨nl, els, hx, Nat.le_refl _, fun _ => ⟨rfl, by rw [hφ], fun b vs t hb h => ⟨vs, (hh id b hb).trans h, rfl⟩⟩⟩
  | loop st pend E ps a b => exact ⟨⟨st, pend, hx⟩, by rw [hφ]⟩
  | obj o => exact ⟨⟨o, hx, rfl⟩, by rw [hφ]⟩

theorem HR_none (hr : HR g H w) : HR ⟨g.Z, []⟩ [] w :=
  ⟨rfl, hr.zlt, fun id b x hp => by simp at hp, fun i j b hi => by simp at hi⟩

/-- A contract that speaks of no heap, where there is one. -/
theorem ACalls.iso {f : FuncId} {vs : List V} {Q : V → Prop} (hvs : VBs 0 vs = true) (h : ACalls P f vs [] (fun v H' => H' = [] ∧ VB 0 v = true ∧ Q v)) : ACalls P f vs H (fun v H' => H' = H ∧ Q v) := by
  refine ⟨h.1, fun g w cvs hr hv => CallsIn.mono (h.2 ⟨g.Z, []⟩ w cvs (HR_none hr) (VBs_cut (g := g) (g' := ⟨g.Z, []⟩) (H := H) (H' := []) (n := 0) (fun _ _ z => z) (fun id hid => by omega) _ _ hvs hv)) ?_⟩
  rintro e w' ⟨v, g', r, H', rfl, ⟨rfl, hb, hq⟩, k3, k4, k5, k6⟩
  have hsame : ∀ b, b < w.heap.size → w'.heap[b]? = w.heap[b]? := fun b hb => k5.fr b hb (fun id => by simp)
  have hz : Zk g.Z g'.Z w w' := (HR_none hr).zk k5
  have ha : Ag g H w ⟨g'.Z, g.φ⟩ H w' := ag_same rfl fun id b hp => hsame b (hr.lt hp)
  refine ⟨v, ⟨g'.Z, g.φ⟩, r, H, rfl, ⟨rfl, hq⟩, VB_cut (g := g') (g' := ⟨g'.Z, g.φ⟩) (H := []) (H' := H) (n := 0) (fun _ _ z => z) (fun id hid => by omega) _ _ hb k3, ⟨hr.len, k4.zlt, fun id b x hp hx => ?_, hr.inj⟩, ⟨k5.os, k5.tape, k5.out, k5.size, fun b hb _ => hsame b hb, k5.z, fun b o z => ?_, fun id b hp => .inl hp⟩, ha⟩
  · obtain ⟨h1, h2, h3⟩ := hr.blk id b x hp hx
    refine ⟨Nat.lt_of_lt_of_le h1 k5.size, fun o z => ?_, BR_mono (g' := ⟨g'.Z, g.φ⟩) hz ha (hsame b h1) h3⟩
    rcases k5.zn b o z with z | z | ⟨id, z⟩
    · exact h2 o z
    · omega
    · simp at z
  · rcases k5.zn b o z with z | z | ⟨id, z⟩
    · exact .inl z
    · exact .inr (.inl z)
    · simp at z

/-- All rows are lent: what comes back says nothing of memory. -/
theorem ACalls.lend {f : FuncId} {vs vs' : List V} {Q : V → Prop} (hp : pubVs 0 H vs = some vs') (h : ACalls P f vs' [] (fun v H' => H' = [] ∧ flatV v = true ∧ Q v)) : ACalls P f vs H (fun v H' => H' = H ∧ Q v) := by
  refine ⟨h.1, fun g w cvs hr hv => CallsIn.mono (h.2 (g.pub 0) w cvs (by simpa using HR_pub hr (Nat.zero_le _) (.inr (by simp [BBs]))) (by simpa using pubs_sound hr _ _ _ hp hv)) ?_⟩
  rintro e w' ⟨v, g', r, H', rfl, ⟨rfl, hb, hq⟩, k3, k4, k5, k6⟩
  have hsame : ∀ b, b < w.heap.size → w'.heap[b]? = w.heap[b]? := fun b hb => k5.fr b hb (fun id => by simp [G.pub])
  have hz : Zk g.Z g.Z w w' := fun b o z => ⟨z, World.cell?_of_block (w := w) (hsame b (hr.zlt b o z))⟩
  have ha : Ag g H w g H w' := ag_same rfl fun id b hp => hsame b (hr.lt hp)
  refine ⟨v, g, r, H, rfl, ⟨rfl, hq⟩, VR_flat _ _ hb k3, ⟨hr.len, fun b o z => Nat.lt_of_lt_of_le (hr.zlt b o z) k5.size, fun id b x hp hx => ?_, hr.inj⟩, ⟨k5.os, k5.tape, k5.out, k5.size, fun b hb _ => hsame b hb, fun _ _ z => z, fun _ _ z => .inl z, fun id b hp => .inl hp⟩, ha⟩
  obtain ⟨h1, h2, h3⟩ := hr.blk id b x hp hx
  exact ⟨Nat.lt_of_lt_of_le h1 k5.size, h2, BR_mono hz ha (hsame b h1) h3⟩

mutual
theorem frz_sound (hr : HR g H w) {g' : G} {H' : Heap} {id sz : Nat} {nl : Bool} {els : List D} (he : H[id]? = some (.arr sz nl els)) (ha : Ag g H w g' H' w) (hz : ∀ b o, g.Z b o → g'.Z b o) (hf : ∀ b o, g.φ[id]? = some (some b) → g'.Z b o) :
    ∀ (x : V) (v : Value), VR g H w x v → VR g' H' w (frzV id els x) v
  | .und, _, _ => by simp [frzV, VR]
  | .d x, v, h => by simpa only [frzV] using VR_mono (Zk.same hz) ha _ _ h
  | .slx nl l, v, h => by simpa only [frzV] using VR_mono (Zk.same hz) ha _ _ h
  | .ptr i off, v, h => by simpa only [frzV] using VR_mono (Zk.same hz) ha _ _ h
  | .pp cs, v, h => by simpa only [frzV] using VR_mono (Zk.same hz) ha _ _ h
  | .ep i m k off, v, h => by simpa only [frzV] using VR_mono (Zk.same hz) ha _ _ h
  | .csl i es len, v, h => by simpa only [frzV] using VR_mono (Zk.same hz) ha _ _ h
  | .obj i, v, h => by simpa only [frzV] using VR_mono (Zk.same hz) ha _ _ h
  | .ref i m lo len, v, h => by
    simp only [frzV]
    split
    · rename_i hc
      obtain ⟨rfl, rfl⟩ := hc
      simp only [VR]
      exact ref_frozen hr hz he rfl hf h
    · exact VR_mono (Zk.same hz) ha _ _ h
  | .fn f x y, v, h => by
    cases f with
    | yield j => simpa only [frzV] using VR_mono (Zk.same hz) ha _ _ h
    | _ =>
      simp only [frzV, VR] at h ⊢
      obtain ⟨x', y', h1, h2, h3⟩ := h
      exact ⟨x', y', h1, frzs_sound hr he ha hz hf x _ h2, frzs_sound hr he ha hz hf y _ h3⟩
  | .agg l, v, h => by
    simp only [frzV, VR] at h ⊢
    obtain ⟨cs, h1, h2⟩ := h
    exact ⟨cs, h1, frzs_sound hr he ha hz hf l _ h2⟩
  | .tup l, v, h => by
    simp only [frzV, VR] at h ⊢
    obtain ⟨cs, h1, h2⟩ := h
    exact ⟨cs, h1, frzs_sound hr he ha hz hf l _ h2⟩
theorem frzs_sound (hr : HR g H w) {g' : G} {H' : Heap} {id sz : Nat} {nl : Bool} {els : List D} (he : H[id]? = some (.arr sz nl els)) (ha : Ag g H w g' H' w) (hz : ∀ b o, g.Z b o → g'.Z b o) (hf : ∀ b o, g.φ[id]? = some (some b) → g'.Z b o) :
    ∀ (l : List V) (cs : List Value), VRs g H w l cs → VRs g' H' w (frzVs id els l) cs
  | [], _, h => by simpa [frzVs, VRs] using h
  | d :: ds, cs, h => by
    simp only [frzVs, VRs] at h ⊢
    obtain ⟨c, r, h1, h2, h3⟩ := h
    exact ⟨c, r, h1, frz_sound hr he ha hz hf d _ h2, frzs_sound hr he ha hz hf ds r h3⟩
end

/-- Row id is given away for good: nobody writes it again. -/
theorem ACalls.frz {f : FuncId} {vs : List V} {Q : V → Heap → Prop} {id sz : Nat} {nl : Bool} {els : List D} (he : H[id]? = some (.arr sz nl els))
    (h : ACalls P f (frzVs id els vs) (H.set id (.arr sz nl (els ++ [.nilp]))) Q) : ACalls P f vs H Q := by
  refine ⟨h.1, fun g w cvs hr hv => ?_⟩
  obtain ⟨g', h1, h2, h3, h4, h5⟩ := frz_state hr he
  refine CallsIn.mono (h.2 g' w cvs h1 (frzs_sound hr he h3 h4 h5 _ _ hv)) ?_
  rintro e w' ⟨v, g2, r, H', rfl, k2, k3, k4, k5, k6⟩
  exact ⟨v, g2, r, H', rfl, k2, k3, k4, h2.trans k5, h3.trans k6⟩

end
end Go.Aw
end
