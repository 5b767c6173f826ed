/- What the evaluator knows of a program's types: computed, and right for every program. The doors: a function's contract from the evaluator; a contract put to use. The evaluator's rules, one by one, as the simplifier is to use them. None of them is proved by 'rfl' alone: a congruence theorem of the simplifier asks for a proof's term. The evaluator's rules: operations. -/
import Derived.Test.YtifknkikeobejaaGreatA3
import Derived.Laws.StructEq
set_option linter.unusedSimpArgs false
set_option linter.unusedVariables false

section
namespace Go.Aw
open Go

def szOf (P : Program) (t : TypeId) : Nat :=
  match P.info? t with
  | some i => i.size
  | none => 0

/-- The kinds of the cells of fields that lie one behind the other, from a place on. -/
def kindFs (P : Program) (rec : TypeId → Option (List D)) : Nat → List Field → Option (List D)
  | _, [] => some []
  | o, f :: r => match rec f.type with
    | some k => if f.offset = o ∧ f.name ≠ "_" ∧ (P.info? f.type).isSome = true ∧ szOf P f.type = k.length then (kindFs P rec (o + k.length) r).map (k ++ ·) else none
    | none => none

/-- The kinds of the cells at a type whose '==' compares cell by cell. -/
def kindL (P : Program) : Nat → TypeId → Option (List D)
  | 0, _ => none
  | d + 1, t => match P.underlying t with
    | some (.int k) => some [.int k 0]
    | some .bool => some [.bool false]
    | some .string => some [.str ⟨#[]⟩]
    | some (.struct fs) => if P.stoodInHeld t then none else kindFs P (kindL P d) 0 fs.toList
    | _ => none

section
variable {P : Program} {w : World} {Z : Nat → Nat → Prop}

/-- A value whose cells are these. -/
def ValOf (P : Program) (t : TypeId) (xs : List Value) (v : Value) : Prop :=
  ∃ d, P.underlying t = some d ∧ ((scal d = true ∧ xs = [v]) ∨ (scal d = false ∧ v = .agg xs.toArray))

theorem aeqs_split : ∀ {a b : List D} {r : Bool} (n : Nat), aeqs a b = some r → ∃ p q, aeqs (a.take n) (b.take n) = some p ∧ aeqs (a.drop n) (b.drop n) = some q ∧ r = (p && q)
  | a, b, r, 0, h => ⟨true, r, by simp [aeqs], by simpa using h, by simp⟩
  | [], b, r, n + 1, h => by
    cases b with
    | nil => simp [aeqs] at h; subst h; exact ⟨true, true, rfl, rfl, rfl⟩
    | cons y b => simp [aeqs] at h
  | x :: a, b, r, n + 1, h => by
    cases b with
    | nil => cases x <;> simp [aeqs] at h
    | cons y b =>
      cases x <;> cases y <;> simp only [aeqs] at h <;> try (cases h; done)
      all_goals try
        (simp only [Option.map_eq_some_iff] at h
         obtain ⟨t, ht, rfl⟩ := h
         obtain ⟨p, q, h1, h2, rfl⟩ := aeqs_split n ht
         exact ⟨_, q, by simp only [List.take_succ_cons, aeqs, h1, Option.map_some]; rfl, by simpa using h2, by simp [Bool.and_assoc]⟩)
      split at h
      · rename_i hk
        simp only [Option.map_eq_some_iff] at h
        obtain ⟨t, ht, rfl⟩ := h
        obtain ⟨p, q, h1, h2, rfl⟩ := aeqs_split n ht
        exact ⟨_, q, by simp only [List.take_succ_cons, aeqs, h1, Option.map_some, hk, if_true]; rfl, by simpa using h2, by simp [Bool.and_assoc]⟩
      · cases h

theorem run_isAgg_of {t : TypeId} {d : TypeDesc} (h : P.underlying t = some d) : (isAgg t).run P w = .ok (!scal d) w := by
  cases hs : scal d with
  | true => exact run_isAgg_false h hs
  | false => exact run_isAgg_true h hs

theorem part_val {t : TypeId} {d : TypeDesc} {i : TypeInfo} (hd : P.underlying t = some d) (hi : P.info? t = some i) {cs : List Value} {off : Nat} (hl : off + i.size ≤ cs.length) (hone : scal d = true → i.size = 1) :
    ∃ v, (part t cs.toArray off).run P w = .ok v w ∧ ValOf P t ((cs.drop off).take i.size) v := by
  unfold part
  cases hs : scal d with
  | true =>
    have h1 := hone hs
    have hlt : off < cs.length := by omega
    refine ⟨cs[off], ?_, d, hd, .inl ⟨hs, ?_⟩⟩
    · simp [run_isAgg_of hd, hs, hlt]
    · rw [h1]
      apply List.ext_getElem?
      intro q
      rw [chunk_get]
      cases q with
      | zero => simp [hlt]
      | succ q => simp
  | false =>
    refine ⟨_, by simp only [Sem.run_bind, run_isAgg_of hd, hs, Result.andThen_ok, Bool.not_false, if_true, run_sizeOf hi, Sem.run_pure]; rfl, d, hd, .inr ⟨hs, ?_⟩⟩
    congr 1
    apply Array.ext'
    simp [List.extract_eq_take_drop]

theorem like_length : ∀ {a b : List D}, like a b = true → a.length = b.length
  | [], [], _ => rfl
  | [], y :: b, h => by simp [like] at h
  | x :: a, [], h => by cases x <;> simp [like] at h
  | x :: a, y :: b, h => by
    cases x <;> cases y <;> simp [like] at h
    · simp [like_length h]
    · simp [like_length h.2]
    · simp [like_length h]

theorem like_append : ∀ {a a' b : List D}, like (a ++ a') b = true → like a (b.take a.length) = true ∧ like a' (b.drop a.length) = true
  | [], a', b, h => by simpa [like] using h
  | x :: a, a', [], h => by cases x <;> simp [like] at h
  | x :: a, a', y :: b, h => by
    cases x <;> cases y <;> simp [like] at h ⊢
    · exact like_append h
    · exact ⟨⟨h.1, (like_append h.2).1⟩, (like_append h.2).2⟩
    · exact like_append h

theorem like_trans : ∀ {a b c : List D}, like a b = true → like b c = true → like a c = true
  | [], [], c, _, h => h
  | [], y :: b, c, h, _ => by simp [like] at h
  | x :: a, [], c, h, _ => by cases x <;> simp [like] at h
  | x :: a, y :: b, [], _, h => by cases y <;> simp [like] at h
  | x :: a, y :: b, z :: c, h, k => by
    cases x <;> cases y <;> simp [like] at h <;> cases z <;> simp [like] at k ⊢
    · exact like_trans h k
    · exact ⟨h.1.trans k.1, like_trans h.2 k.2⟩
    · exact like_trans h k

theorem aeqs_length : ∀ {a b : List D} {r : Bool}, aeqs a b = some r → a.length = b.length
  | [], [], _, _ => rfl
  | [], y :: b, _, h => by simp [aeqs] at h
  | x :: a, [], _, h => by cases x <;> simp [aeqs] at h
  | x :: a, y :: b, r, h => by
    cases x <;> cases y <;> simp only [aeqs] at h <;> try (cases h; done)
    · simp only [Option.map_eq_some_iff] at h; obtain ⟨t, ht, _⟩ := h; simp [aeqs_length ht]
    · split at h
      · simp only [Option.map_eq_some_iff] at h; obtain ⟨t, ht, _⟩ := h; simp [aeqs_length ht]
      · cases h
    · simp only [Option.map_eq_some_iff] at h; obtain ⟨t, ht, _⟩ := h; simp [aeqs_length ht]

def CmpAt (P : Program) (Z : Nat → Nat → Prop) (d : Nat) : Prop :=
  ∀ (t : TypeId) (kl : List D), kindL P d t = some kl → ∀ (k : Nat), d ≤ k → ∀ (w : World) (ds es : List D) (xs ys : List Value) (vx vy : Value) (b : Bool), DCs w Z ds xs → DCs w Z es ys → like kl ds = true → aeqs ds es = some b → ValOf P t xs vx → ValOf P t ys vy →
    (Op.equalIn k t vx vy).run P w = .ok b w

theorem fields_sound {d : Nat} (ih : CmpAt P Z d) : ∀ (fs : List Field) (o : Nat) (kl : List D), kindFs P (kindL P d) o fs = some kl → ∀ (k : Nat), d ≤ k → ∀ (w : World) (ds es : List D) (xs ys : List Value) (b : Bool), DCs w Z ds xs → DCs w Z es ys → o ≤ ds.length → o ≤ es.length → like kl (ds.drop o) = true → aeqs (ds.drop o) (es.drop o) = some b →
    (Op.eqFields k xs.toArray ys.toArray fs).run P w = .ok b w
  | [], o, kl, h => by
    intro k hk w ds es xs ys b hx hy hol hol' hl he
    simp [kindFs] at h; subst h
    have : ds.drop o = [] := by
      have := like_length hl
      exact List.eq_nil_of_length_eq_zero (by simpa using this.symm)
    rw [this] at he
    cases hes : es.drop o with
    | nil => rw [hes] at he; simp [aeqs] at he; subst he; simp [Op.eqFields]
    | cons y r => rw [hes] at he; simp [aeqs] at he
  | f :: fs, o, kl, h => by
    intro k hk w ds es xs ys b hx hy hol hol' hl he
    simp only [kindFs] at h
    split at h
    · rename_i kf hkf
      split at h
      · rename_i hc
        obtain ⟨ho, hname, hinfo, hsz⟩ := hc
        simp only [Option.map_eq_some_iff] at h
        obtain ⟨kr, hkr, rfl⟩ := h
        obtain ⟨i, hi⟩ := Option.isSome_iff_exists.1 hinfo
        have hisz : i.size = kf.length := by rw [← hsz]; simp [szOf, hi]
        obtain ⟨g1, g2⟩ := like_append hl
        obtain ⟨p, q, e1, e2, rfl⟩ := aeqs_split kf.length he
        have ll := like_length hl
        have l3 := aeqs_length he
        simp at ll l3
        have lx := DCs_length _ _ hx
        have ly := DCs_length _ _ hy
        obtain ⟨dd, hd⟩ : ∃ dd, P.underlying f.type = some dd := by
          cases d with
          | zero => simp [kindL] at hkf
          | succ d =>
            simp only [kindL] at hkf
            cases hu : P.underlying f.type with
            | none => rw [hu] at hkf; cases hkf
            | some dd => exact ⟨dd, rfl⟩
        have hone : scal dd = true → i.size = 1 := by
          intro hs
          rw [hisz]
          cases d with
          | zero => simp [kindL] at hkf
          | succ d =>
            simp only [kindL, hd] at hkf
            cases dd <;> simp [scal] at hs <;> simp at hkf <;> subst hkf <;> rfl
        subst ho
        obtain ⟨va, ha1, ha2⟩ := part_val (P := P) (w := w) hd hi (cs := xs) (off := f.offset) (by omega) hone
        obtain ⟨vb, hb1, hb2⟩ := part_val (P := P) (w := w) hd hi (cs := ys) (off := f.offset) (by omega) hone
        rw [hisz] at ha2 hb2
        have hrec := ih f.type kf hkf k hk w ((ds.drop f.offset).take kf.length) ((es.drop f.offset).take kf.length) _ _ va vb p (DCs_take kf.length _ _ (DCs_drop f.offset _ _ hx)) (DCs_take kf.length _ _ (DCs_drop f.offset _ _ hy)) g1 e1 ha2 hb2
        simp only [Op.eqFields, ne_eq, hname, not_false_eq_true, if_true, Sem.run_bind, ha1, hb1, hrec, Result.andThen_ok]
        cases p with
        | false => simp
        | true =>
          simp only [Bool.not_true, Bool.false_eq_true, if_false, Bool.true_and]
          exact fields_sound ih fs (f.offset + kf.length) kr hkr k hk w ds es xs ys q hx hy (by omega) (by omega) (by simpa [List.drop_drop] using g2) (by simpa [List.drop_drop] using e2)
      · cases h
    · cases h

theorem cmp_sound : ∀ (d : Nat), CmpAt P Z d
  | 0, t, kl, h => by simp [kindL] at h
  | d + 1, t, kl, h => by
    intro k hk w ds es xs ys vx vy b hx hy hl he hvx hvy
    obtain ⟨k, rfl⟩ : ∃ k', k = k' + 1 := ⟨k - 1, by omega⟩
    simp only [kindL] at h
    obtain ⟨dd, hd, hvx⟩ := hvx
    obtain ⟨dd', hd', hvy⟩ := hvy
    rw [hd] at hd'; cases hd'
    rw [hd] at h
    have l1 := DCs_length _ _ hx
    have l2 := DCs_length _ _ hy
    have l3 := aeqs_length he
    have l4 := like_length hl
    have one : scal dd = true → xs = [vx] ∧ ys = [vy] := by
      intro hs
      rcases hvx with ⟨_, h1⟩ | ⟨h', _⟩
      · rcases hvy with ⟨_, h2⟩ | ⟨h', _⟩
        · exact ⟨h1, h2⟩
        · rw [hs] at h'; cases h'
      · rw [hs] at h'; cases h'
    split at h
    · rename_i kk hdd
      cases hdd
      simp at h; subst h
      obtain ⟨rfl, rfl⟩ := one rfl
      obtain ⟨x, rfl⟩ := List.length_eq_one_iff.1 (by simpa using l1.symm)
      obtain ⟨y, rfl⟩ := List.length_eq_one_iff.1 (by simpa using l2.symm)
      cases x <;> simp [like] at hl
      cases y <;> simp [aeqs] at he
      obtain ⟨rfl, rfl⟩ := he
      simp only [DCs, DC] at hx hy
      obtain ⟨c, r, e1, h1, rfl⟩ := hx
      obtain ⟨c', r', e2, h2, rfl⟩ := hy
      cases e1; cases e2
      simp at h1 h2; subst h1; subst h2
      exact run_equalIn_int w k t _ kk _ _ hd
    · rename_i hdd
      cases hdd
      simp at h; subst h
      obtain ⟨rfl, rfl⟩ := one rfl
      obtain ⟨x, rfl⟩ := List.length_eq_one_iff.1 (by simpa using l1.symm)
      obtain ⟨y, rfl⟩ := List.length_eq_one_iff.1 (by simpa using l2.symm)
      cases x <;> simp [like] at hl
      cases y <;> simp [aeqs] at he
      subst he
      simp only [DCs, DC] at hx hy
      obtain ⟨c, r, e1, h1, rfl⟩ := hx
      obtain ⟨c', r', e2, h2, rfl⟩ := hy
      cases e1; cases e2
      simp at h1 h2; subst h1; subst h2
      exact run_equalIn_bool' w k t _ _ hd
    · rename_i hdd
      cases hdd
      simp at h; subst h
      obtain ⟨rfl, rfl⟩ := one rfl
      obtain ⟨x, rfl⟩ := List.length_eq_one_iff.1 (by simpa using l1.symm)
      obtain ⟨y, rfl⟩ := List.length_eq_one_iff.1 (by simpa using l2.symm)
      cases x <;> simp [like] at hl
      cases y <;> simp [aeqs] at he
      subst he
      simp only [DCs, DC] at hx hy
      obtain ⟨c, r, e1, h1, rfl⟩ := hx
      obtain ⟨c', r', e2, h2, rfl⟩ := hy
      cases e1; cases e2
      simp at h1 h2; subst h1; subst h2
      rw [run_equalIn_string w k t _ _ hd, beq_toListBytes]
    · rename_i fs hdd
      cases hdd
      split at h
      · cases h
      · rename_i hst
        have hst' : P.stoodInHeld t = false := by simpa using hst
        have agg : vx = .agg xs.toArray ∧ vy = .agg ys.toArray := by
          rcases hvx with ⟨h', _⟩ | ⟨_, h1⟩
          · cases h'
          · rcases hvy with ⟨h', _⟩ | ⟨_, h2⟩
            · cases h'
            · exact ⟨h1, h2⟩
        obtain ⟨rfl, rfl⟩ := agg
        have hff : P.fieldsOf t = fs := by simp [Program.fieldsOf, hd]
        rw [run_equalIn_struct w k t _ _ (by rw [hff]; exact hd) hst', hff]
        exact fields_sound (cmp_sound d) fs.toList 0 kl h k (by omega) w ds es xs ys b hx hy (Nat.zero_le _) (Nat.zero_le _) (by simpa using hl) (by simpa using he)
    · cases h
end

/-! ### The table -/

def cvD : Value → Option D
  | .agg cs => (cvds cs.toList).map .agg
  | v => cvd v

def fieldsL (P : Program) : List Field → Option (List (Nat × Nat × Nat))
  | [] => some []
  | f :: r => match P.info? f.type, fieldsL P r with
    | some j, some l => if j.size ≠ 0 then some ((f.offset, j.size, f.type) :: l) else none
    | _, _ => none

def cmpT (P : Program) (t : TypeId) (z : List D) : Bool :=
  match kindL P 10 t with
  | some kl => like kl z && !P.eqGuardType P.depth t
  | none => false

/-- The kind of a map's key. -/
def keyD (P : Program) (t : TypeId) : Option D :=
  match P.underlying t with
  | some (.int k) => some (.int k 0)
  | some .bool => some (.bool false)
  | some .string => some (.str ⟨#[]⟩)
  | _ => none

/-- An element's zero value. -/
def elD : Value → Option D
  | .agg cs => match cvds cs.toList with
    | some l => some (.agg l)
    | none => none
  | v => cvd v

def tyAt (P : Program) (t : TypeId) (i : TypeInfo) (d : TypeDesc) (zero : Value) : Ty :=
  match d with
  | .slice e => match P.info? e, zero with
    | some j, .slice none 0 0 => match j.zero with
      | some zv => match cvD zv with
        | some z => if i.size = 1 ∧ 1 ≤ j.size ∧ j.bytes ≤ 4096 ∧ (dcells z).length = j.size then .sl j.size z else .no
        | none => .no
      | none => .no
    | _, _ => .no
  | .struct fs => match zero with
    | .agg zs => match cvds zs.toList, fieldsL P fs.toList with
      | some z, some l => if z.length = i.size ∧ z.all (fun x => (V.d x).one) = true then .st i.size l z (cmpT P t z) else .no
      | _, _ => .no
    | _ => .no
  | .array n e => match zero, P.info? e with
    | .agg zs, some j => match cvds zs.toList with
      | some z => if z.length = i.size ∧ i.size = n * j.size ∧ z.all (fun x => (V.d x).one) = true then .ar n j.size e z false else .no
      | none => .no
    | _, _ => .no
  | .int k => match zero with
    | .int k' n => if k = k' ∧ i.size = 1 then .sc (.int k n) else .no
    | _ => .no
  | .bool => match zero with
    | .bool b => if i.size = 1 then .sc (.bool b) else .no
    | _ => .no
  | .string => match zero with
    | .string b => if i.size = 1 then .sc (.str b) else .no
    | _ => .no
  | .pointer _ => match zero with
    | .pointer none => if i.size = 1 then .sc .nilp else .no
    | _ => .no
  | .func _ _ _ => match zero with
    | .nilFunc => if i.size = 1 then .sc .nilf else .no
    | _ => .no
  | .map kt et => match zero with
    | .map none => match P.info? et with
      | some j => match j.zero with
        | some zv => match keyD P kt, elD zv with
          | some kz, some z => if i.size = 1 then .mp kz z else .no
          | _, _ => .no
        | none => .no
      | none => .no
    | _ => .no
  | _ => .no

def tyOf (P : Program) (t : TypeId) : Ty :=
  match P.info? t, P.underlying t with
  | some i, some d => match i.zero with
    | some zero => tyAt P t i d zero
    | none => .no
  | _, _ => .no

section
variable {P : Program}

theorem fieldsL_sound : ∀ (fs : List Field) (l : List (Nat × Nat × Nat)), fieldsL P fs = some l → l.length = fs.length ∧ ∀ (k : Nat) f, fs[k]? = some f → ∃ j, P.info? f.type = some j ∧ l[k]? = some (f.offset, j.size, f.type) ∧ j.size ≠ 0
  | [], l, h => by simp [fieldsL] at h; subst h; simp
  | f :: r, l, h => by
    simp only [fieldsL] at h
    split at h
    · rename_i j l' hj hl
      split at h
      · rename_i hne
        simp at h; subst h
        obtain ⟨h1, h2⟩ := fieldsL_sound r l' hl
        refine ⟨by simp [h1], fun k g hk => ?_⟩
        cases k with
        | zero => simp at hk; subst hk; exact ⟨j, hj, rfl, hne⟩
        | succ k => simpa using h2 k g (by simpa using hk)
      · cases h
    · cases h

theorem cvd_z {g : G} {H : Heap} {w : World} : ∀ (v : Value) (x : D), cvd v = some x → VR g H w (match x with
    | .sl [] => .slx (some true) []
    | x => .d x) v := by
  intro v x h
  unfold cvd at h
  split at h <;> simp at h <;> subst h <;> simp [VR, DR, DC]

theorem cvds_z {g : G} {H : Heap} {w : World} : ∀ (l : List Value) (ds : List D), cvds l = some ds → VRs g H w (ds.map fun x => match x with
    | .sl [] => .slx (some true) []
    | x => .d x) l
  | [], ds, h => by simp [cvds] at h; subst h; rfl
  | v :: r, ds, h => by
    simp only [cvds] at h
    split at h
    · rename_i x l hx hl
      simp at h; subst h
      exact ⟨v, r, rfl, cvd_z v x hx, cvds_z r l hl⟩
    · cases h

theorem cvd_noagg {v : Value} {l : List D} (h : cvd v = some (.agg l)) : False := by
  unfold cvd at h
  split at h <;> simp at h

theorem cvd_nocells {v : Value} {x : D} (h : cvd v = some x) : v.cells.toList = [v] := by
  unfold cvd at h
  split at h <;> simp [Value.cells] at h ⊢

theorem zcells_sound {g : G} {H : Heap} {w : World} {v : Value} {x : D} (h : cvD v = some x) : VRs g H w (zcells x) v.cells.toList := by
  unfold cvD at h
  split at h
  · rename_i cs
    simp only [Option.map_eq_some_iff] at h
    obtain ⟨l, h1, rfl⟩ := h
    exact cvds_z _ _ h1
  · rw [cvd_nocells h]
    have : dcells x = [x] := by
      cases x with
      | agg l => exact (cvd_noagg h).elim
      | _ => rfl
    unfold zcells
    rw [this]
    exact ⟨v, [], rfl, cvd_z v x h, rfl⟩

theorem cvD_sound {w : World} {Z : Nat → Nat → Prop} {v : Value} {x : D} (h : cvD v = some x) : DC w Z x v.cells.toList := by
  unfold cvD at h
  split at h
  · simp only [Option.map_eq_some_iff] at h
    obtain ⟨l, hl, rfl⟩ := h
    simp only [DC, Value.cells]
    exact cvds_sound _ _ hl
  · exact DR_cells (cvd_sound _ _ h).1

theorem eqok_of {t : TypeId} {z : List D} {d : TypeDesc} (hd : P.underlying t = some d) (hs : scal d = false) (h : cmpT P t z = true) : EqOK P t z := by
  unfold cmpT at h
  split at h
  · rename_i kl hkl
    simp only [Bool.and_eq_true] at h
    obtain ⟨h1, h2⟩ := h
    refine ⟨by simpa using h2, fun w Z ds es xs ys b hl hx hy he => ?_⟩
    exact cmp_sound 10 t kl hkl _ (by decide) w ds es xs ys _ _ b hx hy (like_trans h1 hl) he ⟨d, hd, .inr ⟨hs, rfl⟩⟩ ⟨d, hd, .inr ⟨hs, rfl⟩⟩
  · cases h

theorem elD_sound {w : World} {Z : Nat → Nat → Prop} {v : Value} {x : D} (h : elD v = some x) : DR w Z x v := by
  unfold elD at h
  split at h
  · split at h
    · rename_i l hl
      simp only [Option.some.injEq] at h; subst h
      exact ⟨_, rfl, cvds_sound _ _ hl⟩
    · cases h
  · exact (cvd_sound _ _ h).1

theorem keyD_sound {t : TypeId} {kz : D} (h : keyD P t = some kz) : ∃ kd, P.underlying t = some kd ∧ (∀ i n, kz = .int i n → kd = .int i) ∧ (∀ s, kz = .str s → kd = .string) ∧ ∀ b, kz = .bool b → kd = .bool := by
  unfold keyD at h
  split at h
  · rename_i k hk
    simp only [Option.some.injEq] at h; subst h
    exact ⟨_, hk, by simp, by simp, by simp⟩
  · rename_i hk
    simp only [Option.some.injEq] at h; subst h
    exact ⟨_, hk, by simp, by simp, by simp⟩
  · rename_i hk
    simp only [Option.some.injEq] at h; subst h
    exact ⟨_, hk, by simp, by simp, by simp⟩
  · cases h

theorem tok (P : Program) : TOK P (tyOf P) := by
  intro t
  unfold tyOf
  split
  case h_2 => trivial
  rename_i i d hi hd
  split
  case h_2 => trivial
  rename_i zero hz
  have all : ∀ {z : List D}, z.all (fun x => (V.d x).one) = true → ∀ x ∈ z, (V.d x).one = true := fun h => List.all_eq_true.1 h
  cases d with
  | slice e =>
    simp only [tyAt]
    split
    · rename_i j hj
      split
      · rename_i zv hzv
        split
        · rename_i z hz'
          split
          · rename_i hc
            exact ⟨i, e, j, zv, hi, hc.1, hz, hd, hj, rfl, hc.2.1, hc.2.2.1, hzv, ⟨fun w Z => cvD_sound hz', fun g H w => zcells_sound hz'⟩, hc.2.2.2⟩
          · trivial
        · trivial
      · trivial
    · trivial
  | struct fs =>
    simp only [tyAt]
    split
    · rename_i zs
      split
      · rename_i z l hzs hl
        split
        · rename_i hc
          obtain ⟨f1, f2⟩ := fieldsL_sound _ _ hl
          exact ⟨fun h => eqok_of hd rfl h, i, zs, fs, hi, rfl, hz, hd, ⟨fun w Z => cvds_sound _ _ hzs, fun g H w => cvds_z _ _ hzs⟩, hc.1, all hc.2, by simpa using f1, fun k f hk => f2 k f (by simpa using hk)⟩
        · trivial
      · trivial
    · trivial
  | array n e =>
    simp only [tyAt]
    split
    · rename_i zs j hj
      split
      · rename_i z hzs
        split
        · rename_i hc
          exact ⟨fun h => by simp at h, i, zs, e, j, hi, hc.2.1, hz, hd, ⟨rfl, hj⟩, rfl, fun w Z => cvds_sound _ _ hzs, hc.1.trans hc.2.1, all hc.2.2⟩
        · trivial
      · trivial
    · trivial
  | int k =>
    simp only [tyAt]
    split
    · split
      · rename_i hc
        exact ⟨i, _, _, hi, hc.2, hz, hd, rfl, fun w Z => by simp [DR, DC, hc.1], rfl, fun k' n' h => by cases h; rw [hc.1], by simp, by simp, by simp, by simp⟩
      · trivial
    · trivial
  | bool =>
    simp only [tyAt]
    split
    · split
      · rename_i hc
        exact ⟨i, _, _, hi, hc, hz, hd, rfl, fun w Z => by simp [DR, DC], rfl, by simp, by simp, by simp, by simp, by simp⟩
      · trivial
    · trivial
  | string =>
    simp only [tyAt]
    split
    · split
      · rename_i hc
        exact ⟨i, _, _, hi, hc, hz, hd, rfl, fun w Z => by simp [DR, DC], rfl, by simp, by simp, by simp, by simp, by simp⟩
      · trivial
    · trivial
  | pointer e =>
    simp only [tyAt]
    split
    · split
      · rename_i hc
        exact ⟨i, _, _, hi, hc, hz, hd, rfl, fun w Z => by simp [DR, DC], rfl, by simp, by simp, fun _ => ⟨_, rfl⟩, by simp, by simp⟩
      · trivial
    · trivial
  | func a b c =>
    simp only [tyAt]
    split
    · split
      · rename_i hc
        exact ⟨i, _, _, hi, hc, hz, hd, rfl, fun w Z => by simp [DR, DC], rfl, by simp, by simp, by simp, fun _ => ⟨_, _, _, rfl⟩, by simp⟩
      · trivial
    · trivial
  | map a b =>
    simp only [tyAt]
    split
    · split
      · rename_i j hj
        split
        · rename_i zv hzv
          split
          · rename_i kz z hkz hz'
            split
            · rename_i hc
              obtain ⟨kd, hkd, h1⟩ := keyD_sound hkz
              exact ⟨⟨a, b, kd, j, zv, hd, hkd, hj, hzv, fun w Z => elD_sound hz', h1⟩, i, hi, hc, hz⟩
            · trivial
          · trivial
        · trivial
      · trivial
    · trivial
  | _ => simp only [tyAt]; trivial

end
end Go.Aw
end

section
namespace Go.Aw
open Go

def normK (K : Env → Heap → Prop) : Ex → Env → Heap → Prop
  | .normal, E, H => K E H
  | _, _, _ => False

section
variable (P : Program) (N n0 : Nat) (r : Option Nat)

def ALoop : LoopH := fun c E H Q => AWP P N n0 r (.loop c) E H Q
def ARng : LoopH := fun c E H Q => AWP P N n0 r c E H Q
def ADrw : DrawH := fun ops E H K => ∀ i, AWP P N n0 r (.region i ops true) E H (normK K)

end

section
variable {P : Program} {T : Nat → Ty} {N n0 : Nat} {r : Option Nat}

theorem AWP.run (hint : Nat → Bool) (hT : TOK P T) {c : Code} {E : Env} {H : Heap} {Q : Ex → Env → Heap → Prop} (hr : ∀ id, r = some id → id < n0) (hn : n0 ≤ H.length) (hok : cOk N c = true)
    (h : ev T hint (ACallV P) (ALoop P N n0 r) (ARng P N n0 r) (ADrw P N n0 r) c E H Q) : AWP P N n0 r c E H Q := by
  refine ev_sound hT (fun _ _ _ _ h => h) (fun _ _ _ _ _ h => h) (fun _ _ _ _ _ h => h) (fun i ops E H Q hn hok h => (h i).mono ?_) hr c E H Q hok hn h
  intro x E' H' _ hx
  cases x with
  | normal => exact hx
  | exit id => exact hx.elim
  | ret => exact hx.elim

/-- A function, by the evaluator. -/
theorem ACalls.run (hint : Nat → Bool) (hT : TOK P T) {f : FuncId} {fn : Func} {c : Code} {N : Nat} {rs : List ResultVar} {vs : List V} {H : Heap} {Q : V → Heap → Prop} (hf : P.funcs[f]? = some fn) (hb : fn.body = some c) (hN : fn.ntmps = N) (hrs : fn.results.toList = rs)
    (hnm : (fn.name == "runtime.NumGoroutine") = false) (hlen : decide (vs.length ≤ N) = true) (hok : cOk N c = true)
    (h : ev T hint (ACallV P) (ALoop P N H.length none) (ARng P N H.length none) (ADrw P N H.length none) c (envOf 0 vs) H (FnPost T rs H.length Q)) : ACalls P f vs H Q := by
  subst hN; subst hrs
  exact .of_body hT hf hb hnm (by simpa using hlen) (.run hint hT (fun _ h => by cases h) (Nat.le_refl _) hok h)

/-- Of data alone comes a value. -/
def PC (P : Program) (f : FuncId) (vs : List V) (v : V) : Prop := ACalls P f vs [] (fun r H' => H' = [] ∧ r = v)

theorem PC.run (hint : Nat → Bool) (hT : TOK P T) {f : FuncId} {fn : Func} {c : Code} {N : Nat} {rs : List ResultVar} {vs : List V} {v : V} (hf : P.funcs[f]? = some fn) (hb : fn.body = some c) (hN : fn.ntmps = N) (hrs : fn.results.toList = rs)
    (hnm : (fn.name == "runtime.NumGoroutine") = false) (hlen : decide (vs.length ≤ N) = true) (hok : cOk N c = true)
    (h : ev T hint (ACallV P) (ALoop P N 0 none) (ARng P N 0 none) (ADrw P N 0 none) c (envOf 0 vs) [] (FnPost T rs 0 fun r H' => H' = [] ∧ r = v)) : PC P f vs v :=
  ACalls.run hint hT hf hb hN hrs hnm hlen hok h

theorem PC.use {f : FuncId} {vs : List V} {v : V} (h : PC P f vs v) {H : Heap} {Q : V → Heap → Prop} (h1 : VBs 0 vs = true) (h2 : VB 0 v = true) (hq : Q v H) : ACalls P f vs H Q := by
  refine ACalls.mono (ACalls.iso (Q := fun r => r = v) h1 (ACalls.mono h fun r H' hr => ⟨hr.1, hr.2 ▸ h2, hr.2⟩)) ?_
  rintro r H' ⟨rfl, rfl⟩
  exact hq

theorem PC.lend {f : FuncId} {vs vs' : List V} {v : V} (h : PC P f vs' v) {H : Heap} {Q : V → Heap → Prop} (h1 : pubVs 0 H vs = some vs') (h2 : flatV v = true) (hq : Q v H) : ACalls P f vs H Q := by
  refine ACalls.mono (ACalls.lend (Q := fun r => r = v) h1 (ACalls.mono h fun r H' hr => ⟨hr.1, hr.2 ▸ h2, hr.2⟩)) ?_
  rintro r H' ⟨rfl, rfl⟩
  exact hq

/-! ### Loops -/

/-- All else forgotten, the state is this one. -/
def ForgetTo (n0 : Nat) (E : Env) (H : Heap) (E' : Env) (H' : Heap) : Prop :=
  n0 ≤ H'.length ∧ H'.length ≤ H.length ∧ BBq H'.length H ∧ H.take H'.length = H' ∧ EW H'.length H E E'

theorem ForgetTo.cut {E : Env} {H : Heap} {E' : Env} {H' : Heap} {R : Env → Heap → Prop} (h : ForgetTo n0 E H E' H') (hr : R E' H') : CutTo n0 E H R :=
  ⟨E', H'.length, h.1, h.2.1, h.2.2.1, h.2.2.2.2, by rw [h.2.2.2.1]; exact hr⟩

/-- A loop, by the states ahead of its rounds. -/
theorem ALoop.by {S : Type} (st : S → Env) (hp : S → Heap) (μ : S → Nat) (good : S → Prop) (s0 : S) {c : Code} {E : Env} {H : Heap} {Q : Ex → Env → Heap → Prop} (hn : n0 ≤ H.length) (hr : ∀ id, r = some id → id < n0)
    (h0 : good s0) (h1 : ForgetTo n0 E H (st s0) (hp s0))
    (round : ∀ s, good s → n0 ≤ (hp s).length → AWP P N n0 r c (st s) (hp s) (thenEx (fun E' H' => ∃ s', good s' ∧ μ s' < μ s ∧ ForgetTo n0 E' H' (st s') (hp s')) Q)) : ALoop P N n0 r c E H Q := by
  refine AWP.loopW (fun k E H => ∃ s, good s ∧ μ s = k ∧ E = st s ∧ H = hp s) (μ s0) hn hr (h1.cut ⟨s0, h0, rfl, rfl, rfl⟩) ?_
  rintro k E1 H1 hn1 ⟨s, hg, rfl, rfl, rfl⟩
  refine (round s hg hn1).mono ?_
  intro x E' H' _ hx
  cases x with
  | normal =>
    obtain ⟨s', g1, g2, g3⟩ := hx
    exact ⟨μ s', g2, g3.cut ⟨s', g1, rfl, rfl, rfl⟩⟩
  | exit id => exact hx
  | ret => exact hx

/-! ### Where the evaluator looks -/

section
variable {T : Nat → Ty} {hint : Nat → Bool} {call : CallH} {loop rng : LoopH} {drw : DrawH}

@[congr] theorem ev_congr {c : Code} {E E' : Env} {H H' : Heap} {Q : Ex → Env → Heap → Prop} (hE : E = E') (hH : H = H') {one : Prop} (ho : (True ∧ True) = one) : ev T hint call loop rng drw c E H Q = ev T hint call loop rng drw c E' H' Q := by
  rw [hE, hH]

@[congr] theorem evOps_congr {all os : List Oper} {E E' : Env} {H H' : Heap} {K : Env → Heap → Prop} (hE : E = E') (hH : H = H') {one : Prop} (ho : (True ∧ True) = one) : evOps T hint call all os E H K = evOps T hint call all os E' H' K := by
  rw [hE, hH]

@[congr] theorem evOp_congr {o : Oper} {E E' : Env} {H H' : Heap} {K : V → Heap → Prop} (hE : E = E') (hH : H = H') {one : Prop} (ho : (True ∧ True) = one) : evOp T hint call o E H K = evOp T hint call o E' H' K := by
  rw [hE, hH]

@[congr] theorem thenEx_congr {x x' : Ex} {E E' : Env} {H H' : Heap} {K : Env → Heap → Prop} {Q : Ex → Env → Heap → Prop} (hx : x = x') (hE : E = E') (hH : H = H') {one : Prop} (ho : (True ∧ True) = one) : thenEx K Q x E H = thenEx K Q x' E' H' := by
  rw [hx, hE, hH]

@[congr] theorem blockEx_congr {i : Nat} {x x' : Ex} {E E' : Env} {H H' : Heap} {Q : Ex → Env → Heap → Prop} (hx : x = x') (hE : E = E') (hH : H = H') {one : Prop} (ho : (True ∧ True) = one) : blockEx i Q x E H = blockEx i Q x' E' H' := by
  rw [hx, hE, hH]

@[congr] theorem Br_congr {b b' : Bool} {A B : Unit → Prop} (h : b = b') {one : Prop} (ho : (True ∧ True) = one) : Br b A B = Br b' A B := by
  rw [h]

@[congr] theorem Som_congr {α : Type} {o o' : Option α} {K : α → Prop} (h : o = o') {one : Prop} (ho : (True ∧ True) = one) : Som o K = Som o' K := by
  rw [h]

@[congr] theorem ACallV_congr {P : Program} {f f' : V} {vs vs' : List V} {H H' : Heap} {K : V → Heap → Prop} (hf : f = f') (hv : vs = vs') (hH : H = H') {one : Prop} (ho : (True ∧ True) = one) : ACallV P f vs H K = ACallV P f' vs' H' K := by
  rw [hf, hv, hH]

@[congr] theorem ALoop_congr {P : Program} {N n0 : Nat} {r : Option Nat} {c : Code} {E E' : Env} {H H' : Heap} {Q : Ex → Env → Heap → Prop} (hE : E = E') (hH : H = H') {one : Prop} (ho : (True ∧ True) = one) : ALoop P N n0 r c E H Q = ALoop P N n0 r c E' H' Q := by
  rw [hE, hH]

@[congr] theorem ARng_congr {P : Program} {N n0 : Nat} {r : Option Nat} {c : Code} {E E' : Env} {H H' : Heap} {Q : Ex → Env → Heap → Prop} (hE : E = E') (hH : H = H') {one : Prop} (ho : (True ∧ True) = one) : ARng P N n0 r c E H Q = ARng P N n0 r c E' H' Q := by
  rw [hE, hH]

@[congr] theorem ADrw_congr {P : Program} {N n0 : Nat} {r : Option Nat} {c : Array Oper} {E E' : Env} {H H' : Heap} {Q : Env → Heap → Prop} (hE : E = E') (hH : H = H') {one : Prop} (ho : (True ∧ True) = one) : ADrw P N n0 r c E H Q = ADrw P N n0 r c E' H' Q := by
  rw [hE, hH]

@[congr] theorem FnPost_congr {T : Nat → Ty} {rs : List ResultVar} {n : Nat} {Q : V → Heap → Prop} {x x' : Ex} {E E' : Env} {H H' : Heap} (hx : x = x') (hE : E = E') (hH : H = H') {one : Prop} (ho : (True ∧ True) = one) : FnPost T rs n Q x E H = FnPost T rs n Q x' E' H' := by
  rw [hx, hE, hH]

@[congr] theorem aappend_congr {t : Ty} {b : Bool} {x x' y y' : V} {H H' : Heap} {K : V → Heap → Prop} (hx : x = x') (hy : y = y') (hH : H = H') {one : Prop} (ho : (True ∧ True) = one) : aappend t b H x y K = aappend t b H' x' y' K := by
  rw [hx, hy, hH]

end

theorem Br_split {b : Bool} {A B : Unit → Prop} (h1 : b = true → A ()) (h2 : b = false → B ()) : Br b A B := by
  cases b
  · exact h2 rfl
  · exact h1 rfl

end
end Go.Aw
end

section
namespace Go.Aw
open Go

attribute [go_sem] and_self true_and and_true if_true if_false ite_true ite_false decide_true decide_false Bool.and_true Bool.true_and Bool.and_false Bool.false_and Bool.false_eq_true Bool.not_true Bool.not_false beq_true beq_false
  List.getElem?_cons_zero List.getElem?_cons_succ List.length_cons List.length_nil List.map_cons List.map_nil List.nil_append List.cons_append List.append_nil List.take_zero List.take_nil List.drop_zero List.drop_nil List.take_succ_cons List.drop_succ_cons
  List.set_cons_zero List.set_cons_succ List.all_cons List.all_nil List.take_length Option.map_some Option.map_none Option.some.injEq reduceCtorEq decide_eq_true_eq Nat.zero_add Nat.add_zero Nat.le_refl Nat.zero_le true_or or_true forall_const
  Nat.reduceEqDiff Nat.reduceLT Nat.reduceLeDiff Nat.reduceAdd Nat.reduceSub Nat.reduceMul

section
variable {T : Nat → Ty} {hint : Nat → Bool} {call : CallH} {loop rng : LoopH} {drw : DrawH} {E : Env} {H : Heap} {Q : Ex → Env → Heap → Prop} {K : V → Heap → Prop} {KE : Env → Heap → Prop}

/-! ### Control -/

@[go_sem] theorem ev_skip : ev T hint call loop rng drw .skip E H Q = Q .normal E H := (Eq.refl _).trans rfl
@[go_sem] theorem ev_exit (i : Nat) : ev T hint call loop rng drw (.exit i) E H Q = Q (.exit i) E H := (Eq.refl _).trans rfl
@[go_sem] theorem ev_ret : ev T hint call loop rng drw .ret E H Q = Q .ret E H := (Eq.refl _).trans rfl
@[go_sem] theorem ev_region (i : Nat) (ops : List Oper) : ev T hint call loop rng drw (.region i ops.toArray false) E H Q = evOps T hint call ops ops E H (Q .normal) := (Eq.refl _).trans rfl
@[go_sem] theorem ev_draw (i : Nat) (ops : Array Oper) : ev T hint call loop rng drw (.region i ops true) E H Q = drw ops E H (Q .normal) := (Eq.refl _).trans rfl
@[go_sem] theorem ev_seq (a b : Code) : ev T hint call loop rng drw (.seq a b) E H Q = ev T hint call loop rng drw a E H (thenEx (fun E' H' => ev T hint call loop rng drw b E' H' Q) Q) := (Eq.refl _).trans rfl
@[go_sem] theorem ev_block (i : Nat) (c : Code) : ev T hint call loop rng drw (.block i c) E H Q = ev T hint call loop rng drw c E H (blockEx i Q) := (Eq.refl _).trans rfl
@[go_sem] theorem ev_scope (c : Code) : ev T hint call loop rng drw (.scope c) E H Q = ev T hint call loop rng drw c E H Q := (Eq.refl _).trans rfl
@[go_sem] theorem ev_label (i : Nat) : ev T hint call loop rng drw (.label i) E H Q = Q .normal E H := (Eq.refl _).trans rfl
@[go_sem] theorem ev_loop (c : Code) : ev T hint call loop rng drw (.loop c) E H Q = loop c E H Q := (Eq.refl _).trans rfl
@[go_sem] theorem ev_rng (f : Operand) (ps : Array Tmp) (a b : Code) : ev T hint call loop rng drw (.rangeFunc f ps a b) E H Q = rng (.rangeFunc f ps a b) E H Q := (Eq.refl _).trans rfl

/-- A test of what may be a truth value. -/
def evIf (x : V) (A B : Unit → Prop) : Prop :=
  match x with
  | .d (.bool b) => Br b A B
  | _ => False

@[go_sem] theorem evIf_bool (b : Bool) (A B : Unit → Prop) : evIf (.d (.bool b)) A B = Br b A B := (Eq.refl _).trans rfl
@[go_sem] theorem ev_cond (c : Operand) (a b : Code) : ev T hint call loop rng drw (.cond c a b) E H Q = evIf (ge E c) (fun _ => ev T hint call loop rng drw a E H Q) (fun _ => ev T hint call loop rng drw b E H Q) := (Eq.refl _).trans rfl

@[go_sem] theorem thenEx_normal : thenEx KE Q .normal E H = KE E H := (Eq.refl _).trans rfl
@[go_sem] theorem thenEx_exit (i : Nat) : thenEx KE Q (.exit i) E H = Q (.exit i) E H := (Eq.refl _).trans rfl
@[go_sem] theorem thenEx_ret : thenEx KE Q .ret E H = Q .ret E H := (Eq.refl _).trans rfl
@[go_sem] theorem blockEx_normal (i : Nat) : blockEx i Q .normal E H = Q .normal E H := (Eq.refl _).trans rfl
@[go_sem] theorem blockEx_ret (i : Nat) : blockEx i Q .ret E H = Q .ret E H := (Eq.refl _).trans rfl

def blockOne (b : Bool) (j : Nat) (Q : Ex → Env → Heap → Prop) (E : Env) (H : Heap) : Prop :=
  match b with
  | true => Q .normal E H
  | false => Q (.exit j) E H

@[go_sem] theorem blockOne_true (j : Nat) : blockOne true j Q E H = Q .normal E H := (Eq.refl _).trans rfl
@[go_sem] theorem blockOne_false (j : Nat) : blockOne false j Q E H = Q (.exit j) E H := (Eq.refl _).trans rfl
@[go_sem] theorem blockEx_exit (i j : Nat) : blockEx i Q (.exit j) E H = blockOne (j == i) j Q E H := by
  simp only [blockEx]
  by_cases h : j = i
  · simp [h, blockOne]
  · rw [if_neg h, show (j == i) = false by simpa using h]
    rfl

@[go_sem] theorem br_true (A B : Unit → Prop) : Br true A B = A () := (Eq.refl _).trans rfl
@[go_sem] theorem br_false (A B : Unit → Prop) : Br false A B = B () := (Eq.refl _).trans rfl
@[go_sem] theorem som_some {α : Type} (x : α) (K : α → Prop) : Som (some x) K = K x := (Eq.refl _).trans rfl
@[go_sem] theorem normK_normal : normK KE .normal E H = KE E H := (Eq.refl _).trans rfl

/-! ### Operands, environments -/

def lookIf (b : Bool) (v : V) (r : Env) (k : Nat) : V :=
  match b with
  | true => v
  | false => Env.look r k

@[go_sem] theorem lookIf_true (v : V) (r : Env) (k : Nat) : lookIf true v r k = v := (Eq.refl _).trans rfl
@[go_sem] theorem lookIf_false (v : V) (r : Env) (k : Nat) : lookIf false v r k = Env.look r k := (Eq.refl _).trans rfl
@[go_sem] theorem look_cons (j : Nat) (v : V) (r : Env) (k : Nat) : Env.look ((j, v) :: r) k = lookIf (j == k) v r k := by
  simp only [Env.look]
  by_cases h : j = k
  · simp [h, lookIf]
  · rw [if_neg h, show (j == k) = false by simpa using h]
    rfl
@[go_sem] theorem look_nil (k : Nat) : Env.look [] k = .und := (Eq.refl _).trans rfl
@[congr] theorem lookIf_congr {b b' : Bool} {v : V} {r : Env} {k : Nat} (h : b = b') {one : Prop} (ho : (True ∧ True) = one) : lookIf b v r k = lookIf b' v r k := by rw [h]
@[go_sem] theorem ge_tmp (t : Tmp) : ge E (.tmp t) = E.look t := (Eq.refl _).trans rfl
@[go_sem] theorem ge_func (f : FuncId) : ge E (.func f) = .fn (.func f) [] [] := (Eq.refl _).trans rfl
@[go_sem] theorem ge_bool (b : Bool) : ge E (.const (.bool b)) = .d (.bool b) := (Eq.refl _).trans rfl
@[go_sem] theorem ge_int (k : IntKind) (n : Int) : ge E (.const (.int k n)) = .d (.int k n) := (Eq.refl _).trans rfl
@[go_sem] theorem ge_str (s : ByteArray) : ge E (.const (.string s)) = .d (.str s) := (Eq.refl _).trans rfl
@[go_sem] theorem ge_nilp : ge E (.const (.pointer none)) = .d .nilp := (Eq.refl _).trans rfl
@[go_sem] theorem ge_nilf : ge E (.const .nilFunc) = .d .nilf := (Eq.refl _).trans rfl
@[go_sem] theorem ge_nilm : ge E (.const (.map none)) = .d .nilm := (Eq.refl _).trans rfl
@[go_sem] theorem ge_nils : ge E (.const (.slice none 0 0)) = .slx (some true) [] := (Eq.refl _).trans rfl
@[go_sem] theorem ge_agg (cs : List Value) (l : List D) (h : cvds cs = some l) : ge E (.const (.agg cs.toArray)) = .d (.agg l) := by
  simp only [ge, cv, h]
@[go_sem] theorem put_some (t : Tmp) (v : V) : put E (some t) v = (t, v) :: E := (Eq.refl _).trans rfl
@[go_sem] theorem put_none (v : V) : put E none v = E := (Eq.refl _).trans rfl
@[go_sem] theorem envOf_nil (k : Nat) : envOf k [] = [] := (Eq.refl _).trans rfl
@[go_sem] theorem envOf_cons (k : Nat) (v : V) (r : List V) : envOf k (v :: r) = (k, v) :: envOf (k + 1) r := (Eq.refl _).trans rfl

/-! ### Regions -/

@[go_sem] theorem evOps_nil (all : List Oper) : evOps T hint call all [] E H KE = KE E H := (Eq.refl _).trans rfl
@[go_sem] theorem nxt_move (x : Operand) : nxt (.move x) = none := (Eq.refl _).trans rfl
@[go_sem] theorem nxt_assign (x : Operand) : nxt (.assign x) = none := (Eq.refl _).trans rfl
@[go_sem] theorem nxt_pick (x y z : Operand) : nxt (.pick x y z) = none := (Eq.refl _).trans rfl
@[go_sem] theorem nxt_alloc (t : TypeId) : nxt (.alloc t) = none := (Eq.refl _).trans rfl
@[go_sem] theorem nxt_box (t : TypeId) (x : Operand) : nxt (.box t x) = none := (Eq.refl _).trans rfl
@[go_sem] theorem nxt_build (t : TypeId) (x : Array (Nat × Operand)) : nxt (.build t x) = none := (Eq.refl _).trans rfl
@[go_sem] theorem nxt_buildSlice (t : TypeId) (n : Nat) (x : Array (Nat × Operand)) : nxt (.buildSlice t n x) = none := (Eq.refl _).trans rfl
@[go_sem] theorem nxt_makeSlice (t : TypeId) (x y : Operand) : nxt (.makeSlice t x y) = none := (Eq.refl _).trans rfl
@[go_sem] theorem nxt_makeMap (t : TypeId) (x : Option Operand) : nxt (.makeMap t x) = none := (Eq.refl _).trans rfl
@[go_sem] theorem nxt_load (t : TypeId) (x : Operand) : nxt (.load t x) = none := (Eq.refl _).trans rfl
@[go_sem] theorem nxt_store (t : TypeId) (x y : Operand) : nxt (.store t x y) = none := (Eq.refl _).trans rfl
@[go_sem] theorem nxt_binOp (op : BinOp) (t : TypeId) (x y : Operand) (u : TypeId) : nxt (.binOp op t x y u) = none := (Eq.refl _).trans rfl
@[go_sem] theorem nxt_unOp (op : UnOp) (t : TypeId) (x : Operand) : nxt (.unOp op t x) = none := (Eq.refl _).trans rfl
@[go_sem] theorem nxt_convert (s t : TypeId) (x : Operand) : nxt (.convert s t x) = none := (Eq.refl _).trans rfl
@[go_sem] theorem nxt_makeFunc (f : Fn) (x y : Array Operand) : nxt (.makeFunc f x y) = none := (Eq.refl _).trans rfl
@[go_sem] theorem nxt_slice (t : TypeId) (x : Operand) (l h m : Option Operand) : nxt (.slice t x l h m) = none := (Eq.refl _).trans rfl
@[go_sem] theorem nxt_fieldAddr (t : TypeId) (x : Operand) (f : Nat) : nxt (.fieldAddr t x f) = none := (Eq.refl _).trans rfl
@[go_sem] theorem nxt_field (t : TypeId) (x : Operand) (f : Nat) : nxt (.field t x f) = none := (Eq.refl _).trans rfl
@[go_sem] theorem nxt_indexAddr (t : TypeId) (x y : Operand) : nxt (.indexAddr t x y) = none := (Eq.refl _).trans rfl
@[go_sem] theorem nxt_index (t : TypeId) (x y : Operand) : nxt (.index t x y) = none := (Eq.refl _).trans rfl
@[go_sem] theorem nxt_nilCheck (x : Operand) : nxt (.nilCheck x) = none := (Eq.refl _).trans rfl
@[go_sem] theorem nxt_extract (x : Operand) (i : Nat) : nxt (.extract x i) = none := (Eq.refl _).trans rfl
@[go_sem] theorem nxt_lookup (t : TypeId) (x y : Operand) (b : Bool) : nxt (.lookup t x y b) = none := (Eq.refl _).trans rfl
@[go_sem] theorem nxt_mapUpdate (t : TypeId) (x y z : Operand) : nxt (.mapUpdate t x y z) = none := (Eq.refl _).trans rfl
@[go_sem] theorem nxt_insert (t : TypeId) (x y z : Operand) : nxt (.insert t x y z) = none := (Eq.refl _).trans rfl
@[go_sem] theorem nxt_range (t : TypeId) (x : Operand) : nxt (.range t x) = none := (Eq.refl _).trans rfl
@[go_sem] theorem nxt_entry (x : Operand) : nxt (.entry x) = none := (Eq.refl _).trans rfl
@[go_sem] theorem nxt_nextS (x : Operand) : nxt (.next x true) = none := (Eq.refl _).trans rfl
@[go_sem] theorem nxt_call (c : Call) : nxt (.call c) = none := (Eq.refl _).trans rfl

@[go_sem] theorem evOps_none (all : List Oper) (d : Option Tmp) (o : Op) (t : TypeId) (p : String) (a : Array Edge) (os : List Oper) (hn : nxt o = none) :
    evOps T hint call all ({ dst := d, op := o, type := t, pos := p, after := a, guard := none } :: os) E H KE = evOp T hint call { dst := d, op := o, type := t, pos := p, after := a, guard := none } E H fun v H' => evOps T hint call all os (put E d v) H' KE := by
  simp only [evOps, evN, hn]

/-- What comes next of a map. -/
@[go_sem high] theorem evOps_next (all : List Oper) (d : Option Tmp) (x : Operand) (t : TypeId) (p : String) (a : Array Edge) (os : List Oper) :
    evOps T hint call all ({ dst := d, op := .next x false, type := t, pos := p, after := a, guard := none } :: os) E H KE = anext H (ge E x) fun v H' => evOps T hint call all os (put E d v) H' KE := (Eq.refl _).trans rfl
@[congr] theorem anext_congr {x x' : V} (h : x = x') {one : Prop} (ho : (True ∧ True) = one) : anext H x K = anext H x' K := by rw [h]

theorem anext_of {id mid n : Nat} {seen : List Nat} {es : List (D × D)} (h1 : H[id]? = some (.obj (.iter mid n seen))) (h2 : H[mid]? = some (.obj (.map es))) (hn : es.length = n)
    (hend : (∀ i, i < n → i ∈ seen) → K (.tup [.d (.bool false)]) H) (hgo : ∀ i p, es[i]? = some p → i ∉ seen → K (.tup [.d (.bool true), .d p.1, .d p.2]) (H.set id (.obj (.iter mid n (seen ++ [i]))))) : anext H (.obj id) K := by
  unfold anext
  simp only [h1, h2]
  exact ⟨hn, hend, hgo⟩

def gval (all : List Oper) (j : Nat) (E : Env) : V :=
  match gdst all j with
  | some t => E.look t
  | none => .und

def evGd (x : V) (w : Bool) (A B : Unit → Prop) : Prop :=
  match x with
  | .d (.bool b) => Br (b == w) A B
  | _ => False

@[go_sem] theorem evGd_true (b : Bool) (A B : Unit → Prop) : evGd (.d (.bool b)) true A B = Br b A B := by simp [evGd]
@[go_sem] theorem evGd_false (b : Bool) (A B : Unit → Prop) : evGd (.d (.bool b)) false A B = Br b B A := by cases b <;> rfl
/-- As evGd; a guard that was passed over passes on. -/
def evGo (x : V) (w : Bool) (A B : Unit → Prop) : Prop :=
  match x with
  | .d (.bool b) => Br (b == w) A B
  | .tup [] => B ()
  | _ => False

@[go_sem] theorem evGo_true (b : Bool) (A B : Unit → Prop) : evGo (.d (.bool b)) true A B = Br b A B := by simp [evGo]
@[go_sem] theorem evGo_false (b : Bool) (A B : Unit → Prop) : evGo (.d (.bool b)) false A B = Br b B A := by cases b <;> rfl
@[go_sem] theorem evGo_non (w : Bool) (A B : Unit → Prop) : evGo (.tup []) w A B = B () := (Eq.refl _).trans rfl
@[congr] theorem evGo_congr {x x' : V} {w : Bool} {A B : Unit → Prop} (h : x = x') {one : Prop} (ho : (True ∧ True) = one) : evGo x w A B = evGo x' w A B := by rw [h]
@[go_sem] theorem evOps_some (all : List Oper) (d : Option Tmp) (o : Op) (t : TypeId) (p : String) (a : Array Edge) (j : Nat) (w : Bool) (os : List Oper) (hn : nxt o = none) :
    evOps T hint call all ({ dst := d, op := o, type := t, pos := p, after := a, guard := some (j, w) } :: os) E H KE =
      evGo (gval all j E) w (fun _ => evOp T hint call { dst := d, op := o, type := t, pos := p, after := a, guard := some (j, w) } E H fun v H' => evOps T hint call all os (put E d v) H' KE) (fun _ => evOps T hint call all os (put E d (.tup [])) H KE) := by
  unfold gval evGo
  simp only [evOps, evN, hn]
  cases gdst all j <;> rfl
@[go_sem] theorem gval_zero (t : Tmp) (o : Op) (ty : TypeId) (p : String) (a : Array Edge) (g : Option (Nat × Bool)) (r : List Oper) : gval ({ dst := some t, op := o, type := ty, pos := p, after := a, guard := g } :: r) 0 E = E.look t := (Eq.refl _).trans rfl
@[go_sem] theorem gval_succ (x : Oper) (r : List Oper) (j : Nat) : gval (x :: r) (j + 1) E = gval r j E := (Eq.refl _).trans rfl
@[congr] theorem evGd_congr {x x' : V} {w : Bool} {A B : Unit → Prop} (h : x = x') {one : Prop} (ho : (True ∧ True) = one) : evGd x w A B = evGd x' w A B := by rw [h]
@[congr] theorem evIf_congr {x x' : V} {A B : Unit → Prop} (h : x = x') {one : Prop} (ho : (True ∧ True) = one) : evIf x A B = evIf x' A B := by rw [h]

end
end Go.Aw
end

section
namespace Go.Aw
open Go

/-! ### Types' helpers -/

section
@[go_sem] theorem dcells_int (k : IntKind) (n : Int) : dcells (.int k n) = [.int k n] := (Eq.refl _).trans rfl
@[go_sem] theorem dcells_bool (b : Bool) : dcells (.bool b) = [.bool b] := (Eq.refl _).trans rfl
@[go_sem] theorem dcells_str (s : ByteArray) : dcells (.str s) = [.str s] := (Eq.refl _).trans rfl
@[go_sem] theorem dcells_sl (l : List D) : dcells (.sl l) = [.sl l] := (Eq.refl _).trans rfl
@[go_sem] theorem dcells_agg (l : List D) : dcells (.agg l) = l := (Eq.refl _).trans rfl
@[go_sem] theorem dcells_nilp : dcells .nilp = [.nilp] := (Eq.refl _).trans rfl
@[go_sem] theorem dcells_nilf : dcells .nilf = [.nilf] := (Eq.refl _).trans rfl
@[go_sem] theorem dcells_nilm : dcells .nilm = [.nilm] := (Eq.refl _).trans rfl

@[go_sem] theorem one_int (k : IntKind) (n : Int) : V.one (.d (.int k n)) = true := (Eq.refl _).trans rfl
@[go_sem] theorem one_bool (b : Bool) : V.one (.d (.bool b)) = true := (Eq.refl _).trans rfl
@[go_sem] theorem one_str (s : ByteArray) : V.one (.d (.str s)) = true := (Eq.refl _).trans rfl
@[go_sem] theorem one_sl (l : List D) : V.one (.d (.sl l)) = true := (Eq.refl _).trans rfl
@[go_sem] theorem one_nilp : V.one (.d .nilp) = true := (Eq.refl _).trans rfl
@[go_sem] theorem one_nilf : V.one (.d .nilf) = true := (Eq.refl _).trans rfl
@[go_sem] theorem one_nilm : V.one (.d .nilm) = true := (Eq.refl _).trans rfl
@[go_sem] theorem one_slx (b : Option Bool) (l : List D) : V.one (.slx b l) = true := (Eq.refl _).trans rfl
@[go_sem] theorem one_obj (i : Nat) : V.one (.obj i) = true := (Eq.refl _).trans rfl
@[go_sem] theorem one_ptr (i o : Nat) : V.one (.ptr i o) = true := (Eq.refl _).trans rfl
@[go_sem] theorem one_csl (i e l : Nat) : V.one (.csl i e l) = true := (Eq.refl _).trans rfl
@[go_sem] theorem one_pp (cs : List D) : V.one (.pp cs) = true := (Eq.refl _).trans rfl
@[go_sem] theorem one_ref (i n lo len : Nat) : V.one (.ref i n lo len) = true := (Eq.refl _).trans rfl
@[go_sem] theorem one_ep (i n k o : Nat) : V.one (.ep i n k o) = true := (Eq.refl _).trans rfl
@[go_sem] theorem one_fn (f : Fn) (x y : List V) : V.one (.fn f x y) = true := (Eq.refl _).trans rfl

@[go_sem] theorem vcells_dagg (l : List D) : vcells (.d (.agg l)) = some (l.map .d) := (Eq.refl _).trans rfl
@[go_sem] theorem vcells_agg (l : List V) : vcells (.agg l) = some l := (Eq.refl _).trans rfl
@[go_sem] theorem vcells_int (k : IntKind) (n : Int) : vcells (.d (.int k n)) = some [.d (.int k n)] := (Eq.refl _).trans rfl
@[go_sem] theorem vcells_bool (b : Bool) : vcells (.d (.bool b)) = some [.d (.bool b)] := (Eq.refl _).trans rfl
@[go_sem] theorem vcells_str (s : ByteArray) : vcells (.d (.str s)) = some [.d (.str s)] := (Eq.refl _).trans rfl
@[go_sem] theorem vcells_sl (l : List D) : vcells (.d (.sl l)) = some [.d (.sl l)] := (Eq.refl _).trans rfl
@[go_sem] theorem vcells_nilp : vcells (.d .nilp) = some [.d .nilp] := (Eq.refl _).trans rfl
@[go_sem] theorem vcells_nilf : vcells (.d .nilf) = some [.d .nilf] := (Eq.refl _).trans rfl
@[go_sem] theorem vcells_nilm : vcells (.d .nilm) = some [.d .nilm] := (Eq.refl _).trans rfl
@[go_sem] theorem vcells_slx (b : Option Bool) (l : List D) : vcells (.slx b l) = some [.slx b l] := (Eq.refl _).trans rfl
@[go_sem] theorem vcells_obj (i : Nat) : vcells (.obj i) = some [.obj i] := (Eq.refl _).trans rfl
@[go_sem] theorem vcells_ptr (i o : Nat) : vcells (.ptr i o) = some [.ptr i o] := (Eq.refl _).trans rfl
@[go_sem] theorem vcells_csl (i e l : Nat) : vcells (.csl i e l) = some [.csl i e l] := (Eq.refl _).trans rfl
@[go_sem] theorem vcells_pp (cs : List D) : vcells (.pp cs) = some [.pp cs] := (Eq.refl _).trans rfl
@[go_sem] theorem vcells_ref (i n lo len : Nat) : vcells (.ref i n lo len) = some [.ref i n lo len] := (Eq.refl _).trans rfl
@[go_sem] theorem vcells_ep (i n k o : Nat) : vcells (.ep i n k o) = some [.ep i n k o] := (Eq.refl _).trans rfl
@[go_sem] theorem vcells_fn (f : Fn) (x y : List V) : vcells (.fn f x y) = some [.fn f x y] := (Eq.refl _).trans rfl

/-- The cells that are stored, by those of the value. -/
def stS (o : Option (List V)) : Option (List V) :=
  match o with
  | some l => store1 l
  | none => none

def stN (n : Nat) (o : Option (List V)) : Option (List V) :=
  match o with
  | some cs => if cs.length = n ∧ cs.all V.one = true then some cs else none
  | none => none

@[go_sem] theorem stS_one (c : V) : stS (some [c]) = if c.one = true then some [c] else none := (Eq.refl _).trans rfl
@[go_sem] theorem stN_some (n : Nat) (cs : List V) : stN n (some cs) = if cs.length = n ∧ cs.all V.one = true then some cs else none := (Eq.refl _).trans rfl
@[go_sem] theorem storeCells_sc (z : D) (v : V) : storeCells (.sc z) v = stS (vcells v) := by
  cases h : vcells v <;> simp [storeCells, stS, h]
@[go_sem] theorem storeCells_sl (es : Nat) (z : D) (v : V) : storeCells (.sl es z) v = stS (vcells v) := by
  cases h : vcells v <;> simp [storeCells, stS, h]
@[go_sem] theorem storeCells_mp (k z : D) (v : V) : storeCells (.mp k z) v = stS (vcells v) := by
  cases h : vcells v <;> simp [storeCells, stS, h]
@[go_sem] theorem storeCells_st (n : Nat) (fs : List (Nat × Nat × Nat)) (z : List D) (c : Bool) (v : V) : storeCells (.st n fs z c) v = stN n (vcells v) := by
  cases h : vcells v <;> simp [storeCells, stN, h]
@[go_sem] theorem storeCells_ar (n es el : Nat) (z : List D) (c : Bool) (v : V) : storeCells (.ar n es el z c) v = stN (n * es) (vcells v) := by
  cases h : vcells v <;> simp [storeCells, stN, h]

@[go_sem] theorem zeroV_sc (z : D) : zeroV (.sc z) = some [.d z] := (Eq.refl _).trans rfl
@[go_sem] theorem zeroV_st (n : Nat) (fs : List (Nat × Nat × Nat)) (z : List D) (c : Bool) : zeroV (.st n fs z c) = some (z.map .d) := (Eq.refl _).trans rfl
@[go_sem] theorem zeroV_ar (n es el : Nat) (z : List D) (c : Bool) : zeroV (.ar n es el z c) = some (z.map .d) := (Eq.refl _).trans rfl
@[go_sem] theorem zeroV_mp (k z : D) : zeroV (.mp k z) = some [.d .nilm] := (Eq.refl _).trans rfl
@[go_sem] theorem zeroV_sl (es : Nat) (z : D) : zeroV (.sl es z) = some [.slx (some true) []] := (Eq.refl _).trans rfl

@[go_sem] theorem headD_int (k : IntKind) (n : Int) (r : List D) : headD (.int k n :: r) = some (.int k n) := (Eq.refl _).trans rfl
@[go_sem] theorem headD_bool (b : Bool) (r : List D) : headD (.bool b :: r) = some (.bool b) := (Eq.refl _).trans rfl
@[go_sem] theorem headD_str (s : ByteArray) (r : List D) : headD (.str s :: r) = some (.str s) := (Eq.refl _).trans rfl
@[go_sem] theorem headD_sl (l : List D) (r : List D) : headD (.sl l :: r) = some (.sl l) := (Eq.refl _).trans rfl
@[go_sem] theorem headD_nilp (r : List D) : headD (.nilp :: r) = some .nilp := (Eq.refl _).trans rfl
@[go_sem] theorem headD_nilf (r : List D) : headD (.nilf :: r) = some .nilf := (Eq.refl _).trans rfl
@[go_sem] theorem headD_nilm (r : List D) : headD (.nilm :: r) = some .nilm := (Eq.refl _).trans rfl
@[go_sem] theorem headV_cons (c : V) (r : List V) : headV (c :: r) = some c := (Eq.refl _).trans rfl
@[go_sem] theorem loadD_sc (z : D) (cs : List D) : loadD (.sc z) cs = headD cs := (Eq.refl _).trans rfl
@[go_sem] theorem loadD_mp (k z : D) (cs : List D) : loadD (.mp k z) cs = headD cs := (Eq.refl _).trans rfl
@[go_sem] theorem loadV_mp (k z : D) (cs : List V) : loadV (.mp k z) cs = headV cs := (Eq.refl _).trans rfl
@[go_sem] theorem loadD_sl (es : Nat) (z : D) (cs : List D) : loadD (.sl es z) cs = headD cs := (Eq.refl _).trans rfl
@[go_sem] theorem loadD_st (n : Nat) (fs : List (Nat × Nat × Nat)) (z : List D) (c : Bool) (cs : List D) : loadD (.st n fs z c) cs = if n ≤ cs.length then some (.agg (cs.take n)) else none := (Eq.refl _).trans rfl
@[go_sem] theorem loadD_ar (n es el : Nat) (z : List D) (c : Bool) (cs : List D) : loadD (.ar n es el z c) cs = if n * es ≤ cs.length then some (.agg (cs.take (n * es))) else none := (Eq.refl _).trans rfl
@[go_sem] theorem loadV_sc (z : D) (cs : List V) : loadV (.sc z) cs = headV cs := (Eq.refl _).trans rfl
@[go_sem] theorem loadV_sl (es : Nat) (z : D) (cs : List V) : loadV (.sl es z) cs = headV cs := (Eq.refl _).trans rfl
@[go_sem] theorem loadV_st (n : Nat) (fs : List (Nat × Nat × Nat)) (z : List D) (c : Bool) (cs : List V) : loadV (.st n fs z c) cs = if n ≤ cs.length then some (norm (cs.take n)) else none := (Eq.refl _).trans rfl
@[go_sem] theorem loadV_ar (n es el : Nat) (z : List D) (c : Bool) (cs : List V) : loadV (.ar n es el z c) cs = if n * es ≤ cs.length then some (norm (cs.take (n * es))) else none := (Eq.refl _).trans rfl

@[go_sem] theorem toD_d (x : D) : toD (.d x) = some x := (Eq.refl _).trans rfl
@[go_sem] theorem toD_slx (b : Option Bool) (l : List D) : toD (.slx b l) = some (.sl l) := (Eq.refl _).trans rfl
@[go_sem] theorem toD_und : toD .und = none := (Eq.refl _).trans rfl
@[go_sem] theorem toD_obj (i : Nat) : toD (.obj i) = none := (Eq.refl _).trans rfl
@[go_sem] theorem toD_ptr (i o : Nat) : toD (.ptr i o) = none := (Eq.refl _).trans rfl
@[go_sem] theorem toD_csl (i e l : Nat) : toD (.csl i e l) = none := (Eq.refl _).trans rfl
@[go_sem] theorem toD_pp (cs : List D) : toD (.pp cs) = none := (Eq.refl _).trans rfl
@[go_sem] theorem toD_ref (i n lo len : Nat) : toD (.ref i n lo len) = none := (Eq.refl _).trans rfl
@[go_sem] theorem toD_ep (i n k o : Nat) : toD (.ep i n k o) = none := (Eq.refl _).trans rfl
@[go_sem] theorem toD_fn (f : Fn) (x y : List V) : toD (.fn f x y) = none := (Eq.refl _).trans rfl

def toDs2 (a : Option D) (b : Option (List D)) : Option (List D) :=
  match a, b with
  | some x, some l => some (x :: l)
  | _, _ => none

@[go_sem] theorem toDs2_some (x : D) (l : List D) : toDs2 (some x) (some l) = some (x :: l) := (Eq.refl _).trans rfl
@[go_sem] theorem toDs2_none (b : Option (List D)) : toDs2 none b = none := (Eq.refl _).trans rfl
@[go_sem] theorem toDs2_none' (x : D) : toDs2 (some x) none = none := (Eq.refl _).trans rfl
@[go_sem] theorem toDs_nil : toDs [] = some [] := (Eq.refl _).trans rfl
@[go_sem] theorem toDs_cons (v : V) (r : List V) : toDs (v :: r) = toDs2 (toD v) (toDs r) := (Eq.refl _).trans rfl
theorem toDs_map (l : List D) : toDs (l.map .d) = some l := by
  induction l with
  | nil => rfl
  | cons x r ih => simp [toDs, toD, ih]

def normO (o : Option (List D)) (l : List V) : V :=
  match o with
  | some ds => .d (.agg ds)
  | none => .agg l
@[go_sem] theorem normO_some (ds : List D) (l : List V) : normO (some ds) l = .d (.agg ds) := (Eq.refl _).trans rfl
@[go_sem] theorem normO_none (l : List V) : normO none l = .agg l := (Eq.refl _).trans rfl
@[go_sem] theorem norm_eq (l : List V) : norm l = normO (toDs l) l := (Eq.refl _).trans rfl

@[go_sem] theorem splice_eq {α : Type} (cs : List α) (off : Nat) (vs : List α) : splice cs off vs = cs.take off ++ vs ++ cs.drop (off + vs.length) := (Eq.refl _).trans rfl
@[go_sem] theorem recell_agg (l cs : List D) : recell (.agg l) cs = some (.agg cs) := by
  cases cs with
  | nil => rfl
  | cons c r => cases r <;> cases c <;> rfl
@[go_sem] theorem recell_int (k k' : IntKind) (n n' : Int) : recell (.int k n) [.int k' n'] = some (.int k' n') := (Eq.refl _).trans rfl
@[go_sem] theorem recell_bool (b b' : Bool) : recell (.bool b) [.bool b'] = some (.bool b') := (Eq.refl _).trans rfl
@[go_sem] theorem recell_str (b b' : ByteArray) : recell (.str b) [.str b'] = some (.str b') := (Eq.refl _).trans rfl
@[go_sem] theorem recell_sl (b b' : List D) : recell (.sl b) [.sl b'] = some (.sl b') := (Eq.refl _).trans rfl

@[go_sem] theorem sized_nil (es : Nat) : sized es [] = true := (Eq.refl _).trans rfl
@[go_sem] theorem sized_cons (es : Nat) (x : D) (r : List D) : sized es (x :: r) = (((dcells x).length == es) && sized es r) := (Eq.refl _).trans rfl
end

/-! ### Memory -/

section
variable {H : Heap} {E : Env}

def aloadP (t : Ty) (b : Option Blk) (off : Nat) : Option V :=
  match b with
  | some (.cells cs) => loadV t (cs.drop off)
  | _ => none
def aloadE (t : Ty) (b : Option Blk) (n i off : Nat) : Option V :=
  match b with
  | some (.arr _ _ els) => if els.length = n then (match els[i]? with
      | some e => (loadD t ((dcells e).drop off)).map .d
      | none => none) else none
  | _ => none
def aloadD (t : Ty) (e : Option D) (off : Nat) : Option V :=
  match e with
  | some e => (loadD t ((dcells e).drop off)).map .d
  | none => none
@[go_sem] theorem aload_pp (t : Ty) (cs : List D) : aload t H (.pp cs) = (loadD t cs).map .d := (Eq.refl _).trans rfl
@[go_sem] theorem aload_ptr (t : Ty) (id off : Nat) : aload t H (.ptr id off) = aloadP t H[id]? off := by
  cases hb : H[id]? with
  | none => simp [aload, aloadP, hb]
  | some b => cases b <;> simp [aload, aloadP, hb] <;> rfl
@[go_sem] theorem aload_ep (t : Ty) (id n i off : Nat) : aload t H (.ep id n i off) = aloadE t H[id]? n i off := by
  cases hb : H[id]? with
  | none => simp [aload, aloadE, hb]
  | some b => cases b <;> simp [aload, aloadE, hb] <;> rfl
@[go_sem] theorem aloadP_cells (t : Ty) (cs : List V) (off : Nat) : aloadP t (some (.cells cs)) off = loadV t (cs.drop off) := (Eq.refl _).trans rfl
@[go_sem] theorem aloadE_arr (t : Ty) (sz : Nat) (nl : Bool) (els : List D) (n i off : Nat) : aloadE t (some (.arr sz nl els)) n i off = if els.length = n then aloadD t els[i]? off else none := (Eq.refl _).trans rfl
@[go_sem] theorem aloadD_some (t : Ty) (e : D) (off : Nat) : aloadD t (some e) off = (loadD t ((dcells e).drop off)).map .d := (Eq.refl _).trans rfl

def aelt (es : Nat) (o : Option D) : Option V :=
  match o with
  | some e => if (dcells e).length = es then some (.pp (dcells e)) else none
  | none => none
def aeltR (es : Nat) (b : Option Blk) (id n lo len : Nat) (k : Int) : Option V :=
  match b with
  | some (.arr sz _ els) => if els.length = n ∧ sz = es ∧ 0 ≤ k ∧ k < len then some (.ep id n (lo + k.toNat) 0) else none
  | _ => none
@[go_sem] theorem aelt_some (es : Nat) (e : D) : aelt es (some e) = if (dcells e).length = es then some (.pp (dcells e)) else none := (Eq.refl _).trans rfl
@[go_sem] theorem aeltR_arr (es sz : Nat) (nl : Bool) (els : List D) (id n lo len : Nat) (k : Int) : aeltR es (some (.arr sz nl els)) id n lo len k = if els.length = n ∧ sz = es ∧ 0 ≤ k ∧ k < len then some (.ep id n (lo + k.toNat) 0) else none := (Eq.refl _).trans rfl
@[go_sem] theorem aidx_d (es : Nat) (z : D) (l : List D) (k : IntKind) (n : Int) : aidxAddr (.sl es z) H (.d (.sl l)) (.d (.int k n)) = aelt es (idx? l n) := by
  cases hb : idx? l n <;> simp [aidxAddr, aelt, hb]
@[go_sem] theorem aidx_slx (es : Nat) (z : D) (b : Option Bool) (l : List D) (k : IntKind) (n : Int) : aidxAddr (.sl es z) H (.slx b l) (.d (.int k n)) = aelt es (idx? l n) := by
  cases hb : idx? l n <;> simp [aidxAddr, aelt, hb]
@[go_sem] theorem aidx_ref (es : Nat) (z : D) (id m lo len : Nat) (k : IntKind) (n : Int) : aidxAddr (.sl es z) H (.ref id m lo len) (.d (.int k n)) = aeltR es H[id]? id m lo len n := by
  cases hb : H[id]? with
  | none => simp [aidxAddr, aeltR, hb]
  | some b => cases b <;> simp [aidxAddr, aeltR, hb]
@[go_sem] theorem aidx_csl (es : Nat) (z : D) (id e len : Nat) (k : IntKind) (n : Int) : aidxAddr (.sl es z) H (.csl id e len) (.d (.int k n)) = if e = es ∧ 0 ≤ n ∧ n < len then some (.ptr id (n.toNat * es)) else none := (Eq.refl _).trans rfl
@[go_sem] theorem aidx_ptr (len es el : Nat) (z : List D) (c : Bool) (id off : Nat) (k : IntKind) (n : Int) : aidxAddr (.ar len es el z c) H (.ptr id off) (.d (.int k n)) = if 0 ≤ n ∧ n < len then some (.ptr id (off + n.toNat * es)) else none := (Eq.refl _).trans rfl
@[go_sem] theorem aidx_pp (len es el : Nat) (z : List D) (c : Bool) (cs : List D) (k : IntKind) (n : Int) : aidxAddr (.ar len es el z c) H (.pp cs) (.d (.int k n)) = if 0 ≤ n ∧ n < len then some (.pp (cs.drop (n.toNat * es))) else none := (Eq.refl _).trans rfl
@[go_sem] theorem aidx_ep (len es el : Nat) (z : List D) (c : Bool) (id m i off : Nat) (k : IntKind) (n : Int) : aidxAddr (.ar len es el z c) H (.ep id m i off) (.d (.int k n)) = if 0 ≤ n ∧ n < len then some (.ep id m i (off + n.toNat * es)) else none := (Eq.refl _).trans rfl
theorem idx_nat {α : Type} (l : List α) (n : Nat) : idx? l (n : Int) = l[n]? := by simp [idx?]
@[go_sem] theorem idx_lit {α : Type} (l : List α) (n : Nat) : idx? l (OfNat.ofNat n : Int) = l[n]? := idx_nat l n

def afld (o : Option (Nat × Nat × Nat)) (f : Nat → Option V) : Option V :=
  match o with
  | some p => f p.1
  | none => none
@[go_sem] theorem afld_some (p : Nat × Nat × Nat) (f : Nat → Option V) : afld (some p) f = f p.1 := (Eq.refl _).trans rfl
@[go_sem] theorem afieldAddr_ptr (n : Nat) (fs : List (Nat × Nat × Nat)) (z : List D) (c : Bool) (id off f : Nat) : afieldAddr (.st n fs z c) (.ptr id off) f = afld fs[f]? fun o => some (.ptr id (off + o)) := by
  cases hf : fs[f]? <;> simp [afieldAddr, afld, hf]
@[go_sem] theorem afieldAddr_pp (n : Nat) (fs : List (Nat × Nat × Nat)) (z : List D) (c : Bool) (cs : List D) (f : Nat) : afieldAddr (.st n fs z c) (.pp cs) f = afld fs[f]? fun o => some (.pp (cs.drop o)) := by
  cases hf : fs[f]? <;> simp [afieldAddr, afld, hf]
@[go_sem] theorem afieldAddr_ep (n : Nat) (fs : List (Nat × Nat × Nat)) (z : List D) (c : Bool) (id m i off f : Nat) : afieldAddr (.st n fs z c) (.ep id m i off) f = afld fs[f]? fun o => some (.ep id m i (off + o)) := by
  cases hf : fs[f]? <;> simp [afieldAddr, afld, hf]

def afld2 (T : Nat → Ty) (o : Option (Nat × Nat × Nat)) (f : Nat → Ty → Option V) : Option V :=
  match o with
  | some p => f p.1 (T p.2.2)
  | none => none
@[go_sem] theorem afld2_some (T : Nat → Ty) (a b c : Nat) (f : Nat → Ty → Option V) : afld2 T (some (a, b, c)) f = f a (T c) := (Eq.refl _).trans rfl
@[go_sem] theorem afield_d (T : Nat → Ty) (n : Nat) (fs : List (Nat × Nat × Nat)) (z : List D) (c : Bool) (cs : List D) (f : Nat) : afield T (.st n fs z c) (.d (.agg cs)) f = afld2 T fs[f]? fun o e => (loadD e (cs.drop o)).map .d := by
  cases hf : fs[f]? <;> simp [afield, afld2, hf]
@[go_sem] theorem afield_agg (T : Nat → Ty) (n : Nat) (fs : List (Nat × Nat × Nat)) (z : List D) (c : Bool) (cs : List V) (f : Nat) : afield T (.st n fs z c) (.agg cs) f = afld2 T fs[f]? fun o e => if cs.all V.one = true then loadV e (cs.drop o) else none := by
  cases hf : fs[f]? <;> simp [afield, afld2, hf]
@[go_sem] theorem aindex_d (T : Nat → Ty) (len es e : Nat) (z : List D) (c : Bool) (cs : List D) (k : IntKind) (n : Int) : aindex T (.ar len es e z c) (.d (.agg cs)) (.d (.int k n)) = if 0 ≤ n ∧ n < len then (loadD (T e) (cs.drop (n.toNat * es))).map .d else none := (Eq.refl _).trans rfl
@[go_sem] theorem aindex_agg (T : Nat → Ty) (len es e : Nat) (z : List D) (c : Bool) (cs : List V) (k : IntKind) (n : Int) : aindex T (.ar len es e z c) (.agg cs) (.d (.int k n)) = if 0 ≤ n ∧ n < len ∧ cs.all V.one = true then loadV (T e) (cs.drop (n.toNat * es)) else none := (Eq.refl _).trans rfl

def astP (cs : Option (List V)) (b : Option Blk) (H : Heap) (id off : Nat) : Option Heap :=
  match cs, b with
  | some cs, some (.cells old) => if off + cs.length ≤ old.length then some (H.set id (.cells (splice old off cs))) else none
  | _, _ => none
def astE3 (o : Option D) (H : Heap) (id sz : Nat) (nl : Bool) (els : List D) (i : Nat) : Option Heap :=
  match o with
  | some e' => some (H.set id (.arr sz nl (els.set i e')))
  | none => none
def astE2 (o : Option D) (ds : List D) (H : Heap) (id sz : Nat) (nl : Bool) (els : List D) (i off : Nat) : Option Heap :=
  match o with
  | some e => if off + ds.length ≤ (dcells e).length then astE3 (recell e (splice (dcells e) off ds)) H id sz nl els i else none
  | none => none
def astE (cs : Option (List V)) (b : Option Blk) (H : Heap) (id n i off : Nat) : Option Heap :=
  match cs with
  | some cs => match b, toDs cs with
    | some (.arr sz nl els), some ds => if els.length = n then astE2 els[i]? ds H id sz nl els i off else none
    | _, _ => none
  | none => none
def astE1 (d : Option (List D)) (H : Heap) (id sz : Nat) (nl : Bool) (els : List D) (n i off : Nat) : Option Heap :=
  match d with
  | some ds => if els.length = n then astE2 els[i]? ds H id sz nl els i off else none
  | none => none
@[go_sem] theorem astore_ptr (t : Ty) (id off : Nat) (v : V) : astore t H (.ptr id off) v = astP (storeCells t v) H[id]? H id off := by
  cases hs : storeCells t v with
  | none => simp [astore, astP, hs]
  | some cs => cases hb : H[id]? with
    | none => simp [astore, astP, hs, hb]
    | some b => cases b <;> simp [astore, astP, hs, hb]
@[go_sem] theorem astP_cells (cs old : List V) (id off : Nat) : astP (some cs) (some (.cells old)) H id off = if off + cs.length ≤ old.length then some (H.set id (.cells (splice old off cs))) else none := (Eq.refl _).trans rfl
@[go_sem] theorem astore_ep (t : Ty) (id n i off : Nat) (v : V) : astore t H (.ep id n i off) v = astE (storeCells t v) H[id]? H id n i off := by
  cases hs : storeCells t v with
  | none => simp [astore, astE, hs]
  | some cs => cases hb : H[id]? with
    | none => simp [astore, astE, hs, hb]
    | some b => cases b <;> cases hd : toDs cs <;> simp [astore, astE, astE2, astE3, hs, hb, hd] <;> rfl
@[go_sem] theorem astE_arr (cs : List V) (sz : Nat) (nl : Bool) (els : List D) (id n i off : Nat) : astE (some cs) (some (.arr sz nl els)) H id n i off = astE1 (toDs cs) H id sz nl els n i off := by
  cases hd : toDs cs <;> simp [astE, astE1, hd]
@[go_sem] theorem astE1_some (ds : List D) (sz : Nat) (nl : Bool) (els : List D) (id n i off : Nat) : astE1 (some ds) H id sz nl els n i off = if els.length = n then astE2 els[i]? ds H id sz nl els i off else none := (Eq.refl _).trans rfl
@[go_sem] theorem astE2_some (e : D) (ds : List D) (sz : Nat) (nl : Bool) (els : List D) (id i off : Nat) : astE2 (some e) ds H id sz nl els i off = if off + ds.length ≤ (dcells e).length then astE3 (recell e (splice (dcells e) off ds)) H id sz nl els i else none := (Eq.refl _).trans rfl
@[go_sem] theorem astE3_some (e : D) (sz : Nat) (nl : Bool) (els : List D) (id i : Nat) : astE3 (some e) H id sz nl els i = some (H.set id (.arr sz nl (els.set i e))) := (Eq.refl _).trans rfl

def contR (b : Option Blk) (n lo len : Nat) : Option (List D) :=
  match b with
  | some (.arr _ _ els) => if els.length = n then some ((els.drop lo).take len) else none
  | _ => none
@[go_sem] theorem contR_arr (sz : Nat) (nl : Bool) (els : List D) (n lo len : Nat) : contR (some (.arr sz nl els)) n lo len = if els.length = n then some ((els.drop lo).take len) else none := (Eq.refl _).trans rfl
@[go_sem] theorem content_d (l : List D) : content H (.d (.sl l)) = some l := (Eq.refl _).trans rfl
@[go_sem] theorem content_slx (b : Option Bool) (l : List D) : content H (.slx b l) = some l := (Eq.refl _).trans rfl
@[go_sem] theorem content_ref (id n lo len : Nat) : content H (.ref id n lo len) = contR H[id]? n lo len := by
  cases hb : H[id]? with
  | none => simp [content, contR, hb]
  | some b => cases b <;> simp [content, contR, hb] <;> rfl

def alenR (b : Option Blk) (n len : Nat) : Option Nat :=
  match b with
  | some (.arr _ _ els) => if els.length = n then some len else none
  | _ => none
@[go_sem] theorem alenR_arr (sz : Nat) (nl : Bool) (els : List D) (n len : Nat) : alenR (some (.arr sz nl els)) n len = if els.length = n then some len else none := (Eq.refl _).trans rfl
@[go_sem] theorem alen_d (es : Nat) (z : D) (l : List D) : alen (.sl es z) H (.d (.sl l)) = some l.length := (Eq.refl _).trans rfl
@[go_sem] theorem alen_slx (es : Nat) (z : D) (b : Option Bool) (l : List D) : alen (.sl es z) H (.slx b l) = some l.length := (Eq.refl _).trans rfl
@[go_sem] theorem alen_csl (es : Nat) (z : D) (id e n : Nat) : alen (.sl es z) H (.csl id e n) = some n := (Eq.refl _).trans rfl
@[go_sem] theorem alen_str (z s : ByteArray) : alen (.sc (.str z)) H (.d (.str s)) = some s.size := (Eq.refl _).trans rfl
def alenM (b : Option Blk) : Option Nat :=
  match b with
  | some (.obj (.map es)) => some es.length
  | _ => none
@[go_sem] theorem alenM_map (es : List (D × D)) : alenM (some (.obj (.map es))) = some es.length := (Eq.refl _).trans rfl
@[go_sem] theorem alen_map (kz z : D) (id : Nat) : alen (.mp kz z) H (.obj id) = alenM H[id]? := (Eq.refl _).trans rfl
@[go_sem] theorem alen_ref (es : Nat) (z : D) (id n lo len : Nat) : alen (.sl es z) H (.ref id n lo len) = alenR H[id]? n len := by
  cases hb : H[id]? with
  | none => simp [alen, alenR, hb]
  | some b => cases b <;> simp [alen, alenR, hb] <;> rfl

/-! ### Slices of slices -/

def bnd (v : V) : Option Nat :=
  match v with
  | .d (.int _ n) => if 0 ≤ n then some n.toNat else none
  | _ => none
@[go_sem] theorem bnd_int (k : IntKind) (n : Int) : bnd (.d (.int k n)) = if 0 ≤ n then some n.toNat else none := (Eq.refl _).trans rfl
@[go_sem] theorem bound_none (n : Nat) : bound? E none n = some n := (Eq.refl _).trans rfl
@[go_sem] theorem bound_some (x : Operand) (n : Nat) : bound? E (some x) n = bnd (ge E x) := by
  simp only [bound?, bnd]
  cases ge E x <;> first | rfl | (rename_i d; cases d <;> rfl)

def aslD (es : Nat) (s : List D) (l h : Option Nat) : Option V :=
  match l, h with
  | some l, some h => if sized es s = true then (if l ≤ h ∧ h ≤ s.length then some (.d (.sl ((s.take h).drop l))) else none) else none
  | _, _ => none
@[go_sem] theorem aslD_some (es : Nat) (s : List D) (l h : Nat) : aslD es s (some l) (some h) = if sized es s = true then (if l ≤ h ∧ h ≤ s.length then some (.d (.sl ((s.take h).drop l))) else none) else none := (Eq.refl _).trans rfl
@[go_sem] theorem aslice_d (es : Nat) (z : D) (s : List D) (lo hi : Option Operand) : aslice (.sl es z) E H (.d (.sl s)) lo hi none = aslD es s (bound? E lo 0) (bound? E hi s.length) := by
  cases h1 : bound? E lo 0 <;> cases h2 : bound? E hi s.length <;> simp [aslice, content, aslD, h1, h2]
@[go_sem] theorem aslice_slx (es : Nat) (z : D) (b : Option Bool) (s : List D) (lo hi : Option Operand) : aslice (.sl es z) E H (.slx b s) lo hi none = aslD es s (bound? E lo 0) (bound? E hi s.length) := by
  cases h1 : bound? E lo 0 <;> cases h2 : bound? E hi s.length <;> simp [aslice, content, aslD, h1, h2]
def aslX (es : Nat) (s : List D) (l h m : Option Nat) : Option V :=
  match l, h, m with
  | some l, some h, some k => if sized es s = true then (if l ≤ h ∧ h ≤ s.length ∧ k = h then some (.slx none ((s.take h).drop l)) else none) else none
  | _, _, _ => none
@[go_sem] theorem aslX_some (es : Nat) (s : List D) (l h k : Nat) : aslX es s (some l) (some h) (some k) = if sized es s = true then (if l ≤ h ∧ h ≤ s.length ∧ k = h then some (.slx none ((s.take h).drop l)) else none) else none := (Eq.refl _).trans rfl
@[go_sem] theorem aslice_dx (es : Nat) (z : D) (s : List D) (lo : Option Operand) (hi m : Operand) : aslice (.sl es z) E H (.d (.sl s)) lo (some hi) (some m) = aslX es s (bound? E lo 0) (bound? E (some hi) s.length) (bound? E (some m) 0) := by
  cases h1 : bound? E lo 0 <;> cases h2 : bound? E (some hi) s.length <;> cases h3 : bound? E (some m) 0 <;> simp [aslice, content, aslX, h1, h2, h3]
def aslR (es : Nat) (b : Option Blk) (id n a len : Nat) (l h : Option Nat) : Option V :=
  match b, l, h with
  | some (.arr sz _ els), some l, some h => if els.length = n ∧ sz = es ∧ l ≤ h ∧ h ≤ len ∧ (l < h ∨ l = 0) then some (.ref id n (a + l) (h - l)) else none
  | _, _, _ => none
@[go_sem] theorem aslR_arr (es sz : Nat) (nl : Bool) (els : List D) (id n a len l h : Nat) : aslR es (some (.arr sz nl els)) id n a len (some l) (some h) = if els.length = n ∧ sz = es ∧ l ≤ h ∧ h ≤ len ∧ (l < h ∨ l = 0) then some (.ref id n (a + l) (h - l)) else none := (Eq.refl _).trans rfl
@[go_sem] theorem aslice_ref (es : Nat) (z : D) (id n a len : Nat) (lo hi : Option Operand) : aslice (.sl es z) E H (.ref id n a len) lo hi none = aslR es H[id]? id n a len (bound? E lo 0) (bound? E hi len) := by
  cases hb : H[id]? with
  | none => simp [aslice, aslR, hb]
  | some b => cases b <;> cases h1 : bound? E lo 0 <;> cases h2 : bound? E hi len <;> simp [aslice, aslR, hb, h1, h2]
def aslS (s : ByteArray) (l h : Option Nat) : Option V :=
  match l, h with
  | some l, some h => if l ≤ h ∧ h ≤ s.size then some (.d (.str (s.extract l h))) else none
  | _, _ => none
def aslP (len es : Nat) (cs : List D) (l h : Option Nat) : Option V :=
  match l, h with
  | some l, some h => if es = 1 ∧ l ≤ h ∧ h ≤ len ∧ len ≤ cs.length then some (.d (.sl ((cs.take h).drop l))) else none
  | _, _ => none
@[go_sem] theorem aslP_some (len es : Nat) (cs : List D) (l h : Nat) : aslP len es cs (some l) (some h) = if es = 1 ∧ l ≤ h ∧ h ≤ len ∧ len ≤ cs.length then some (.d (.sl ((cs.take h).drop l))) else none := (Eq.refl _).trans rfl
@[go_sem] theorem aslice_pp (len es el : Nat) (z : List D) (c : Bool) (cs : List D) (lo hi : Option Operand) : aslice (.ar len es el z c) E H (.pp cs) lo hi none = aslP len es cs (bound? E lo 0) (bound? E hi len) := by
  cases h1 : bound? E lo 0 <;> cases h2 : bound? E hi len <;> simp [aslice, aslP, h1, h2]
@[go_sem] theorem aslS_some (s : ByteArray) (l h : Nat) : aslS s (some l) (some h) = if l ≤ h ∧ h ≤ s.size then some (.d (.str (s.extract l h))) else none := (Eq.refl _).trans rfl
@[go_sem] theorem aslice_str (z s : ByteArray) (lo hi : Option Operand) : aslice (.sc (.str z)) E H (.d (.str s)) lo hi none = aslS s (bound? E lo 0) (bound? E hi s.size) := by
  cases h1 : bound? E lo 0 <;> cases h2 : bound? E hi s.size <;> simp [aslice, aslS, h1, h2]

end
end Go.Aw
end
