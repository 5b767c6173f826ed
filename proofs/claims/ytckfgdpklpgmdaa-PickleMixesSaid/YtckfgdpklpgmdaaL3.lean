/- The reference: baths; the law's helpers. The bath of the document's examples. The document's examples. What the document's examples say is so. Arguments of the program's types. The reference: acids that are mixed. The law of the mixtures. More arguments of the program's types. -/
import Derived.Test.YtckfgdpklpgmdaaL2
set_option linter.unusedSimpArgs false
set_option linter.unusedVariables false

section
set_option maxRecDepth 100000
namespace Go.Aw
open Go Go.Proofs.Try

theorem c24 (p h : Int) : PC prog 24 [.d (.int .i64 p), .d (.int .i64 h)] (.d (Step.mk p h).d) := by
  refine PC.run (fun _ => false) tt_ok (fn := f24) (rs := [.cell 4 39]) rfl rfl rfl rfl rfl rfl rfl ?_
  simp only [go_sem, Nat.reduceBEq, Nat.reduceEqDiff, Nat.reduceLT, Nat.reduceLeDiff, Nat.reduceAdd, Nat.reduceSub, Nat.reduceMul, reduceCtorEq, Int.reduceToNat, Int.reduceEq, Int.reduceLT, Int.reduceLE, Int.reduceNe, Int.reduceNeg , or_self, or_false, false_or , List.length_map, Bool.or_true, Bool.true_or, Bool.false_or, Bool.or_false, Int.cast_ofNat_Int, Step.d]

theorem c26 (p h : Int) : PC prog 26 [.d (.int .i64 p), .d (.int .i64 h)] (.d (Sp.mk p h).d) := by
  refine PC.run (fun _ => false) tt_ok (fn := f26) (rs := [.cell 4 23]) rfl rfl rfl rfl rfl rfl rfl ?_
  simp only [go_sem, Nat.reduceBEq, Nat.reduceEqDiff, Nat.reduceLT, Nat.reduceLeDiff, Nat.reduceAdd, Nat.reduceSub, Nat.reduceMul, reduceCtorEq, Int.reduceToNat, Int.reduceEq, Int.reduceLT, Int.reduceLE, Int.reduceNe, Int.reduceNeg , or_self, or_false, false_or , List.length_map, Bool.or_true, Bool.true_or, Bool.false_or, Bool.or_false, Int.cast_ofNat_Int, Sp.d]

theorem sized_plates (l : List Plate) : sized 4 (l.map Plate.d) = true := by
  simp [sized, Plate.d, dcells]

theorem c18 (b : Bath) (hb : b.plates.length ≤ 4294967295) : PC prog 18 [.d b.d] (.d b.d) := by
  refine PC.run (fun _ => false) tt_ok (fn := f18) (rs := [.cell 2 26]) rfl rfl rfl rfl rfl rfl rfl ?_
  have hsz := sized_plates b.plates
  have hle : b.plates.length ≤ 4294967296 := by omega
  simp only [go_sem, Nat.reduceBEq, Nat.reduceEqDiff, Nat.reduceLT, Nat.reduceLeDiff, Nat.reduceAdd, Nat.reduceSub, Nat.reduceMul, reduceCtorEq, Int.reduceToNat, Int.reduceEq, Int.reduceLT, Int.reduceLE, Int.reduceNe, Int.reduceNeg , or_self, or_false, false_or , List.length_map, Bool.or_true, Bool.true_or, Bool.false_or, Bool.or_false, Int.cast_ofNat_Int, Bath.d, hsz, hle, List.length_map, List.nil_append, Nat.zero_add]

theorem c35 (l : List Int) (n : Int) (hl : l.length ≤ 4294967296) : PC prog 35 [.d (.sl (l.map (.int .i64))), .d (.int .i64 n)] (.d (.bool (decide (n ∈ l)))) := by
  refine PC.run (fun _ => false) tt_ok (fn := f35) (rs := [.tmp 4]) rfl rfl rfl rfl rfl rfl rfl ?_
  simp only [go_sem, Nat.reduceBEq, Nat.reduceEqDiff, Nat.reduceLT, Nat.reduceLeDiff, Nat.reduceAdd, Nat.reduceSub, Nat.reduceMul, reduceCtorEq, Int.reduceToNat, Int.reduceEq, Int.reduceLT, Int.reduceLE, Int.reduceNe, Int.reduceNeg , or_self, or_false, false_or , List.length_map, Bool.or_true, Bool.true_or, Bool.false_or, Bool.or_false, Int.cast_ofNat_Int]
  refine ALoop.by (S := Nat) (fun i => [(5, .d (.int .i64 i)), (1, .d (.int .i64 n)), (0, .d (.sl (l.map (.int .i64))))]) (fun i => []) (fun i => l.length - i) (fun i => i ≤ l.length ∧ n ∉ l.take i) 0 (by simp) (fun _ h => nomatch h) ⟨Nat.zero_le _, by simp⟩ ?_ ?_
  · exact ForgetTo.same' (by simp) (by simp [EWe, Env.look]) rfl
  rintro i ⟨hi, hx⟩ hn
  refine AWP.run (fun _ => false) tt_ok (fun _ h => nomatch h) (by simp) rfl ?_
  simp only [go_sem, Nat.reduceBEq, Nat.reduceEqDiff, Nat.reduceLT, Nat.reduceLeDiff, Nat.reduceAdd, Nat.reduceSub, Nat.reduceMul, reduceCtorEq, Int.reduceToNat, Int.reduceEq, Int.reduceLT, Int.reduceLE, Int.reduceNe, Int.reduceNeg , or_self, or_false, false_or , List.length_map, Bool.or_true, Bool.true_or, Bool.false_or, Bool.or_false, Int.cast_ofNat_Int]
  refine Br_split (fun hd => ?_) (fun hd => ?_) <;> simp only [go_sem, Nat.reduceBEq, Nat.reduceEqDiff, Nat.reduceLT, Nat.reduceLeDiff, Nat.reduceAdd, Nat.reduceSub, Nat.reduceMul, reduceCtorEq, Int.reduceToNat, Int.reduceEq, Int.reduceLT, Int.reduceLE, Int.reduceNe, Int.reduceNeg , or_self, or_false, false_or , List.length_map, Bool.or_true, Bool.true_or, Bool.false_or, Bool.or_false, Int.cast_ofNat_Int, hd]
  · have hlt : i < l.length := by simpa using hd
    simp only [go_sem, Nat.reduceBEq, Nat.reduceEqDiff, Nat.reduceLT, Nat.reduceLeDiff, Nat.reduceAdd, Nat.reduceSub, Nat.reduceMul, reduceCtorEq, Int.reduceToNat, Int.reduceEq, Int.reduceLT, Int.reduceLE, Int.reduceNe, Int.reduceNeg , or_self, or_false, false_or , List.length_map, Bool.or_true, Bool.true_or, Bool.false_or, Bool.or_false, Int.cast_ofNat_Int, idx_nat, List.getElem?_map, List.getElem?_eq_getElem hlt]
    have hin := List.getElem_mem hlt
    have hst : l.take (i + 1) = l.take i ++ [l[i]] := List.take_succ_eq_append_getElem hlt
    generalize l[i] = x at hin hst
    refine Br_split (fun he => ?_) (fun he => ?_) <;> simp only [go_sem, Nat.reduceBEq, Nat.reduceEqDiff, Nat.reduceLT, Nat.reduceLeDiff, Nat.reduceAdd, Nat.reduceSub, Nat.reduceMul, reduceCtorEq, Int.reduceToNat, Int.reduceEq, Int.reduceLT, Int.reduceLE, Int.reduceNe, Int.reduceNeg , or_self, or_false, false_or , List.length_map, Bool.or_true, Bool.true_or, Bool.false_or, Bool.or_false, Int.cast_ofNat_Int, he]
    · have : x = n := by simpa using he
      subst this
      simp [hin]
    · have hne : ¬ n = x := fun e => by subst e; simp at he
      refine ⟨i + 1, ⟨hlt, by rw [hst]; simp [hx, hne]⟩, by omega, ?_⟩
      exact ForgetTo.same' (by simp) (by simp [EWe, Env.look, w64 (n := (i : Int) + 1) (by omega) (by omega)]) rfl
  · have hie : i = l.length := by simp at hd; omega
    subst hie
    rw [List.take_length] at hx
    simp [hx]

theorem c22 (a b : Bath) (ha : a.plates.length ≤ 4294967296) (hb : b.plates.length ≤ 4294967296) : PC prog 22 [.d a.d, .d b.d] (.d (.bool (decide (a = b)))) := by
  refine PC.run (fun _ => false) tt_ok (fn := f22) (rs := [.tmp 4]) rfl rfl rfl rfl rfl rfl rfl ?_
  simp only [go_sem, Nat.reduceBEq, Nat.reduceEqDiff, Nat.reduceLT, Nat.reduceLeDiff, Nat.reduceAdd, Nat.reduceSub, Nat.reduceMul, reduceCtorEq, Int.reduceToNat, Int.reduceEq, Int.reduceLT, Int.reduceLE, Int.reduceNe, Int.reduceNeg , or_self, or_false, false_or , List.length_map, Bool.or_true, Bool.true_or, Bool.false_or, Bool.or_false, Int.cast_ofNat_Int, Bath.d]
  have hne : ∀ h : ¬ (a.str = b.str ∧ a.plates = b.plates), decide (a = b) = false := fun h => by
    rw [decide_eq_false_iff_not]; intro e; subst e; exact h ⟨rfl, rfl⟩
  refine Br_split (fun h1 => ?_) (fun h1 => ?_) <;> simp only [go_sem, Nat.reduceBEq, Nat.reduceEqDiff, Nat.reduceLT, Nat.reduceLeDiff, Nat.reduceAdd, Nat.reduceSub, Nat.reduceMul, reduceCtorEq, Int.reduceToNat, Int.reduceEq, Int.reduceLT, Int.reduceLE, Int.reduceNe, Int.reduceNeg , or_self, or_false, false_or , List.length_map, Bool.or_true, Bool.true_or, Bool.false_or, Bool.or_false, Int.cast_ofNat_Int, h1]
  · rw [hne]
    rintro ⟨e1, _⟩
    rw [e1] at h1
    simp at h1
  have hstr : a.str = b.str := by
    cases hx : a.str; cases hy : b.str
    rw [hx, hy] at h1
    simpa using h1
  refine Br_split (fun h2 => ?_) (fun h2 => ?_) <;> simp only [go_sem, Nat.reduceBEq, Nat.reduceEqDiff, Nat.reduceLT, Nat.reduceLeDiff, Nat.reduceAdd, Nat.reduceSub, Nat.reduceMul, reduceCtorEq, Int.reduceToNat, Int.reduceEq, Int.reduceLT, Int.reduceLE, Int.reduceNe, Int.reduceNeg , or_self, or_false, false_or , List.length_map, Bool.or_true, Bool.true_or, Bool.false_or, Bool.or_false, Int.cast_ofNat_Int, h1, h2]
  · rw [hne]
    rintro ⟨_, e2⟩
    rw [e2] at h2
    simp at h2
  have hlen : a.plates.length = b.plates.length := by simp at h2; omega
  refine ALoop.by (S := Nat) (fun i => [(5, .d (.int .i64 i)), (3, .ptr 1 0), (2, .ptr 0 0)]) (fun i => [.cells [.d (.int .i64 a.str.lo), .d (.int .i64 a.str.hi), .d (.sl (a.plates.map Plate.d))], .cells [.d (.int .i64 b.str.lo), .d (.int .i64 b.str.hi), .d (.sl (b.plates.map Plate.d))]])
    (fun i => a.plates.length - i) (fun i => i ≤ a.plates.length ∧ a.plates.take i = b.plates.take i) 0 (by simp) (fun _ h => nomatch h) ⟨Nat.zero_le _, rfl⟩ ?_ ?_
  · exact ForgetTo.same' (by simp) (by simp [EWe, Env.look]) rfl
  rintro i ⟨hi, hx⟩ hn
  refine AWP.run (fun _ => false) tt_ok (fun _ h => nomatch h) (by simp) rfl ?_
  simp only [go_sem, Nat.reduceBEq, Nat.reduceEqDiff, Nat.reduceLT, Nat.reduceLeDiff, Nat.reduceAdd, Nat.reduceSub, Nat.reduceMul, reduceCtorEq, Int.reduceToNat, Int.reduceEq, Int.reduceLT, Int.reduceLE, Int.reduceNe, Int.reduceNeg , or_self, or_false, false_or , List.length_map, Bool.or_true, Bool.true_or, Bool.false_or, Bool.or_false, Int.cast_ofNat_Int]
  refine Br_split (fun hd => ?_) (fun hd => ?_) <;> simp only [go_sem, Nat.reduceBEq, Nat.reduceEqDiff, Nat.reduceLT, Nat.reduceLeDiff, Nat.reduceAdd, Nat.reduceSub, Nat.reduceMul, reduceCtorEq, Int.reduceToNat, Int.reduceEq, Int.reduceLT, Int.reduceLE, Int.reduceNe, Int.reduceNeg , or_self, or_false, false_or , List.length_map, Bool.or_true, Bool.true_or, Bool.false_or, Bool.or_false, Int.cast_ofNat_Int, hd]
  · have hlt : i < a.plates.length := by simpa using hd
    have hlt' : i < b.plates.length := by omega
    have hs := take_succ_eq hlt hlt' hx
    have hne2 : a.plates[i] ≠ b.plates[i] → a.plates ≠ b.plates := fun h e => h (by simp [e])
    refine ADrw.treeG (fun _ => false) tt_ok (by kernel_rfl) (fun k => if k = 1 ∨ k = 6 then some .L else some .S) (.ones [0, 1, 2, 3, 4, 5, 6, 7, 8, 9, 10] .done) (by simp) (fun _ h => nomatch h) rfl rfl (by kernel_rfl) ?_
    simp only [go_sem, Nat.reduceBEq, Nat.reduceEqDiff, Nat.reduceLT, Nat.reduceLeDiff, Nat.reduceAdd, Nat.reduceSub, Nat.reduceMul, reduceCtorEq, Int.reduceToNat, Int.reduceEq, Int.reduceLT, Int.reduceLE, Int.reduceNe, Int.reduceNeg , or_self, or_false, false_or , List.length_map, Bool.or_true, Bool.true_or, Bool.false_or, Bool.or_false, Int.cast_ofNat_Int, idx_nat, List.getElem?_map, List.getElem?_eq_getElem hlt, List.getElem?_eq_getElem hlt', Plate.d]
    generalize a.plates[i] = x at hs hne2
    generalize b.plates[i] = y at hs hne2
    refine Br_split (fun he => ?_) (fun he => ?_) <;> simp only [go_sem, Nat.reduceBEq, Nat.reduceEqDiff, Nat.reduceLT, Nat.reduceLeDiff, Nat.reduceAdd, Nat.reduceSub, Nat.reduceMul, reduceCtorEq, Int.reduceToNat, Int.reduceEq, Int.reduceLT, Int.reduceLE, Int.reduceNe, Int.reduceNeg , or_self, or_false, false_or , List.length_map, Bool.or_true, Bool.true_or, Bool.false_or, Bool.or_false, Int.cast_ofNat_Int, he]
    · have hxy : x ≠ y := fun e => by subst e; simp at he
      rw [hne]
      rintro ⟨_, e2⟩
      exact hne2 hxy e2
    · have heq : x = y := by
        obtain ⟨⟨x1, x2⟩, x3, x4⟩ := x
        obtain ⟨⟨y1, y2⟩, y3, y4⟩ := y
        simp at he
        simp [he]
      refine ⟨i + 1, ⟨hlt, hs.2 heq⟩, by omega, ?_⟩
      exact ForgetTo.same' (by simp) (by simp [EWe, Env.look, w64 (n := (i : Int) + 1) (by omega) (by omega)]) rfl
  · have hlt : ¬ i < a.plates.length := by simpa using hd
    rw [List.take_of_length_le (by omega), List.take_of_length_le (by omega)] at hx
    have : a = b := by
      obtain ⟨x, y⟩ := a
      obtain ⟨x', y'⟩ := b
      simp only at hstr hx
      rw [hstr, hx]
    simp [this]

theorem valid_iff (s : Sp) (a b : Int) : (decide (s.lo ≥ a) && decide (s.lo ≤ s.hi) && decide (s.hi ≤ b)) = (within a b [s.lo, s.hi] && decide (s.lo ≤ s.hi)) := by
  rw [Bool.eq_iff_iff]
  simp [within]
  omega

theorem in_iff (n a b : Int) : (decide (n ≥ a) && decide (n ≤ b)) = within a b [n] := by
  rw [Bool.eq_iff_iff]
  simp [within]

theorem c21 (b : Bath) (hb : b.plates.length ≤ 4294967296) : PC prog 21 [.d b.d] (.d (.int .i64 (checkP b))) := by
  refine PC.run (fun _ => false) tt_ok (fn := f21) (rs := [.tmp 2]) rfl rfl rfl rfl rfl rfl rfl ?_
  simp only [go_sem, Nat.reduceBEq, Nat.reduceEqDiff, Nat.reduceLT, Nat.reduceLeDiff, Nat.reduceAdd, Nat.reduceSub, Nat.reduceMul, reduceCtorEq, Int.reduceToNat, Int.reduceEq, Int.reduceLT, Int.reduceLE, Int.reduceNe, Int.reduceNeg , or_self, or_false, false_or , List.length_map, Bool.or_true, Bool.true_or, Bool.false_or, Bool.or_false, Int.cast_ofNat_Int, Bath.d]
  refine (c47 b.str 1 40).call rfl rfl rfl ?_
  rw [valid_iff]
  simp only [go_sem, Nat.reduceBEq, Nat.reduceEqDiff, Nat.reduceLT, Nat.reduceLeDiff, Nat.reduceAdd, Nat.reduceSub, Nat.reduceMul, reduceCtorEq, Int.reduceToNat, Int.reduceEq, Int.reduceLT, Int.reduceLE, Int.reduceNe, Int.reduceNeg , or_self, or_false, false_or , List.length_map, Bool.or_true, Bool.true_or, Bool.false_or, Bool.or_false, Int.cast_ofNat_Int]
  refine Br_split (fun h1 => ?_) (fun h1 => ?_) <;> simp only [go_sem, Nat.reduceBEq, Nat.reduceEqDiff, Nat.reduceLT, Nat.reduceLeDiff, Nat.reduceAdd, Nat.reduceSub, Nat.reduceMul, reduceCtorEq, Int.reduceToNat, Int.reduceEq, Int.reduceLT, Int.reduceLE, Int.reduceNe, Int.reduceNeg , or_self, or_false, false_or , List.length_map, Bool.or_true, Bool.true_or, Bool.false_or, Bool.or_false, Int.cast_ofNat_Int, h1]
  · simp only [checkP, h1, if_true]
  refine Br_split (fun h2 => ?_) (fun h2 => ?_) <;> simp only [go_sem, Nat.reduceBEq, Nat.reduceEqDiff, Nat.reduceLT, Nat.reduceLeDiff, Nat.reduceAdd, Nat.reduceSub, Nat.reduceMul, reduceCtorEq, Int.reduceToNat, Int.reduceEq, Int.reduceLT, Int.reduceLE, Int.reduceNe, Int.reduceNeg , or_self, or_false, false_or , List.length_map, Bool.or_true, Bool.true_or, Bool.false_or, Bool.or_false, Int.cast_ofNat_Int, h1, h2]
  · have : b.plates.length > 5 := by simp at h2; omega
    simp only [checkP, h1, if_pos this]
    simp
  have h5 : ¬ b.plates.length > 5 := by simp at h2; omega
  have hch : checkP b = if b.plates.any badPlate = true then 2 else 0 := by
    simp only [checkP, h1, if_neg h5]
    simp
  rw [hch]
  refine ALoop.by (S := Nat) (fun i => [(3, .d (.int .i64 i)), (1, .ptr 0 0)]) (fun i => [.cells [.d (.int .i64 b.str.lo), .d (.int .i64 b.str.hi), .d (.sl (b.plates.map Plate.d))]])
    (fun i => b.plates.length - i) (fun i => i ≤ b.plates.length ∧ (b.plates.take i).any badPlate = false) 0 (by simp) (fun _ h => nomatch h) ⟨Nat.zero_le _, rfl⟩ ?_ ?_
  · exact ForgetTo.same' (by simp) (by simp [EWe, Env.look]) rfl
  rintro i ⟨hi, hx⟩ hn
  refine AWP.run (fun _ => false) tt_ok (fun _ h => nomatch h) (by simp) rfl ?_
  simp only [go_sem, Nat.reduceBEq, Nat.reduceEqDiff, Nat.reduceLT, Nat.reduceLeDiff, Nat.reduceAdd, Nat.reduceSub, Nat.reduceMul, reduceCtorEq, Int.reduceToNat, Int.reduceEq, Int.reduceLT, Int.reduceLE, Int.reduceNe, Int.reduceNeg , or_self, or_false, false_or , List.length_map, Bool.or_true, Bool.true_or, Bool.false_or, Bool.or_false, Int.cast_ofNat_Int]
  refine Br_split (fun hd => ?_) (fun hd => ?_) <;> simp only [go_sem, Nat.reduceBEq, Nat.reduceEqDiff, Nat.reduceLT, Nat.reduceLeDiff, Nat.reduceAdd, Nat.reduceSub, Nat.reduceMul, reduceCtorEq, Int.reduceToNat, Int.reduceEq, Int.reduceLT, Int.reduceLE, Int.reduceNe, Int.reduceNeg , or_self, or_false, false_or , List.length_map, Bool.or_true, Bool.true_or, Bool.false_or, Bool.or_false, Int.cast_ofNat_Int, hd]
  · have hlt : i < b.plates.length := by simpa using hd
    have hst : (b.plates.take (i + 1)).any badPlate = badPlate b.plates[i] := by
      rw [List.take_add_one, List.getElem?_eq_getElem hlt, List.any_append, hx]; simp
    have hmem : badPlate b.plates[i] = true → b.plates.any badPlate = true := fun h => List.any_eq_true.2 ⟨_, List.getElem_mem hlt, h⟩
    simp only [go_sem, Nat.reduceBEq, Nat.reduceEqDiff, Nat.reduceLT, Nat.reduceLeDiff, Nat.reduceAdd, Nat.reduceSub, Nat.reduceMul, reduceCtorEq, Int.reduceToNat, Int.reduceEq, Int.reduceLT, Int.reduceLE, Int.reduceNe, Int.reduceNeg , or_self, or_false, false_or , List.length_map, Bool.or_true, Bool.true_or, Bool.false_or, Bool.or_false, Int.cast_ofNat_Int, idx_nat, List.getElem?_map, List.getElem?_eq_getElem hlt, Plate.d]
    generalize b.plates[i] = p at hst hmem
    refine (c47 p.rust 0 600).call rfl rfl rfl ?_
    rw [valid_iff]
    simp only [go_sem, Nat.reduceBEq, Nat.reduceEqDiff, Nat.reduceLT, Nat.reduceLeDiff, Nat.reduceAdd, Nat.reduceSub, Nat.reduceMul, reduceCtorEq, Int.reduceToNat, Int.reduceEq, Int.reduceLT, Int.reduceLE, Int.reduceNe, Int.reduceNeg , or_self, or_false, false_or , List.length_map, Bool.or_true, Bool.true_or, Bool.false_or, Bool.or_false, Int.cast_ofNat_Int, hd]
    refine Br_split (fun g1 => ?_) (fun g1 => ?_) <;> simp only [go_sem, Nat.reduceBEq, Nat.reduceEqDiff, Nat.reduceLT, Nat.reduceLeDiff, Nat.reduceAdd, Nat.reduceSub, Nat.reduceMul, reduceCtorEq, Int.reduceToNat, Int.reduceEq, Int.reduceLT, Int.reduceLE, Int.reduceNe, Int.reduceNeg , or_self, or_false, false_or , List.length_map, Bool.or_true, Bool.true_or, Bool.false_or, Bool.or_false, Int.cast_ofNat_Int, hd, g1]
    · rw [if_pos (hmem (by simp only [badPlate, g1, Bool.true_or]))]
    refine (c34 p.takes 0 10).call rfl rfl rfl ?_
    rw [in_iff]
    simp only [go_sem, Nat.reduceBEq, Nat.reduceEqDiff, Nat.reduceLT, Nat.reduceLeDiff, Nat.reduceAdd, Nat.reduceSub, Nat.reduceMul, reduceCtorEq, Int.reduceToNat, Int.reduceEq, Int.reduceLT, Int.reduceLE, Int.reduceNe, Int.reduceNeg , or_self, or_false, false_or , List.length_map, Bool.or_true, Bool.true_or, Bool.false_or, Bool.or_false, Int.cast_ofNat_Int, hd, g1]
    refine Br_split (fun g2 => ?_) (fun g2 => ?_) <;> simp only [go_sem, Nat.reduceBEq, Nat.reduceEqDiff, Nat.reduceLT, Nat.reduceLeDiff, Nat.reduceAdd, Nat.reduceSub, Nat.reduceMul, reduceCtorEq, Int.reduceToNat, Int.reduceEq, Int.reduceLT, Int.reduceLE, Int.reduceNe, Int.reduceNeg , or_self, or_false, false_or , List.length_map, Bool.or_true, Bool.true_or, Bool.false_or, Bool.or_false, Int.cast_ofNat_Int, hd, g1, g2]
    · rw [if_pos (hmem (by simp only [badPlate, g1, g2, Bool.true_or, Bool.or_true]))]
    refine (c34 p.thin 0 300).call rfl rfl rfl ?_
    rw [in_iff]
    simp only [go_sem, Nat.reduceBEq, Nat.reduceEqDiff, Nat.reduceLT, Nat.reduceLeDiff, Nat.reduceAdd, Nat.reduceSub, Nat.reduceMul, reduceCtorEq, Int.reduceToNat, Int.reduceEq, Int.reduceLT, Int.reduceLE, Int.reduceNe, Int.reduceNeg , or_self, or_false, false_or , List.length_map, Bool.or_true, Bool.true_or, Bool.false_or, Bool.or_false, Int.cast_ofNat_Int, hd, g1, g2]
    refine Br_split (fun g3 => ?_) (fun g3 => ?_) <;> simp only [go_sem, Nat.reduceBEq, Nat.reduceEqDiff, Nat.reduceLT, Nat.reduceLeDiff, Nat.reduceAdd, Nat.reduceSub, Nat.reduceMul, reduceCtorEq, Int.reduceToNat, Int.reduceEq, Int.reduceLT, Int.reduceLE, Int.reduceNe, Int.reduceNeg , or_self, or_false, false_or , List.length_map, Bool.or_true, Bool.true_or, Bool.false_or, Bool.or_false, Int.cast_ofNat_Int, hd, g1, g2, g3]
    · rw [if_pos (hmem (by simp only [badPlate, g1, g2, g3, Bool.or_true]))]
    · refine ⟨i + 1, ⟨hlt, by rw [hst]; simp only [badPlate, g1, g2, g3, Bool.or_false]⟩, by omega, ?_⟩
      refine ForgetTo.drop (H0 := [_]) (Y := [_]) (Nat.zero_le _) rfl (by simp [BBs, BB, VBs, VB]) ?_
      simp [EWp, Env.look, pubV, w64 (n := (i : Int) + 1) (by omega) (by omega)]
  · have hie : i = b.plates.length := by simp at hd; omega
    subst hie
    rw [List.take_length] at hx
    simp [hx]
end Go.Aw
end

section
set_option maxRecDepth 100000
namespace Go.Aw
open Go Go.Proofs.Try

def exB (l : List Int) : Bath := ⟨⟨10, 12⟩, [⟨⟨40, 44⟩, l.getD 0 1, 30⟩, ⟨⟨50, 60⟩, l.getD 1 2, 40⟩, ⟨⟨20, 22⟩, l.getD 2 1, 16⟩]⟩

theorem exB_set (l : List Int) (hl : l.length ≤ 2) {i : Nat} (hi : i < l.length) : ((exB (l.take i)).plates.map Plate.d).set i (.agg [.int .i64 ((exB []).pl i).rust.lo, .int .i64 ((exB []).pl i).rust.hi, .int .i64 l[i], .int .i64 ((exB []).pl i).thin]) = (exB (l.take (i + 1))).plates.map Plate.d := by
  match l, hl with
  | [], _ => simp at hi
  | [a], _ =>
    obtain rfl : i = 0 := by simp at hi; omega
    rfl
  | [a, b], _ =>
    have : i = 0 ∨ i = 1 := by simp at hi; omega
    rcases this with rfl | rfl <;> rfl

theorem exB_get (l : List Int) (hl : l.length ≤ 2) {i : Nat} (hi : i < l.length) : ((exB (l.take i)).plates.map Plate.d)[i]? = some (.agg [.int .i64 ((exB []).pl i).rust.lo, .int .i64 ((exB []).pl i).rust.hi, .int .i64 ((exB []).pl i).takes, .int .i64 ((exB []).pl i).thin]) := by
  match l, hl with
  | [], _ => simp at hi
  | [a], _ =>
    obtain rfl : i = 0 := by simp at hi; omega
    rfl
  | [a, b], _ =>
    have : i = 0 ∨ i = 1 := by simp at hi; omega
    rcases this with rfl | rfl <;> rfl

theorem c71 (l : List Int) (hl : l.length ≤ 2) : PC prog 71 [.d (.sl (l.map (.int .i64)))] (.d (exB l).d) := by
  refine PC.run (fun k => k == 12) tt_ok (fn := f71) (rs := [.cell 2 26]) rfl rfl rfl rfl rfl rfl rfl ?_
  simp only [go_sem, Nat.reduceBEq, Nat.reduceEqDiff, Nat.reduceLT, Nat.reduceLeDiff, Nat.reduceAdd, Nat.reduceSub, Nat.reduceMul, reduceCtorEq, Int.reduceToNat, Int.reduceEq, Int.reduceLT, Int.reduceLE, Int.reduceNe, Int.reduceNeg , or_self, or_false, false_or , List.length_map, Bool.or_true, Bool.true_or, Bool.false_or, Bool.or_false, Int.cast_ofNat_Int]
  refine (c26 10 12).call rfl rfl rfl ?_
  simp only [go_sem, Nat.reduceBEq, Nat.reduceEqDiff, Nat.reduceLT, Nat.reduceLeDiff, Nat.reduceAdd, Nat.reduceSub, Nat.reduceMul, reduceCtorEq, Int.reduceToNat, Int.reduceEq, Int.reduceLT, Int.reduceLE, Int.reduceNe, Int.reduceNeg , or_self, or_false, false_or , List.length_map, Bool.or_true, Bool.true_or, Bool.false_or, Bool.or_false, Int.cast_ofNat_Int]
  refine (c26 40 44).call rfl rfl rfl ?_
  simp only [go_sem, Nat.reduceBEq, Nat.reduceEqDiff, Nat.reduceLT, Nat.reduceLeDiff, Nat.reduceAdd, Nat.reduceSub, Nat.reduceMul, reduceCtorEq, Int.reduceToNat, Int.reduceEq, Int.reduceLT, Int.reduceLE, Int.reduceNe, Int.reduceNeg , or_self, or_false, false_or , List.length_map, Bool.or_true, Bool.true_or, Bool.false_or, Bool.or_false, Int.cast_ofNat_Int, Sp.d]
  refine (c26 50 60).call rfl rfl rfl ?_
  simp only [go_sem, Nat.reduceBEq, Nat.reduceEqDiff, Nat.reduceLT, Nat.reduceLeDiff, Nat.reduceAdd, Nat.reduceSub, Nat.reduceMul, reduceCtorEq, Int.reduceToNat, Int.reduceEq, Int.reduceLT, Int.reduceLE, Int.reduceNe, Int.reduceNeg , or_self, or_false, false_or , List.length_map, Bool.or_true, Bool.true_or, Bool.false_or, Bool.or_false, Int.cast_ofNat_Int, Sp.d]
  refine (c26 20 22).call rfl rfl rfl ?_
  simp only [go_sem, Nat.reduceBEq, Nat.reduceEqDiff, Nat.reduceLT, Nat.reduceLeDiff, Nat.reduceAdd, Nat.reduceSub, Nat.reduceMul, reduceCtorEq, Int.reduceToNat, Int.reduceEq, Int.reduceLT, Int.reduceLE, Int.reduceNe, Int.reduceNeg , or_self, or_false, false_or , List.length_map, Bool.or_true, Bool.true_or, Bool.false_or, Bool.or_false, Int.cast_ofNat_Int, Sp.d]
  refine ALoop.by (S := Nat) (fun i => [(4, .d (.int .i64 i)), (3, .ptr 2 0), (2, .ptr 0 0), (0, .d (.sl (l.map (.int .i64))))])
    (fun i => [.cells [.d (.int .i64 0), .d (.int .i64 0), .d (.sl [])], .arr 4 false ((exB (l.take i)).plates.map Plate.d), .cells [.d (.int .i64 10), .d (.int .i64 12), .ref 1 3 0 3]]) (fun i => l.length - i) (fun i => i ≤ l.length) 0 (by simp) (fun _ h => nomatch h) (Nat.zero_le _) ?_ ?_
  · exact ForgetTo.same' (by simp) (by simp [EWe, Env.look]) (by simp [exB, Plate.d])
  rintro i hi hn
  refine AWP.run (fun _ => false) tt_ok (fun _ h => nomatch h) (by simp) rfl ?_
  simp only [go_sem, Nat.reduceBEq, Nat.reduceEqDiff, Nat.reduceLT, Nat.reduceLeDiff, Nat.reduceAdd, Nat.reduceSub, Nat.reduceMul, reduceCtorEq, Int.reduceToNat, Int.reduceEq, Int.reduceLT, Int.reduceLE, Int.reduceNe, Int.reduceNeg , or_self, or_false, false_or , List.length_map, Bool.or_true, Bool.true_or, Bool.false_or, Bool.or_false, Int.cast_ofNat_Int]
  refine Br_split (fun hd => ?_) (fun hd => ?_) <;> simp only [go_sem, Nat.reduceBEq, Nat.reduceEqDiff, Nat.reduceLT, Nat.reduceLeDiff, Nat.reduceAdd, Nat.reduceSub, Nat.reduceMul, reduceCtorEq, Int.reduceToNat, Int.reduceEq, Int.reduceLT, Int.reduceLE, Int.reduceNe, Int.reduceNeg , or_self, or_false, false_or , List.length_map, Bool.or_true, Bool.true_or, Bool.false_or, Bool.or_false, Int.cast_ofNat_Int, hd]
  · have hlt : i < l.length := by simpa using hd
    have hix : idx? (l.map (D.int .i64)) (i : Int) = some (.int .i64 l[i]) := by simp [idx?, List.getElem?_eq_getElem hlt]
    have hget := exB_get l hl hlt
    have hset := exB_set l hl hlt
    have hlen : ((exB (l.take i)).plates.map Plate.d).length = 3 := rfl
    have c1 : (0 : Int) ≤ (i : Int) := by omega
    have c2 : (i : Int) < 3 := by omega
    generalize (exB (l.take i)).plates.map Plate.d = ps at hget hset hlen
    generalize l[i] = x at hix hset
    refine ADrw.treeG (fun _ => false) tt_ok (by kernel_rfl) (fun k => if k = 1 ∨ k = 6 ∨ k = 7 then some .L else if k = 9 then some .W else some .S) (.ones [0, 1, 2, 3, 4, 5, 6, 7, 8, 9] .done) (by simp) (fun _ h => nomatch h) rfl rfl (by kernel_rfl) ?_
    simp only [go_sem, Nat.reduceBEq, Nat.reduceEqDiff, Nat.reduceLT, Nat.reduceLeDiff, Nat.reduceAdd, Nat.reduceSub, Nat.reduceMul, reduceCtorEq, Int.reduceToNat, Int.reduceEq, Int.reduceLT, Int.reduceLE, Int.reduceNe, Int.reduceNeg , or_self, or_false, false_or , List.length_map, Bool.or_true, Bool.true_or, Bool.false_or, Bool.or_false, Int.cast_ofNat_Int, hix, hget, hlen, c1, c2, Int.toNat_natCast, hset]
    refine ⟨i + 1, hlt, by omega, ?_⟩
    exact ForgetTo.same' (by simp) (by simp [EWe, Env.look, w64 (n := (i : Int) + 1) (by omega) (by omega)]) rfl
  · have hie : i = l.length := by simp at hd; omega
    subst hie
    rw [List.take_length]
    have hlen : (exB l).plates.length = 3 := rfl
    have htk : ((exB l).plates.map Plate.d).take 3 = (exB l).plates.map Plate.d := rfl
    simp only [go_sem, Nat.reduceBEq, Nat.reduceEqDiff, Nat.reduceLT, Nat.reduceLeDiff, Nat.reduceAdd, Nat.reduceSub, Nat.reduceMul, reduceCtorEq, Int.reduceToNat, Int.reduceEq, Int.reduceLT, Int.reduceLE, Int.reduceNe, Int.reduceNeg , or_self, or_false, false_or , List.length_map, Bool.or_true, Bool.true_or, Bool.false_or, Bool.or_false, Int.cast_ofNat_Int, hlen, htk, List.length_map]
    simp [Bath.d, exB]
end Go.Aw
end

section
set_option maxRecDepth 100000
namespace Go.Aw
open Go Go.Proofs.Try

theorem ex_strengths : strengthsP (exB []) [0, 1] = ([⟨10, 12⟩, ⟨9, 11⟩, ⟨7, 9⟩], 0) := by decide +kernel
theorem ex_out : outP (exB []) [⟨0, 4⟩, ⟨1, 7⟩] = ([[1, 2], [2]], 0) := by decide +kernel
theorem ex_hours : hoursP (exB []) [⟨0, 5⟩] 1 = (⟨7, 8⟩, 0) := by decide +kernel
theorem ex_order : orderP (exB []) = ([⟨0, 5⟩, ⟨1, 7⟩, ⟨2, 4⟩], 0) := by decide +kernel
theorem ex_check : checkP (exB [8, 8]) = 0 := by decide +kernel
theorem ex_fillings : fillFirst (exB [8, 8]) = some ([0, 1, 0], [5, 2]) := by decide +kernel
theorem ex_mix : mixV [⟨⟨30, 30⟩, 10⟩, ⟨⟨12, 15⟩, 20⟩] = ⟨18, 20⟩ := by decide +kernel
theorem ex_acids : acidsP [⟨⟨30, 30⟩, 10⟩, ⟨⟨12, 15⟩, 20⟩] = 0 := by decide +kernel
theorem ex_water : waterP [⟨⟨30, 30⟩, 10⟩] ⟨10, 12⟩ = (⟨15, 20⟩, 0) := by decide +kernel
theorem ex_logE : logE (exB []) [⟨⟨0, 4⟩, 1⟩] = 0 := by decide +kernel
theorem ex_was : wasO ⟨exB [], [⟨⟨0, 4⟩, 1⟩], 0⟩ = some (0, 0, [⟨41, 44⟩, ⟨50, 60⟩, ⟨20, 22⟩]) := by decide +kernel
theorem ex_logE2 : logE (exB []) [⟨⟨0, 24⟩, 2⟩, ⟨⟨2, 3⟩, 2⟩] = 0 := by decide +kernel
theorem ex_wrong : wrongF (exB []) [⟨⟨0, 24⟩, 2⟩, ⟨⟨2, 3⟩, 2⟩] = some ([0], 1) := by decide +kernel
theorem ex_missing : missP ⟨100, 100⟩ [⟨20, 25⟩, ⟨30, 30⟩] ⟨40, 44⟩ = (⟨1, 10⟩, 0) := by decide +kernel
end Go.Aw
end

section
set_option maxRecDepth 100000
namespace Go.Aw
open Go Go.Proofs.Try

theorem c17 : PC prog 17 [] (.d (.bool true)) := by
  refine PC.run (fun _ => false) tt_ok (fn := f17) (rs := [.tmp 0]) rfl rfl rfl rfl rfl rfl rfl ?_
  simp only [go_sem, Nat.reduceBEq, Nat.reduceEqDiff, Nat.reduceLT, Nat.reduceLeDiff, Nat.reduceAdd, Nat.reduceSub, Nat.reduceMul, reduceCtorEq, Int.reduceToNat, Int.reduceEq, Int.reduceLT, Int.reduceLE, Int.reduceNe, Int.reduceNeg , or_self, or_false, false_or , List.length_map, Bool.or_true, Bool.true_or, Bool.false_or, Bool.or_false, Int.cast_ofNat_Int]
  refine (c71 [] (by simp)).call rfl rfl rfl ?_
  simp only [go_sem, Nat.reduceBEq, Nat.reduceEqDiff, Nat.reduceLT, Nat.reduceLeDiff, Nat.reduceAdd, Nat.reduceSub, Nat.reduceMul, reduceCtorEq, Int.reduceToNat, Int.reduceEq, Int.reduceLT, Int.reduceLE, Int.reduceNe, Int.reduceNeg , or_self, or_false, false_or , List.length_map, Bool.or_true, Bool.true_or, Bool.false_or, Bool.or_false, Int.cast_ofNat_Int]
  refine (c20 (exB []) [0, 1] (by simp [exB]) (by simp)).call rfl rfl rfl ?_
  rw [ex_strengths]
  simp only [go_sem, Nat.reduceBEq, Nat.reduceEqDiff, Nat.reduceLT, Nat.reduceLeDiff, Nat.reduceAdd, Nat.reduceSub, Nat.reduceMul, reduceCtorEq, Int.reduceToNat, Int.reduceEq, Int.reduceLT, Int.reduceLE, Int.reduceNe, Int.reduceNeg , or_self, or_false, false_or , List.length_map, Bool.or_true, Bool.true_or, Bool.false_or, Bool.or_false, Int.cast_ofNat_Int]
  refine (c71 [] (by simp)).call rfl rfl rfl ?_
  simp only [go_sem, Nat.reduceBEq, Nat.reduceEqDiff, Nat.reduceLT, Nat.reduceLeDiff, Nat.reduceAdd, Nat.reduceSub, Nat.reduceMul, reduceCtorEq, Int.reduceToNat, Int.reduceEq, Int.reduceLT, Int.reduceLE, Int.reduceNe, Int.reduceNeg , or_self, or_false, false_or , List.length_map, Bool.or_true, Bool.true_or, Bool.false_or, Bool.or_false, Int.cast_ofNat_Int]
  refine (c24 0 4).call rfl rfl rfl ?_
  simp only [go_sem, Nat.reduceBEq, Nat.reduceEqDiff, Nat.reduceLT, Nat.reduceLeDiff, Nat.reduceAdd, Nat.reduceSub, Nat.reduceMul, reduceCtorEq, Int.reduceToNat, Int.reduceEq, Int.reduceLT, Int.reduceLE, Int.reduceNe, Int.reduceNeg , or_self, or_false, false_or , List.length_map, Bool.or_true, Bool.true_or, Bool.false_or, Bool.or_false, Int.cast_ofNat_Int]
  refine (c24 1 7).call rfl rfl rfl ?_
  simp only [go_sem, Nat.reduceBEq, Nat.reduceEqDiff, Nat.reduceLT, Nat.reduceLeDiff, Nat.reduceAdd, Nat.reduceSub, Nat.reduceMul, reduceCtorEq, Int.reduceToNat, Int.reduceEq, Int.reduceLT, Int.reduceLE, Int.reduceNe, Int.reduceNeg , or_self, or_false, false_or , List.length_map, Bool.or_true, Bool.true_or, Bool.false_or, Bool.or_false, Int.cast_ofNat_Int]
  refine (c28 (exB []) [⟨0, 4⟩, ⟨1, 7⟩] (by simp [exB]) (by simp)).call rfl rfl rfl ?_
  rw [ex_out]
  simp only [go_sem, Nat.reduceBEq, Nat.reduceEqDiff, Nat.reduceLT, Nat.reduceLeDiff, Nat.reduceAdd, Nat.reduceSub, Nat.reduceMul, reduceCtorEq, Int.reduceToNat, Int.reduceEq, Int.reduceLT, Int.reduceLE, Int.reduceNe, Int.reduceNeg , or_self, or_false, false_or , List.length_map, Bool.or_true, Bool.true_or, Bool.false_or, Bool.or_false, Int.cast_ofNat_Int]
  refine (c71 [] (by simp)).call rfl rfl rfl ?_
  simp only [go_sem, Nat.reduceBEq, Nat.reduceEqDiff, Nat.reduceLT, Nat.reduceLeDiff, Nat.reduceAdd, Nat.reduceSub, Nat.reduceMul, reduceCtorEq, Int.reduceToNat, Int.reduceEq, Int.reduceLT, Int.reduceLE, Int.reduceNe, Int.reduceNeg , or_self, or_false, false_or , List.length_map, Bool.or_true, Bool.true_or, Bool.false_or, Bool.or_false, Int.cast_ofNat_Int]
  refine (c24 0 5).call rfl rfl rfl ?_
  simp only [go_sem, Nat.reduceBEq, Nat.reduceEqDiff, Nat.reduceLT, Nat.reduceLeDiff, Nat.reduceAdd, Nat.reduceSub, Nat.reduceMul, reduceCtorEq, Int.reduceToNat, Int.reduceEq, Int.reduceLT, Int.reduceLE, Int.reduceNe, Int.reduceNeg , or_self, or_false, false_or , List.length_map, Bool.or_true, Bool.true_or, Bool.false_or, Bool.or_false, Int.cast_ofNat_Int]
  refine (c33 (exB []) [⟨0, 5⟩] 1 (by simp [exB]) (by simp)).call rfl rfl rfl ?_
  rw [ex_hours]
  simp only [go_sem, Nat.reduceBEq, Nat.reduceEqDiff, Nat.reduceLT, Nat.reduceLeDiff, Nat.reduceAdd, Nat.reduceSub, Nat.reduceMul, reduceCtorEq, Int.reduceToNat, Int.reduceEq, Int.reduceLT, Int.reduceLE, Int.reduceNe, Int.reduceNeg , or_self, or_false, false_or , List.length_map, Bool.or_true, Bool.true_or, Bool.false_or, Bool.or_false, Int.cast_ofNat_Int, Sp.d]
  refine (c71 [] (by simp)).call rfl rfl rfl ?_
  simp only [go_sem, Nat.reduceBEq, Nat.reduceEqDiff, Nat.reduceLT, Nat.reduceLeDiff, Nat.reduceAdd, Nat.reduceSub, Nat.reduceMul, reduceCtorEq, Int.reduceToNat, Int.reduceEq, Int.reduceLT, Int.reduceLE, Int.reduceNe, Int.reduceNeg , or_self, or_false, false_or , List.length_map, Bool.or_true, Bool.true_or, Bool.false_or, Bool.or_false, Int.cast_ofNat_Int]
  refine (c37 (exB []) (by simp [exB])).call rfl rfl rfl ?_
  rw [ex_order]
  simp only [go_sem, Nat.reduceBEq, Nat.reduceEqDiff, Nat.reduceLT, Nat.reduceLeDiff, Nat.reduceAdd, Nat.reduceSub, Nat.reduceMul, reduceCtorEq, Int.reduceToNat, Int.reduceEq, Int.reduceLT, Int.reduceLE, Int.reduceNe, Int.reduceNeg , or_self, or_false, false_or , List.length_map, Bool.or_true, Bool.true_or, Bool.false_or, Bool.or_false, Int.cast_ofNat_Int, lv]
  refine (c71 [8, 8] (by simp)).call rfl rfl rfl ?_
  simp only [go_sem, Nat.reduceBEq, Nat.reduceEqDiff, Nat.reduceLT, Nat.reduceLeDiff, Nat.reduceAdd, Nat.reduceSub, Nat.reduceMul, reduceCtorEq, Int.reduceToNat, Int.reduceEq, Int.reduceLT, Int.reduceLE, Int.reduceNe, Int.reduceNeg , or_self, or_false, false_or , List.length_map, Bool.or_true, Bool.true_or, Bool.false_or, Bool.or_false, Int.cast_ofNat_Int]
  have hfv : fillingsV (exB [8, 8]) = .tup [.d (.sl (natsD [0, 1, 0])), .d (.int .i64 0)] := by simp only [fillingsV, ex_check, ex_fillings, if_true]
  refine (c38 (exB [8, 8]) (by simp [exB])).call rfl rfl (by rw [hfv]; rfl) ?_
  rw [hfv]
  simp only [go_sem, Nat.reduceBEq, Nat.reduceEqDiff, Nat.reduceLT, Nat.reduceLeDiff, Nat.reduceAdd, Nat.reduceSub, Nat.reduceMul, reduceCtorEq, Int.reduceToNat, Int.reduceEq, Int.reduceLT, Int.reduceLE, Int.reduceNe, Int.reduceNeg , or_self, or_false, false_or , List.length_map, Bool.or_true, Bool.true_or, Bool.false_or, Bool.or_false, Int.cast_ofNat_Int]
  refine (c26 30 30).call rfl rfl rfl ?_
  simp only [go_sem, Nat.reduceBEq, Nat.reduceEqDiff, Nat.reduceLT, Nat.reduceLeDiff, Nat.reduceAdd, Nat.reduceSub, Nat.reduceMul, reduceCtorEq, Int.reduceToNat, Int.reduceEq, Int.reduceLT, Int.reduceLE, Int.reduceNe, Int.reduceNeg , or_self, or_false, false_or , List.length_map, Bool.or_true, Bool.true_or, Bool.false_or, Bool.or_false, Int.cast_ofNat_Int, Sp.d]
  refine (c26 12 15).call rfl rfl rfl ?_
  simp only [go_sem, Nat.reduceBEq, Nat.reduceEqDiff, Nat.reduceLT, Nat.reduceLeDiff, Nat.reduceAdd, Nat.reduceSub, Nat.reduceMul, reduceCtorEq, Int.reduceToNat, Int.reduceEq, Int.reduceLT, Int.reduceLE, Int.reduceNe, Int.reduceNeg , or_self, or_false, false_or , List.length_map, Bool.or_true, Bool.true_or, Bool.false_or, Bool.or_false, Int.cast_ofNat_Int, Sp.d]
  refine (c43 [⟨⟨30, 30⟩, 10⟩, ⟨⟨12, 15⟩, 20⟩] (by simp)).call rfl rfl rfl ?_
  rw [ex_mix, ex_acids]
  simp only [go_sem, Nat.reduceBEq, Nat.reduceEqDiff, Nat.reduceLT, Nat.reduceLeDiff, Nat.reduceAdd, Nat.reduceSub, Nat.reduceMul, reduceCtorEq, Int.reduceToNat, Int.reduceEq, Int.reduceLT, Int.reduceLE, Int.reduceNe, Int.reduceNeg , or_self, or_false, false_or , List.length_map, Bool.or_true, Bool.true_or, Bool.false_or, Bool.or_false, Int.cast_ofNat_Int, Sp.d]
  refine (c26 30 30).call rfl rfl rfl ?_
  simp only [go_sem, Nat.reduceBEq, Nat.reduceEqDiff, Nat.reduceLT, Nat.reduceLeDiff, Nat.reduceAdd, Nat.reduceSub, Nat.reduceMul, reduceCtorEq, Int.reduceToNat, Int.reduceEq, Int.reduceLT, Int.reduceLE, Int.reduceNe, Int.reduceNeg , or_self, or_false, false_or , List.length_map, Bool.or_true, Bool.true_or, Bool.false_or, Bool.or_false, Int.cast_ofNat_Int, Sp.d]
  refine (c26 10 12).call rfl rfl rfl ?_
  simp only [go_sem, Nat.reduceBEq, Nat.reduceEqDiff, Nat.reduceLT, Nat.reduceLeDiff, Nat.reduceAdd, Nat.reduceSub, Nat.reduceMul, reduceCtorEq, Int.reduceToNat, Int.reduceEq, Int.reduceLT, Int.reduceLE, Int.reduceNe, Int.reduceNeg , or_self, or_false, false_or , List.length_map, Bool.or_true, Bool.true_or, Bool.false_or, Bool.or_false, Int.cast_ofNat_Int]
  refine (c44 [⟨⟨30, 30⟩, 10⟩] ⟨10, 12⟩ (by simp)).call rfl rfl rfl ?_
  rw [ex_water]
  simp only [go_sem, Nat.reduceBEq, Nat.reduceEqDiff, Nat.reduceLT, Nat.reduceLeDiff, Nat.reduceAdd, Nat.reduceSub, Nat.reduceMul, reduceCtorEq, Int.reduceToNat, Int.reduceEq, Int.reduceLT, Int.reduceLE, Int.reduceNe, Int.reduceNeg , or_self, or_false, false_or , List.length_map, Bool.or_true, Bool.true_or, Bool.false_or, Bool.or_false, Int.cast_ofNat_Int, Sp.d]
  refine (c71 [] (by simp)).call rfl rfl rfl ?_
  simp only [go_sem, Nat.reduceBEq, Nat.reduceEqDiff, Nat.reduceLT, Nat.reduceLeDiff, Nat.reduceAdd, Nat.reduceSub, Nat.reduceMul, reduceCtorEq, Int.reduceToNat, Int.reduceEq, Int.reduceLT, Int.reduceLE, Int.reduceNe, Int.reduceNeg , or_self, or_false, false_or , List.length_map, Bool.or_true, Bool.true_or, Bool.false_or, Bool.or_false, Int.cast_ofNat_Int]
  refine (c24 0 4).call rfl rfl rfl ?_
  simp only [go_sem, Nat.reduceBEq, Nat.reduceEqDiff, Nat.reduceLT, Nat.reduceLeDiff, Nat.reduceAdd, Nat.reduceSub, Nat.reduceMul, reduceCtorEq, Int.reduceToNat, Int.reduceEq, Int.reduceLT, Int.reduceLE, Int.reduceNe, Int.reduceNeg , or_self, or_false, false_or , List.length_map, Bool.or_true, Bool.true_or, Bool.false_or, Bool.or_false, Int.cast_ofNat_Int, Step.d]
  have hwv : wasV (exB []) [⟨⟨0, 4⟩, 1⟩] = .tup [.d (Sp.mk 10 10).d, .d (.sl ([⟨41, 44⟩, ⟨50, 60⟩, ⟨20, 22⟩].map Sp.d)), .d (.int .i64 0)] := by simp only [wasV, ex_logE, ex_was, if_true]; rfl
  refine (c49 (exB []) [⟨⟨0, 4⟩, 1⟩] (by simp [exB]) (by simp)).call rfl rfl (by rw [hwv]; rfl) ?_
  rw [hwv]
  simp only [go_sem, Nat.reduceBEq, Nat.reduceEqDiff, Nat.reduceLT, Nat.reduceLeDiff, Nat.reduceAdd, Nat.reduceSub, Nat.reduceMul, reduceCtorEq, Int.reduceToNat, Int.reduceEq, Int.reduceLT, Int.reduceLE, Int.reduceNe, Int.reduceNeg , or_self, or_false, false_or , List.length_map, Bool.or_true, Bool.true_or, Bool.false_or, Bool.or_false, Int.cast_ofNat_Int, Sp.d]
  refine (c71 [] (by simp)).call rfl rfl rfl ?_
  simp only [go_sem, Nat.reduceBEq, Nat.reduceEqDiff, Nat.reduceLT, Nat.reduceLeDiff, Nat.reduceAdd, Nat.reduceSub, Nat.reduceMul, reduceCtorEq, Int.reduceToNat, Int.reduceEq, Int.reduceLT, Int.reduceLE, Int.reduceNe, Int.reduceNeg , or_self, or_false, false_or , List.length_map, Bool.or_true, Bool.true_or, Bool.false_or, Bool.or_false, Int.cast_ofNat_Int]
  refine (c24 0 24).call rfl rfl rfl ?_
  simp only [go_sem, Nat.reduceBEq, Nat.reduceEqDiff, Nat.reduceLT, Nat.reduceLeDiff, Nat.reduceAdd, Nat.reduceSub, Nat.reduceMul, reduceCtorEq, Int.reduceToNat, Int.reduceEq, Int.reduceLT, Int.reduceLE, Int.reduceNe, Int.reduceNeg , or_self, or_false, false_or , List.length_map, Bool.or_true, Bool.true_or, Bool.false_or, Bool.or_false, Int.cast_ofNat_Int, Step.d]
  refine (c24 2 3).call rfl rfl rfl ?_
  simp only [go_sem, Nat.reduceBEq, Nat.reduceEqDiff, Nat.reduceLT, Nat.reduceLeDiff, Nat.reduceAdd, Nat.reduceSub, Nat.reduceMul, reduceCtorEq, Int.reduceToNat, Int.reduceEq, Int.reduceLT, Int.reduceLE, Int.reduceNe, Int.reduceNeg , or_self, or_false, false_or , List.length_map, Bool.or_true, Bool.true_or, Bool.false_or, Bool.or_false, Int.cast_ofNat_Int, Step.d]
  have hwr : wrongV (exB []) [⟨⟨0, 24⟩, 2⟩, ⟨⟨2, 3⟩, 2⟩] = .tup [.d (.sl (natsD [0])), .d (.int .i64 0)] := by simp only [wrongV, ex_logE2, ex_wrong, if_true]; rfl
  refine (c50 (exB []) [⟨⟨0, 24⟩, 2⟩, ⟨⟨2, 3⟩, 2⟩] (by simp [exB]) (by simp)).call rfl rfl (by rw [hwr]; rfl) ?_
  rw [hwr]
  simp only [go_sem, Nat.reduceBEq, Nat.reduceEqDiff, Nat.reduceLT, Nat.reduceLeDiff, Nat.reduceAdd, Nat.reduceSub, Nat.reduceMul, reduceCtorEq, Int.reduceToNat, Int.reduceEq, Int.reduceLT, Int.reduceLE, Int.reduceNe, Int.reduceNeg , or_self, or_false, false_or , List.length_map, Bool.or_true, Bool.true_or, Bool.false_or, Bool.or_false, Int.cast_ofNat_Int]
  refine (c26 100 100).call rfl rfl rfl ?_
  simp only [go_sem, Nat.reduceBEq, Nat.reduceEqDiff, Nat.reduceLT, Nat.reduceLeDiff, Nat.reduceAdd, Nat.reduceSub, Nat.reduceMul, reduceCtorEq, Int.reduceToNat, Int.reduceEq, Int.reduceLT, Int.reduceLE, Int.reduceNe, Int.reduceNeg , or_self, or_false, false_or , List.length_map, Bool.or_true, Bool.true_or, Bool.false_or, Bool.or_false, Int.cast_ofNat_Int]
  refine (c26 20 25).call rfl rfl rfl ?_
  simp only [go_sem, Nat.reduceBEq, Nat.reduceEqDiff, Nat.reduceLT, Nat.reduceLeDiff, Nat.reduceAdd, Nat.reduceSub, Nat.reduceMul, reduceCtorEq, Int.reduceToNat, Int.reduceEq, Int.reduceLT, Int.reduceLE, Int.reduceNe, Int.reduceNeg , or_self, or_false, false_or , List.length_map, Bool.or_true, Bool.true_or, Bool.false_or, Bool.or_false, Int.cast_ofNat_Int, Sp.d]
  refine (c26 30 30).call rfl rfl rfl ?_
  simp only [go_sem, Nat.reduceBEq, Nat.reduceEqDiff, Nat.reduceLT, Nat.reduceLeDiff, Nat.reduceAdd, Nat.reduceSub, Nat.reduceMul, reduceCtorEq, Int.reduceToNat, Int.reduceEq, Int.reduceLT, Int.reduceLE, Int.reduceNe, Int.reduceNeg , or_self, or_false, false_or , List.length_map, Bool.or_true, Bool.true_or, Bool.false_or, Bool.or_false, Int.cast_ofNat_Int, Sp.d]
  refine (c26 40 44).call rfl rfl rfl ?_
  simp only [go_sem, Nat.reduceBEq, Nat.reduceEqDiff, Nat.reduceLT, Nat.reduceLeDiff, Nat.reduceAdd, Nat.reduceSub, Nat.reduceMul, reduceCtorEq, Int.reduceToNat, Int.reduceEq, Int.reduceLT, Int.reduceLE, Int.reduceNe, Int.reduceNeg , or_self, or_false, false_or , List.length_map, Bool.or_true, Bool.true_or, Bool.false_or, Bool.or_false, Int.cast_ofNat_Int, Sp.d]
  refine (c55 ⟨100, 100⟩ [⟨20, 25⟩, ⟨30, 30⟩] ⟨40, 44⟩ (by simp)).call rfl rfl rfl ?_
  rw [ex_missing]
  simp only [go_sem, Nat.reduceBEq, Nat.reduceEqDiff, Nat.reduceLT, Nat.reduceLeDiff, Nat.reduceAdd, Nat.reduceSub, Nat.reduceMul, reduceCtorEq, Int.reduceToNat, Int.reduceEq, Int.reduceLT, Int.reduceLE, Int.reduceNe, Int.reduceNeg , or_self, or_false, false_or , List.length_map, Bool.or_true, Bool.true_or, Bool.false_or, Bool.or_false, Int.cast_ofNat_Int, Sp.d]
  have hd0 : ∀ {α : Type} [DecidableEq α] (l : List α), decide (l = l) = true := fun l => by simp
  refine ADrw.treeG (fun _ => false) tt_ok (by kernel_rfl) (fun k => if k = 29 then some .L else some .S) (.ones [0, 1, 2, 3, 4, 5, 6, 7, 8, 9, 10, 11, 12, 13, 14, 15, 16, 17, 18, 19, 20, 21, 22, 23, 24, 25, 26, 27, 28, 29, 30, 31, 32, 33, 34, 35, 36, 37, 38, 39, 40, 41] .done) (by simp) (fun _ h => nomatch h) rfl rfl (by kernel_rfl) ?_
  simp only [go_sem, Nat.reduceBEq, Nat.reduceEqDiff, Nat.reduceLT, Nat.reduceLeDiff, Nat.reduceAdd, Nat.reduceSub, Nat.reduceMul, reduceCtorEq, Int.reduceToNat, Int.reduceEq, Int.reduceLT, Int.reduceLE, Int.reduceNe, Int.reduceNeg , or_self, or_false, false_or , List.length_map, Bool.or_true, Bool.true_or, Bool.false_or, Bool.or_false, Int.cast_ofNat_Int]
  refine (c26 10 12).callS rfl rfl rfl rfl rfl rfl ?_
  simp only [go_sem, Nat.reduceBEq, Nat.reduceEqDiff, Nat.reduceLT, Nat.reduceLeDiff, Nat.reduceAdd, Nat.reduceSub, Nat.reduceMul, reduceCtorEq, Int.reduceToNat, Int.reduceEq, Int.reduceLT, Int.reduceLE, Int.reduceNe, Int.reduceNeg , or_self, or_false, false_or , List.length_map, Bool.or_true, Bool.true_or, Bool.false_or, Bool.or_false, Int.cast_ofNat_Int, Sp.d, Step.d, intsD, hd0]
  refine (c26 9 11).callS rfl rfl rfl rfl rfl rfl ?_
  simp only [go_sem, Nat.reduceBEq, Nat.reduceEqDiff, Nat.reduceLT, Nat.reduceLeDiff, Nat.reduceAdd, Nat.reduceSub, Nat.reduceMul, reduceCtorEq, Int.reduceToNat, Int.reduceEq, Int.reduceLT, Int.reduceLE, Int.reduceNe, Int.reduceNeg , or_self, or_false, false_or , List.length_map, Bool.or_true, Bool.true_or, Bool.false_or, Bool.or_false, Int.cast_ofNat_Int, Sp.d, Step.d, intsD, hd0]
  refine (c26 7 9).callS rfl rfl rfl rfl rfl rfl ?_
  simp only [go_sem, Nat.reduceBEq, Nat.reduceEqDiff, Nat.reduceLT, Nat.reduceLeDiff, Nat.reduceAdd, Nat.reduceSub, Nat.reduceMul, reduceCtorEq, Int.reduceToNat, Int.reduceEq, Int.reduceLT, Int.reduceLE, Int.reduceNe, Int.reduceNeg , or_self, or_false, false_or , List.length_map, Bool.or_true, Bool.true_or, Bool.false_or, Bool.or_false, Int.cast_ofNat_Int, Sp.d, Step.d, intsD, hd0]
  refine (c53 [⟨10, 12⟩, ⟨9, 11⟩, ⟨7, 9⟩] [⟨10, 12⟩, ⟨9, 11⟩, ⟨7, 9⟩] (by simp) (by simp)).callS rfl rfl rfl rfl rfl rfl ?_
  simp only [go_sem, Nat.reduceBEq, Nat.reduceEqDiff, Nat.reduceLT, Nat.reduceLeDiff, Nat.reduceAdd, Nat.reduceSub, Nat.reduceMul, reduceCtorEq, Int.reduceToNat, Int.reduceEq, Int.reduceLT, Int.reduceLE, Int.reduceNe, Int.reduceNeg , or_self, or_false, false_or , List.length_map, Bool.or_true, Bool.true_or, Bool.false_or, Bool.or_false, Int.cast_ofNat_Int, Sp.d, Step.d, intsD, hd0]
  refine (c30 [1, 2] [1, 2] (by simp) (by simp)).callS rfl rfl rfl rfl rfl rfl ?_
  simp only [go_sem, Nat.reduceBEq, Nat.reduceEqDiff, Nat.reduceLT, Nat.reduceLeDiff, Nat.reduceAdd, Nat.reduceSub, Nat.reduceMul, reduceCtorEq, Int.reduceToNat, Int.reduceEq, Int.reduceLT, Int.reduceLE, Int.reduceNe, Int.reduceNeg , or_self, or_false, false_or , List.length_map, Bool.or_true, Bool.true_or, Bool.false_or, Bool.or_false, Int.cast_ofNat_Int, Sp.d, Step.d, intsD, hd0]
  refine (c30 [2] [2] (by simp) (by simp)).callS rfl rfl rfl rfl rfl rfl ?_
  simp only [go_sem, Nat.reduceBEq, Nat.reduceEqDiff, Nat.reduceLT, Nat.reduceLeDiff, Nat.reduceAdd, Nat.reduceSub, Nat.reduceMul, reduceCtorEq, Int.reduceToNat, Int.reduceEq, Int.reduceLT, Int.reduceLE, Int.reduceNe, Int.reduceNeg , or_self, or_false, false_or , List.length_map, Bool.or_true, Bool.true_or, Bool.false_or, Bool.or_false, Int.cast_ofNat_Int, Sp.d, Step.d, intsD, hd0]
  refine (c26 7 8).callS rfl rfl rfl rfl rfl rfl ?_
  simp only [go_sem, Nat.reduceBEq, Nat.reduceEqDiff, Nat.reduceLT, Nat.reduceLeDiff, Nat.reduceAdd, Nat.reduceSub, Nat.reduceMul, reduceCtorEq, Int.reduceToNat, Int.reduceEq, Int.reduceLT, Int.reduceLE, Int.reduceNe, Int.reduceNeg , or_self, or_false, false_or , List.length_map, Bool.or_true, Bool.true_or, Bool.false_or, Bool.or_false, Int.cast_ofNat_Int, Sp.d, Step.d, intsD, hd0]
  refine (c24 0 5).callS rfl rfl rfl rfl rfl rfl ?_
  simp only [go_sem, Nat.reduceBEq, Nat.reduceEqDiff, Nat.reduceLT, Nat.reduceLeDiff, Nat.reduceAdd, Nat.reduceSub, Nat.reduceMul, reduceCtorEq, Int.reduceToNat, Int.reduceEq, Int.reduceLT, Int.reduceLE, Int.reduceNe, Int.reduceNeg , or_self, or_false, false_or , List.length_map, Bool.or_true, Bool.true_or, Bool.false_or, Bool.or_false, Int.cast_ofNat_Int, Sp.d, Step.d, intsD, hd0]
  refine (c24 1 7).callS rfl rfl rfl rfl rfl rfl ?_
  simp only [go_sem, Nat.reduceBEq, Nat.reduceEqDiff, Nat.reduceLT, Nat.reduceLeDiff, Nat.reduceAdd, Nat.reduceSub, Nat.reduceMul, reduceCtorEq, Int.reduceToNat, Int.reduceEq, Int.reduceLT, Int.reduceLE, Int.reduceNe, Int.reduceNeg , or_self, or_false, false_or , List.length_map, Bool.or_true, Bool.true_or, Bool.false_or, Bool.or_false, Int.cast_ofNat_Int, Sp.d, Step.d, intsD, hd0]
  refine (c24 2 4).callS rfl rfl rfl rfl rfl rfl ?_
  simp only [go_sem, Nat.reduceBEq, Nat.reduceEqDiff, Nat.reduceLT, Nat.reduceLeDiff, Nat.reduceAdd, Nat.reduceSub, Nat.reduceMul, reduceCtorEq, Int.reduceToNat, Int.reduceEq, Int.reduceLT, Int.reduceLE, Int.reduceNe, Int.reduceNeg , or_self, or_false, false_or , List.length_map, Bool.or_true, Bool.true_or, Bool.false_or, Bool.or_false, Int.cast_ofNat_Int, Sp.d, Step.d, intsD, hd0]
  refine (c29 [⟨0, 5⟩, ⟨1, 7⟩, ⟨2, 4⟩] [⟨0, 5⟩, ⟨1, 7⟩, ⟨2, 4⟩] (by simp) (by simp)).callS rfl rfl rfl rfl rfl rfl ?_
  simp only [go_sem, Nat.reduceBEq, Nat.reduceEqDiff, Nat.reduceLT, Nat.reduceLeDiff, Nat.reduceAdd, Nat.reduceSub, Nat.reduceMul, reduceCtorEq, Int.reduceToNat, Int.reduceEq, Int.reduceLT, Int.reduceLE, Int.reduceNe, Int.reduceNeg , or_self, or_false, false_or , List.length_map, Bool.or_true, Bool.true_or, Bool.false_or, Bool.or_false, Int.cast_ofNat_Int, Sp.d, Step.d, intsD, hd0]
  refine ADrw.treeG (fun _ => false) tt_ok (by kernel_rfl) (fun k => if k = 4 ∨ k = 9 ∨ k = 14 ∨ k = 32 then some .L else some .S) (.ones [0, 1, 2, 3, 4, 5, 6, 7, 8, 9, 10, 11, 12, 13, 14, 15, 16, 17, 18, 19, 20, 21, 22, 23, 24, 25, 26, 27, 28, 29, 30, 31, 32, 33, 34, 35, 36] .done) (by simp) (fun _ h => nomatch h) rfl rfl (by kernel_rfl) ?_
  simp only [go_sem, Nat.reduceBEq, Nat.reduceEqDiff, Nat.reduceLT, Nat.reduceLeDiff, Nat.reduceAdd, Nat.reduceSub, Nat.reduceMul, reduceCtorEq, Int.reduceToNat, Int.reduceEq, Int.reduceLT, Int.reduceLE, Int.reduceNe, Int.reduceNeg , or_self, or_false, false_or , List.length_map, Bool.or_true, Bool.true_or, Bool.false_or, Bool.or_false, Int.cast_ofNat_Int]
  refine (c23 [0, 1, 0] [0, 1, 0] (by simp) (by simp)).callS rfl rfl rfl rfl rfl rfl ?_
  simp only [go_sem, Nat.reduceBEq, Nat.reduceEqDiff, Nat.reduceLT, Nat.reduceLeDiff, Nat.reduceAdd, Nat.reduceSub, Nat.reduceMul, reduceCtorEq, Int.reduceToNat, Int.reduceEq, Int.reduceLT, Int.reduceLE, Int.reduceNe, Int.reduceNeg , or_self, or_false, false_or , List.length_map, Bool.or_true, Bool.true_or, Bool.false_or, Bool.or_false, Int.cast_ofNat_Int, Sp.d, Step.d, intsD, hd0]
  refine (c26 18 20).callS rfl rfl rfl rfl rfl rfl ?_
  simp only [go_sem, Nat.reduceBEq, Nat.reduceEqDiff, Nat.reduceLT, Nat.reduceLeDiff, Nat.reduceAdd, Nat.reduceSub, Nat.reduceMul, reduceCtorEq, Int.reduceToNat, Int.reduceEq, Int.reduceLT, Int.reduceLE, Int.reduceNe, Int.reduceNeg , or_self, or_false, false_or , List.length_map, Bool.or_true, Bool.true_or, Bool.false_or, Bool.or_false, Int.cast_ofNat_Int, Sp.d, Step.d, intsD, hd0]
  refine (c26 15 20).callS rfl rfl rfl rfl rfl rfl ?_
  simp only [go_sem, Nat.reduceBEq, Nat.reduceEqDiff, Nat.reduceLT, Nat.reduceLeDiff, Nat.reduceAdd, Nat.reduceSub, Nat.reduceMul, reduceCtorEq, Int.reduceToNat, Int.reduceEq, Int.reduceLT, Int.reduceLE, Int.reduceNe, Int.reduceNeg , or_self, or_false, false_or , List.length_map, Bool.or_true, Bool.true_or, Bool.false_or, Bool.or_false, Int.cast_ofNat_Int, Sp.d, Step.d, intsD, hd0]
  refine (c26 10 10).callS rfl rfl rfl rfl rfl rfl ?_
  simp only [go_sem, Nat.reduceBEq, Nat.reduceEqDiff, Nat.reduceLT, Nat.reduceLeDiff, Nat.reduceAdd, Nat.reduceSub, Nat.reduceMul, reduceCtorEq, Int.reduceToNat, Int.reduceEq, Int.reduceLT, Int.reduceLE, Int.reduceNe, Int.reduceNeg , or_self, or_false, false_or , List.length_map, Bool.or_true, Bool.true_or, Bool.false_or, Bool.or_false, Int.cast_ofNat_Int, Sp.d, Step.d, intsD, hd0]
  refine (c26 41 44).callS rfl rfl rfl rfl rfl rfl ?_
  simp only [go_sem, Nat.reduceBEq, Nat.reduceEqDiff, Nat.reduceLT, Nat.reduceLeDiff, Nat.reduceAdd, Nat.reduceSub, Nat.reduceMul, reduceCtorEq, Int.reduceToNat, Int.reduceEq, Int.reduceLT, Int.reduceLE, Int.reduceNe, Int.reduceNeg , or_self, or_false, false_or , List.length_map, Bool.or_true, Bool.true_or, Bool.false_or, Bool.or_false, Int.cast_ofNat_Int, Sp.d, Step.d, intsD, hd0]
  refine (c26 50 60).callS rfl rfl rfl rfl rfl rfl ?_
  simp only [go_sem, Nat.reduceBEq, Nat.reduceEqDiff, Nat.reduceLT, Nat.reduceLeDiff, Nat.reduceAdd, Nat.reduceSub, Nat.reduceMul, reduceCtorEq, Int.reduceToNat, Int.reduceEq, Int.reduceLT, Int.reduceLE, Int.reduceNe, Int.reduceNeg , or_self, or_false, false_or , List.length_map, Bool.or_true, Bool.true_or, Bool.false_or, Bool.or_false, Int.cast_ofNat_Int, Sp.d, Step.d, intsD, hd0]
  refine (c26 20 22).callS rfl rfl rfl rfl rfl rfl ?_
  simp only [go_sem, Nat.reduceBEq, Nat.reduceEqDiff, Nat.reduceLT, Nat.reduceLeDiff, Nat.reduceAdd, Nat.reduceSub, Nat.reduceMul, reduceCtorEq, Int.reduceToNat, Int.reduceEq, Int.reduceLT, Int.reduceLE, Int.reduceNe, Int.reduceNeg , or_self, or_false, false_or , List.length_map, Bool.or_true, Bool.true_or, Bool.false_or, Bool.or_false, Int.cast_ofNat_Int, Sp.d, Step.d, intsD, hd0]
  refine (c53 [⟨41, 44⟩, ⟨50, 60⟩, ⟨20, 22⟩] [⟨41, 44⟩, ⟨50, 60⟩, ⟨20, 22⟩] (by simp) (by simp)).callS rfl rfl rfl rfl rfl rfl ?_
  simp only [go_sem, Nat.reduceBEq, Nat.reduceEqDiff, Nat.reduceLT, Nat.reduceLeDiff, Nat.reduceAdd, Nat.reduceSub, Nat.reduceMul, reduceCtorEq, Int.reduceToNat, Int.reduceEq, Int.reduceLT, Int.reduceLE, Int.reduceNe, Int.reduceNeg , or_self, or_false, false_or , List.length_map, Bool.or_true, Bool.true_or, Bool.false_or, Bool.or_false, Int.cast_ofNat_Int, Sp.d, Step.d, intsD, hd0]
  refine (c23 [0] [0] (by simp) (by simp)).callS rfl rfl rfl rfl rfl rfl ?_
  simp only [go_sem, Nat.reduceBEq, Nat.reduceEqDiff, Nat.reduceLT, Nat.reduceLeDiff, Nat.reduceAdd, Nat.reduceSub, Nat.reduceMul, reduceCtorEq, Int.reduceToNat, Int.reduceEq, Int.reduceLT, Int.reduceLE, Int.reduceNe, Int.reduceNeg , or_self, or_false, false_or , List.length_map, Bool.or_true, Bool.true_or, Bool.false_or, Bool.or_false, Int.cast_ofNat_Int, Sp.d, Step.d, intsD, hd0]
  refine (c26 1 10).callS rfl rfl rfl rfl rfl rfl ?_
  simp only [go_sem, Nat.reduceBEq, Nat.reduceEqDiff, Nat.reduceLT, Nat.reduceLeDiff, Nat.reduceAdd, Nat.reduceSub, Nat.reduceMul, reduceCtorEq, Int.reduceToNat, Int.reduceEq, Int.reduceLT, Int.reduceLE, Int.reduceNe, Int.reduceNeg , or_self, or_false, false_or , List.length_map, Bool.or_true, Bool.true_or, Bool.false_or, Bool.or_false, Int.cast_ofNat_Int, Sp.d, Step.d, intsD, hd0]
end Go.Aw
end

section
set_option maxRecDepth 100000
namespace Go.Aw
open Go Go.Proofs

theorem has_int {f : Nat} {y : D} (h : HasT Try.prog (f + 1) 3 y) : ∃ n, y = .int .i64 n ∧ (Lit.int .i64 n).wf = true := by
  unfold HasT at h
  rw [Try.underlying3] at h
  exact h

theorem has_sp {f : Nat} {y : D} (h : HasT Try.prog (f + 2) 23 y) : ∃ s : Sp, y = s.d := by
  unfold HasT at h
  rw [Try.underlying23] at h
  obtain ⟨l, rfl, h⟩ := h
  simp only [HasFs] at h
  obtain ⟨y1, r1, rfl, h1, y2, r2, rfl, h2, rfl⟩ := h
  obtain ⟨n1, rfl, _⟩ := has_int h1
  obtain ⟨n2, rfl, _⟩ := has_int h2
  exact ⟨⟨n1, n2⟩, rfl⟩

theorem has_list {α : Type} {enc : α → D} {p : D → Prop} (he : ∀ y, p y → ∃ s, y = enc s) : ∀ l : List D, (∀ y ∈ l, p y) → ∃ ss : List α, l = ss.map enc
  | [], _ => ⟨[], rfl⟩
  | y :: r, h => by
    obtain ⟨s, rfl⟩ := he y (h y (by simp))
    obtain ⟨ss, rfl⟩ := has_list he r fun z hz => h z (List.mem_cons_of_mem _ hz)
    exact ⟨s :: ss, rfl⟩

theorem has_ints {f : Nat} {y : D} (h : HasT Try.prog (f + 2) 27 y) : ∃ l : List Int, y = .sl (l.map (.int .i64)) := by
  unfold HasT at h
  rw [Try.underlying27] at h
  obtain ⟨l, rfl, h1, hl⟩ := h
  obtain ⟨ss, rfl⟩ := has_list (fun y hy => by obtain ⟨n, rfl, hn⟩ := has_int hy; exact ⟨n, rfl⟩) l hl
  exact ⟨ss, rfl⟩

theorem has_plate {f : Nat} {y : D} (h : HasT Try.prog (f + 3) 117 y) : ∃ s : Plate, y = s.d := by
  unfold HasT at h
  rw [Try.underlying117] at h
  obtain ⟨l, rfl, h⟩ := h
  simp only [HasFs] at h
  obtain ⟨y1, r1, rfl, h1, y2, r2, rfl, h2, y3, r3, rfl, h3, rfl⟩ := h
  obtain ⟨n1, rfl⟩ := has_sp h1
  obtain ⟨n2, rfl, _⟩ := has_int h2
  obtain ⟨n3, rfl, _⟩ := has_int h3
  exact ⟨⟨n1, n2, n3⟩, rfl⟩

theorem has_bath {f : Nat} {y : D} (h : HasT Try.prog (f + 5) 26 y) : ∃ s : Bath, y = s.d := by
  unfold HasT at h
  rw [Try.underlying26] at h
  obtain ⟨l, rfl, h⟩ := h
  simp only [HasFs] at h
  obtain ⟨y1, r1, rfl, h1, y2, r2, rfl, h2, rfl⟩ := h
  obtain ⟨n1, rfl⟩ := has_sp h1
  unfold HasT at h2
  rw [Try.underlying24] at h2
  obtain ⟨l2, rfl, _, k2⟩ := h2
  obtain ⟨es, rfl⟩ := has_list (fun y hy => has_plate hy) l2 k2
  exact ⟨⟨n1, es⟩, rfl⟩

theorem has_step {f : Nat} {y : D} (h : HasT Try.prog (f + 2) 39 y) : ∃ s : Step, y = s.d := by
  unfold HasT at h
  rw [Try.underlying39] at h
  obtain ⟨l, rfl, h⟩ := h
  simp only [HasFs] at h
  obtain ⟨y1, r1, rfl, h1, y2, r2, rfl, h2, rfl⟩ := h
  obtain ⟨n1, rfl, _⟩ := has_int h1
  obtain ⟨n2, rfl, _⟩ := has_int h2
  exact ⟨⟨n1, n2⟩, rfl⟩

theorem has_steps {f : Nat} {y : D} (h : HasT Try.prog (f + 3) 37 y) : ∃ l : List Step, y = .sl (l.map Step.d) := by
  unfold HasT at h
  rw [Try.underlying37] at h
  obtain ⟨l, rfl, h1, hl⟩ := h
  obtain ⟨ss, rfl⟩ := has_list (fun y hy => has_step hy) l hl
  exact ⟨ss, rfl⟩
end Go.Aw
end

section
set_option maxRecDepth 100000
namespace Go.Aw
open Go Go.Proofs.Try

theorem c45 (l : List Acid) (hl : l.length ≤ 4294967296) : PC prog 45 [.d (.sl (l.map Acid.d))] (.d (.int .i64 (acidsP l))) := by
  refine PC.run (fun _ => false) tt_ok (fn := f45) (rs := [.tmp 2]) rfl rfl rfl rfl rfl rfl rfl ?_
  simp only [go_sem, Nat.reduceBEq, Nat.reduceEqDiff, Nat.reduceLT, Nat.reduceLeDiff, Nat.reduceAdd, Nat.reduceSub, Nat.reduceMul, reduceCtorEq, Int.reduceToNat, Int.reduceEq, Int.reduceLT, Int.reduceLE, Int.reduceNe, Int.reduceNeg , or_self, or_false, false_or , List.length_map, Bool.or_true, Bool.true_or, Bool.false_or, Bool.or_false, Int.cast_ofNat_Int]
  refine Br_split (fun h1 => ?_) (fun h1 => ?_) <;> simp only [go_sem, Nat.reduceBEq, Nat.reduceEqDiff, Nat.reduceLT, Nat.reduceLeDiff, Nat.reduceAdd, Nat.reduceSub, Nat.reduceMul, reduceCtorEq, Int.reduceToNat, Int.reduceEq, Int.reduceLT, Int.reduceLE, Int.reduceNe, Int.reduceNeg , or_self, or_false, false_or , List.length_map, Bool.or_true, Bool.true_or, Bool.false_or, Bool.or_false, Int.cast_ofNat_Int, h1]
  · have h1' : l.length > 5 := by simp only [decide_eq_true_eq] at h1; omega
    simp [acidsP, h1']
  have h1' : ¬ l.length > 5 := by simp only [decide_eq_false_iff_not] at h1; omega
  refine Br_split (fun h2 => ?_) (fun h2 => ?_) <;> simp only [go_sem, Nat.reduceBEq, Nat.reduceEqDiff, Nat.reduceLT, Nat.reduceLeDiff, Nat.reduceAdd, Nat.reduceSub, Nat.reduceMul, reduceCtorEq, Int.reduceToNat, Int.reduceEq, Int.reduceLT, Int.reduceLE, Int.reduceNe, Int.reduceNeg , or_self, or_false, false_or , List.length_map, Bool.or_true, Bool.true_or, Bool.false_or, Bool.or_false, Int.cast_ofNat_Int, h1, h2]
  · have h2' : l.length = 0 := by simp at h2; simp [h2]
    simp [acidsP, h1', h2']
  have h2' : ¬ l.length = 0 := by simp at h2; simpa using h2
  have hap : acidsP l = if l.any badAcid = true then 2 else 0 := by simp only [acidsP, if_neg h1', if_neg h2']
  rw [hap]
  refine ALoop.by (S := Nat) (fun i => [(3, .d (.int .i64 i)), (0, .d (.sl (l.map Acid.d)))]) (fun i => []) (fun i => l.length - i) (fun i => i ≤ l.length ∧ (l.take i).any badAcid = false) 0 (by simp) (fun _ h => nomatch h) ⟨Nat.zero_le _, rfl⟩ ?_ ?_
  · exact ForgetTo.same' (by simp) (by simp [EWe, Env.look]) rfl
  rintro i ⟨hi, hx⟩ hn
  refine AWP.run (fun _ => false) tt_ok (fun _ h => nomatch h) (by simp) rfl ?_
  simp only [go_sem, Nat.reduceBEq, Nat.reduceEqDiff, Nat.reduceLT, Nat.reduceLeDiff, Nat.reduceAdd, Nat.reduceSub, Nat.reduceMul, reduceCtorEq, Int.reduceToNat, Int.reduceEq, Int.reduceLT, Int.reduceLE, Int.reduceNe, Int.reduceNeg , or_self, or_false, false_or , List.length_map, Bool.or_true, Bool.true_or, Bool.false_or, Bool.or_false, Int.cast_ofNat_Int]
  refine Br_split (fun hd => ?_) (fun hd => ?_) <;> simp only [go_sem, Nat.reduceBEq, Nat.reduceEqDiff, Nat.reduceLT, Nat.reduceLeDiff, Nat.reduceAdd, Nat.reduceSub, Nat.reduceMul, reduceCtorEq, Int.reduceToNat, Int.reduceEq, Int.reduceLT, Int.reduceLE, Int.reduceNe, Int.reduceNeg , or_self, or_false, false_or , List.length_map, Bool.or_true, Bool.true_or, Bool.false_or, Bool.or_false, Int.cast_ofNat_Int, hd]
  · have hlt : i < l.length := by simpa using hd
    have hix : idx? (l.map Acid.d) (i : Int) = some (l[i]).d := by simp [idx?, List.getElem?_eq_getElem hlt]
    have hst : (l.take (i + 1)).any badAcid = badAcid l[i] := by
      rw [List.take_add_one, List.getElem?_eq_getElem hlt, List.any_append, hx]; simp
    have hmem : badAcid l[i] = true → l.any badAcid = true := fun h => List.any_eq_true.2 ⟨_, List.getElem_mem hlt, h⟩
    generalize l[i] = a at hix hst hmem
    simp only [go_sem, Nat.reduceBEq, Nat.reduceEqDiff, Nat.reduceLT, Nat.reduceLeDiff, Nat.reduceAdd, Nat.reduceSub, Nat.reduceMul, reduceCtorEq, Int.reduceToNat, Int.reduceEq, Int.reduceLT, Int.reduceLE, Int.reduceNe, Int.reduceNeg , or_self, or_false, false_or , List.length_map, Bool.or_true, Bool.true_or, Bool.false_or, Bool.or_false, Int.cast_ofNat_Int, hix, Acid.d]
    refine (c47 a.str 0 40).call rfl rfl rfl ?_
    rw [valid_iff]
    simp only [go_sem, Nat.reduceBEq, Nat.reduceEqDiff, Nat.reduceLT, Nat.reduceLeDiff, Nat.reduceAdd, Nat.reduceSub, Nat.reduceMul, reduceCtorEq, Int.reduceToNat, Int.reduceEq, Int.reduceLT, Int.reduceLE, Int.reduceNe, Int.reduceNeg , or_self, or_false, false_or , List.length_map, Bool.or_true, Bool.true_or, Bool.false_or, Bool.or_false, Int.cast_ofNat_Int, hd, hix, Acid.d]
    refine Br_split (fun g1 => ?_) (fun g1 => ?_) <;> simp only [go_sem, Nat.reduceBEq, Nat.reduceEqDiff, Nat.reduceLT, Nat.reduceLeDiff, Nat.reduceAdd, Nat.reduceSub, Nat.reduceMul, reduceCtorEq, Int.reduceToNat, Int.reduceEq, Int.reduceLT, Int.reduceLE, Int.reduceNe, Int.reduceNeg , or_self, or_false, false_or , List.length_map, Bool.or_true, Bool.true_or, Bool.false_or, Bool.or_false, Int.cast_ofNat_Int, hd, g1, hix, Acid.d]
    · rw [if_pos (hmem (by simp only [badAcid, g1, Bool.true_or]))]
    refine (c34 a.oz 1 200).call rfl rfl rfl ?_
    rw [in_iff]
    simp only [go_sem, Nat.reduceBEq, Nat.reduceEqDiff, Nat.reduceLT, Nat.reduceLeDiff, Nat.reduceAdd, Nat.reduceSub, Nat.reduceMul, reduceCtorEq, Int.reduceToNat, Int.reduceEq, Int.reduceLT, Int.reduceLE, Int.reduceNe, Int.reduceNeg , or_self, or_false, false_or , List.length_map, Bool.or_true, Bool.true_or, Bool.false_or, Bool.or_false, Int.cast_ofNat_Int, hd, g1]
    refine Br_split (fun g2 => ?_) (fun g2 => ?_) <;> simp only [go_sem, Nat.reduceBEq, Nat.reduceEqDiff, Nat.reduceLT, Nat.reduceLeDiff, Nat.reduceAdd, Nat.reduceSub, Nat.reduceMul, reduceCtorEq, Int.reduceToNat, Int.reduceEq, Int.reduceLT, Int.reduceLE, Int.reduceNe, Int.reduceNeg , or_self, or_false, false_or , List.length_map, Bool.or_true, Bool.true_or, Bool.false_or, Bool.or_false, Int.cast_ofNat_Int, hd, g1, g2]
    · rw [if_pos (hmem (by simp only [badAcid, g1, g2, Bool.or_true]))]
    · refine ⟨i + 1, ⟨hlt, by rw [hst]; simp only [badAcid, g1, g2, Bool.or_false]⟩, by omega, ?_⟩
      exact ForgetTo.same' (by simp) (by simp [EWe, Env.look, w64 (n := (i : Int) + 1) (by omega) (by omega)]) rfl
  · have hie : i = l.length := by simp at hd; omega
    subst hie
    rw [List.take_length] at hx
    simp [hx]

theorem c46 (l : List Acid) (w : Int) (hl : l.length ≤ 5) (hne : l.length ≠ 0) (hall : ∀ a ∈ l, a.Ok) (hw : 0 ≤ w ∧ w ≤ 1000) : PC prog 46 [.d (.sl (l.map Acid.d)), .d (.int .i64 w)] (.d ((mixAll l).with w).d) := by
  refine PC.run (fun _ => false) tt_ok (fn := f46) (rs := [.cell 4 23]) rfl rfl rfl rfl rfl rfl rfl ?_
  simp only [go_sem, Nat.reduceBEq, Nat.reduceEqDiff, Nat.reduceLT, Nat.reduceLeDiff, Nat.reduceAdd, Nat.reduceSub, Nat.reduceMul, reduceCtorEq, Int.reduceToNat, Int.reduceEq, Int.reduceLT, Int.reduceLE, Int.reduceNe, Int.reduceNeg , or_self, or_false, false_or , List.length_map, Bool.or_true, Bool.true_or, Bool.false_or, Bool.or_false, Int.cast_ofNat_Int]
  refine ALoop.by (S := Nat) (fun i => [(8, .d (.int .i64 i)), (7, .d (.int .i64 (w + ((l.take i).foldl Mixed.add ⟨0, 0, 0⟩).oz))), (6, .d (.int .i64 ((l.take i).foldl Mixed.add ⟨0, 0, 0⟩).hi)), (5, .d (.int .i64 ((l.take i).foldl Mixed.add ⟨0, 0, 0⟩).lo)), (4, .ptr 0 0), (0, .d (.sl (l.map Acid.d)))])
    (fun i => [.cells [.d (.int .i64 0), .d (.int .i64 0)]]) (fun i => l.length - i) (fun i => i ≤ l.length) 0 (by simp) (fun _ h => nomatch h) (Nat.zero_le _) ?_ ?_
  · exact ForgetTo.same' (by simp) (by simp [EWe, Env.look]) rfl
  rintro i hi hn
  refine AWP.run (fun _ => false) tt_ok (fun _ h => nomatch h) (by simp) rfl ?_
  simp only [go_sem, Nat.reduceBEq, Nat.reduceEqDiff, Nat.reduceLT, Nat.reduceLeDiff, Nat.reduceAdd, Nat.reduceSub, Nat.reduceMul, reduceCtorEq, Int.reduceToNat, Int.reduceEq, Int.reduceLT, Int.reduceLE, Int.reduceNe, Int.reduceNeg , or_self, or_false, false_or , List.length_map, Bool.or_true, Bool.true_or, Bool.false_or, Bool.or_false, Int.cast_ofNat_Int]
  refine Br_split (fun hf => ?_) (fun hf => ?_) <;> simp only [go_sem, Nat.reduceBEq, Nat.reduceEqDiff, Nat.reduceLT, Nat.reduceLeDiff, Nat.reduceAdd, Nat.reduceSub, Nat.reduceMul, reduceCtorEq, Int.reduceToNat, Int.reduceEq, Int.reduceLT, Int.reduceLE, Int.reduceNe, Int.reduceNeg , or_self, or_false, false_or , List.length_map, Bool.or_true, Bool.true_or, Bool.false_or, Bool.or_false, Int.cast_ofNat_Int, hf]
  · have hlt : i < l.length := by simpa using hf
    have hix : idx? (l.map Acid.d) (i : Int) = some (l[i]).d := by simp [idx?, List.getElem?_eq_getElem hlt]
    have hst : (l.take (i + 1)).foldl Mixed.add ⟨0, 0, 0⟩ = ((l.take i).foldl Mixed.add ⟨0, 0, 0⟩).add l[i] := by
      rw [List.take_add_one, List.getElem?_eq_getElem hlt, List.foldl_append]; rfl
    obtain ⟨b1, b2, b3, b4, b5⟩ := mix_bnd (l.take i) ⟨0, 0, 0⟩ (fun a ha => hall a (List.mem_of_mem_take ha)) (by simp) (by simp) (by simp) (by simp)
    have hlen : (l.take i).length = i := by simp; omega
    rw [hlen] at b4 b5
    have ha := hall _ (List.getElem_mem hlt)
    generalize (l.take i).foldl Mixed.add ⟨0, 0, 0⟩ = m at hst b1 b2 b3 b4 b5
    generalize l[i] = a at hix hst ha
    obtain ⟨k1, k2, k3, k4, k5⟩ := ha
    have p1 : 0 ≤ a.str.lo * a.oz := Int.mul_nonneg k1 (by omega)
    have p2 : a.str.lo * a.oz ≤ a.str.hi * a.oz := Int.mul_le_mul_of_nonneg_right k2 (by omega)
    have p3 : a.str.hi * a.oz ≤ 40 * a.oz := Int.mul_le_mul_of_nonneg_right k3 (by omega)
    simp only at b4 b5
    refine ADrw.treeG (fun _ => false) tt_ok (by kernel_rfl) (fun _ => some .S) (.ones [0, 1, 2, 3, 4, 5, 6, 7, 8, 9, 10, 11, 12, 13, 14, 15, 16, 17, 18, 19, 20, 21, 22, 23, 24, 25, 26, 27, 28, 29, 30, 31, 32, 33, 34, 35, 36, 37] .done) (by simp) (fun _ h => nomatch h) rfl rfl (by kernel_rfl) ?_
    simp only [go_sem, Nat.reduceBEq, Nat.reduceEqDiff, Nat.reduceLT, Nat.reduceLeDiff, Nat.reduceAdd, Nat.reduceSub, Nat.reduceMul, reduceCtorEq, Int.reduceToNat, Int.reduceEq, Int.reduceLT, Int.reduceLE, Int.reduceNe, Int.reduceNeg , or_self, or_false, false_or , List.length_map, Bool.or_true, Bool.true_or, Bool.false_or, Bool.or_false, Int.cast_ofNat_Int, hix, Acid.d]
    refine ⟨i + 1, hlt, by omega, ?_⟩
    refine ForgetTo.same' (by simp) ?_ rfl
    simp only [EWe, Env.look]
    simp [hst, Mixed.add, w64 (n := (i : Int) + 1) (by omega) (by omega), w64 (n := a.str.lo * a.oz) (by omega) (by omega), w64 (n := a.str.hi * a.oz) (by omega) (by omega), w64 (n := m.lo + a.str.lo * a.oz) (by omega) (by omega), w64 (n := m.hi + a.str.hi * a.oz) (by omega) (by omega), w64 (n := w + (m.oz + a.oz)) (by omega) (by omega), Int.add_assoc]
  · have hie : i = l.length := by simp at hf; omega
    subst hie
    rw [List.take_length]
    have hm := mix_bnd l ⟨0, 0, 0⟩ hall (by simp) (by simp) (by simp) (by simp)
    have hme : l.foldl Mixed.add ⟨0, 0, 0⟩ = mixAll l := rfl
    rw [hme] at hm ⊢
    generalize mixAll l = m at hm
    simp only at hm
    have hall1 : 1 ≤ w + m.oz ∧ w + m.oz ≤ 2000 := by omega
    have hcomm : m.oz + w = w + m.oz := Int.add_comm _ _
    simp only [Mixed.with, hcomm]
    generalize w + m.oz = all at hall1
    have hlo : 0 ≤ m.lo ∧ m.lo ≤ 40000 := by omega
    have hhi : 0 ≤ m.hi ∧ m.hi ≤ 40000 := by omega
    simp only [go_sem, Nat.reduceBEq, Nat.reduceEqDiff, Nat.reduceLT, Nat.reduceLeDiff, Nat.reduceAdd, Nat.reduceSub, Nat.reduceMul, reduceCtorEq, Int.reduceToNat, Int.reduceEq, Int.reduceLT, Int.reduceLE, Int.reduceNe, Int.reduceNeg , or_self, or_false, false_or , List.length_map, Bool.or_true, Bool.true_or, Bool.false_or, Bool.or_false, Int.cast_ofNat_Int]
    refine ALoop.by (S := Nat) (fun k => [(9, .ptr 1 0), (7, .d (.int .i64 all)), (6, .d (.int .i64 m.hi)), (5, .d (.int .i64 m.lo)), (4, .ptr 0 0)])
      (fun k => [.cells [.d (.int .i64 0), .d (.int .i64 0)], .cells [.d (.int .i64 (k : Int)), .d (.int .i64 0)]]) (fun k => 40001 - k) (fun k => (k : Int) * all ≤ m.lo) 0 (by simp) (fun _ h => nomatch h) (by simp; omega) ?_ ?_
    · exact ForgetTo.same' (by simp) (by simp [EWe, Env.look]) (by simp)
    rintro k hk hn2
    have hk1 : ((k : Int) + 1) * all = k * all + all := by rw [Int.add_mul]; omega
    have hk2 : (k : Int) ≤ k * all := by have := Int.mul_le_mul_of_nonneg_left (a := (1 : Int)) (b := all) (c := (k : Int)) hall1.1 (by omega); omega
    have wk : IntKind.i64.wrap ((k : Int) + 1) = (k : Int) + 1 := w64 (by omega) (by omega)
    have wm : IntKind.i64.wrap (((k : Int) + 1) * all) = ((k : Int) + 1) * all := w64 (by omega) (by omega)
    refine AWP.run (fun _ => false) tt_ok (fun _ h => nomatch h) (by simp) rfl ?_
    simp only [go_sem, Nat.reduceBEq, Nat.reduceEqDiff, Nat.reduceLT, Nat.reduceLeDiff, Nat.reduceAdd, Nat.reduceSub, Nat.reduceMul, reduceCtorEq, Int.reduceToNat, Int.reduceEq, Int.reduceLT, Int.reduceLE, Int.reduceNe, Int.reduceNeg , or_self, or_false, false_or , List.length_map, Bool.or_true, Bool.true_or, Bool.false_or, Bool.or_false, Int.cast_ofNat_Int, wk, wm]
    refine Br_split (fun hg => ?_) (fun hg => ?_) <;> simp only [go_sem, Nat.reduceBEq, Nat.reduceEqDiff, Nat.reduceLT, Nat.reduceLeDiff, Nat.reduceAdd, Nat.reduceSub, Nat.reduceMul, reduceCtorEq, Int.reduceToNat, Int.reduceEq, Int.reduceLT, Int.reduceLE, Int.reduceNe, Int.reduceNeg , or_self, or_false, false_or , List.length_map, Bool.or_true, Bool.true_or, Bool.false_or, Bool.or_false, Int.cast_ofNat_Int, hg, wk]
    · have hg' : ((k : Int) + 1) * all ≤ m.lo := by simpa using hg
      refine ⟨k + 1, by rw [Int.natCast_add]; exact hg', by omega, ?_⟩
      exact ForgetTo.same' (by simp) (by simp [EWe, Env.look]) (by simp)
    · have hg' : ¬ ((k : Int) + 1) * all ≤ m.lo := by simpa using hg
      have hq : m.lo / all = (k : Int) := by
        have e1 := (Int.le_ediv_iff_mul_le (a := (k : Int)) (b := m.lo) (c := all) (by omega)).2 hk
        have e2 := (Int.ediv_lt_iff_lt_mul (a := m.lo) (b := (k : Int) + 1) (c := all) (by omega)).2 (by omega)
        omega
      rw [hq]
      refine ALoop.by (S := Nat) (fun j => [(9, .ptr 1 0), (7, .d (.int .i64 all)), (6, .d (.int .i64 m.hi)), (4, .ptr 0 0)])
        (fun j => [.cells [.d (.int .i64 0), .d (.int .i64 0)], .cells [.d (.int .i64 (k : Int)), .d (.int .i64 (j : Int))]]) (fun j => 50001 - j) (fun j => ((j : Int) - 1) * all < m.hi ∨ j = 0) 0 (by simp) (fun _ h => nomatch h) (.inr rfl) ?_ ?_
      · exact ForgetTo.same' (by simp) (by simp [EWe, Env.look]) (by simp)
      rintro j hj hn3
      have hj1 : ((j : Int) - 1) * all = j * all - all := by rw [Int.sub_mul]; omega
      have hj2 : (j : Int) ≤ j * all := by have := Int.mul_le_mul_of_nonneg_left (a := (1 : Int)) (b := all) (c := (j : Int)) hall1.1 (by omega); omega
      have hj3 : (j : Int) * all < m.hi + all := by
        rcases hj with hj | hj
        · omega
        · subst hj; simp; omega
      have wj : IntKind.i64.wrap ((j : Int) + 1) = (j : Int) + 1 := w64 (by omega) (by omega)
      have wn : IntKind.i64.wrap ((j : Int) * all) = (j : Int) * all := w64 (by omega) (by omega)
      refine AWP.run (fun _ => false) tt_ok (fun _ h => nomatch h) (by simp) rfl ?_
      simp only [go_sem, Nat.reduceBEq, Nat.reduceEqDiff, Nat.reduceLT, Nat.reduceLeDiff, Nat.reduceAdd, Nat.reduceSub, Nat.reduceMul, reduceCtorEq, Int.reduceToNat, Int.reduceEq, Int.reduceLT, Int.reduceLE, Int.reduceNe, Int.reduceNeg , or_self, or_false, false_or , List.length_map, Bool.or_true, Bool.true_or, Bool.false_or, Bool.or_false, Int.cast_ofNat_Int, wn]
      refine Br_split (fun hg2 => ?_) (fun hg2 => ?_) <;> simp only [go_sem, Nat.reduceBEq, Nat.reduceEqDiff, Nat.reduceLT, Nat.reduceLeDiff, Nat.reduceAdd, Nat.reduceSub, Nat.reduceMul, reduceCtorEq, Int.reduceToNat, Int.reduceEq, Int.reduceLT, Int.reduceLE, Int.reduceNe, Int.reduceNeg , or_self, or_false, false_or , List.length_map, Bool.or_true, Bool.true_or, Bool.false_or, Bool.or_false, Int.cast_ofNat_Int, hg2, wj]
      · have hg3 : (j : Int) * all < m.hi := by simpa using hg2
        refine ⟨j + 1, .inl (by rw [show ((j + 1 : Nat) : Int) - 1 = j by omega]; exact hg3), by omega, ?_⟩
        exact ForgetTo.same' (by simp) (by simp [EWe, Env.look]) (by simp)
      · have hg3 : ¬ (j : Int) * all < m.hi := by simpa using hg2
        have hq2 : (m.hi + all - 1) / all = (j : Int) := by
          have e1 := (Int.le_ediv_iff_mul_le (a := (j : Int)) (b := m.hi + all - 1) (c := all) (by omega)).2 (by omega)
          have hjj : ((j : Int) + 1) * all = j * all + all := by rw [Int.add_mul]; omega
          have e2 := (Int.ediv_lt_iff_lt_mul (a := m.hi + all - 1) (b := (j : Int) + 1) (c := all) (by omega)).2 (by omega)
          omega
        rw [hq2]
        simp [Sp.d]
end Go.Aw
end

section
set_option maxRecDepth 100000
namespace Go.Aw
open Go Go.Proofs.Try

def fitR (m : Mixed) (want : Sp) (n : Int) : Bool := decide ((m.with n).lo ≥ want.lo) && decide ((m.with n).hi ≤ want.hi)

def waterStepR (m : Mixed) (want : Sp) (s : Sp) (n : Nat) : Sp := if fitR m want n = true then ⟨min s.lo n, n⟩ else s

def waterR (m : Mixed) (want : Sp) (k : Nat) : Sp := (List.range k).foldl (waterStepR m want) ⟨501, -1⟩

theorem waterR_succ (m : Mixed) (want : Sp) (k : Nat) : waterR m want (k + 1) = waterStepR m want (waterR m want k) k := by
  rw [waterR, List.range_succ, List.foldl_append]; rfl

theorem c48 (l : List Acid) (want : Sp) (hl : l.length ≤ 5) (hne : l.length ≠ 0) (hall : ∀ a ∈ l, a.Ok) : PC prog 48 [.d (.sl (l.map Acid.d)), .d want.d] (.d (waterR (mixAll l) want 501).d) := by
  refine PC.run (fun _ => false) tt_ok (fn := f48) (rs := [.cell 4 23]) rfl rfl rfl rfl rfl rfl rfl ?_
  simp only [go_sem, Nat.reduceBEq, Nat.reduceEqDiff, Nat.reduceLT, Nat.reduceLeDiff, Nat.reduceAdd, Nat.reduceSub, Nat.reduceMul, reduceCtorEq, Int.reduceToNat, Int.reduceEq, Int.reduceLT, Int.reduceLE, Int.reduceNe, Int.reduceNeg , or_self, or_false, false_or , List.length_map, Bool.or_true, Bool.true_or, Bool.false_or, Bool.or_false, Int.cast_ofNat_Int, Sp.d]
  refine ALoop.by (S := Nat) (fun i => [(6, .d (.int .i64 i)), (5, .ptr 2 0), (4, .ptr 1 0), (3, .ptr 0 0), (0, .d (.sl (l.map Acid.d)))])
    (fun i => [.cells [.d (.int .i64 want.lo), .d (.int .i64 want.hi)], .cells [.d (.int .i64 0), .d (.int .i64 0)], .cells [.d (.int .i64 (waterR (mixAll l) want i).lo), .d (.int .i64 (waterR (mixAll l) want i).hi)]]) (fun i => 501 - i) (fun i => i ≤ 501) 0 (by simp) (fun _ h => nomatch h) (Nat.zero_le _) ?_ ?_
  · exact ForgetTo.same' (by simp) (by simp [EWe, Env.look]) (by simp [waterR])
  rintro i hi hn
  refine AWP.run (fun _ => false) tt_ok (fun _ h => nomatch h) (by simp) rfl ?_
  simp only [go_sem, Nat.reduceBEq, Nat.reduceEqDiff, Nat.reduceLT, Nat.reduceLeDiff, Nat.reduceAdd, Nat.reduceSub, Nat.reduceMul, reduceCtorEq, Int.reduceToNat, Int.reduceEq, Int.reduceLT, Int.reduceLE, Int.reduceNe, Int.reduceNeg , or_self, or_false, false_or , List.length_map, Bool.or_true, Bool.true_or, Bool.false_or, Bool.or_false, Int.cast_ofNat_Int]
  refine Br_split (fun hd => ?_) (fun hd => ?_) <;> simp only [go_sem, Nat.reduceBEq, Nat.reduceEqDiff, Nat.reduceLT, Nat.reduceLeDiff, Nat.reduceAdd, Nat.reduceSub, Nat.reduceMul, reduceCtorEq, Int.reduceToNat, Int.reduceEq, Int.reduceLT, Int.reduceLE, Int.reduceNe, Int.reduceNeg , or_self, or_false, false_or , List.length_map, Bool.or_true, Bool.true_or, Bool.false_or, Bool.or_false, Int.cast_ofNat_Int, hd]
  · have hlt : i < 501 := by simp only [decide_eq_true_eq] at hd; omega
    have hnx : IntKind.i64.wrap ((i : Int) + 1) = ((i + 1 : Nat) : Int) := w64 (by omega) (by omega)
    have hst := waterR_succ (mixAll l) want i
    have hfr : fitR (mixAll l) want i = (decide (((mixAll l).with i).lo ≥ want.lo) && decide (((mixAll l).with i).hi ≤ want.hi)) := rfl
    refine (c46 l i hl hne hall (by omega)).call rfl rfl rfl ?_
    simp only [waterStepR] at hst
    generalize waterR (mixAll l) want i = s at hst
    generalize (mixAll l).with i = r at hfr
    rw [hfr] at hst
    simp only [go_sem, Nat.reduceBEq, Nat.reduceEqDiff, Nat.reduceLT, Nat.reduceLeDiff, Nat.reduceAdd, Nat.reduceSub, Nat.reduceMul, reduceCtorEq, Int.reduceToNat, Int.reduceEq, Int.reduceLT, Int.reduceLE, Int.reduceNe, Int.reduceNeg , or_self, or_false, false_or , List.length_map, Bool.or_true, Bool.true_or, Bool.false_or, Bool.or_false, Int.cast_ofNat_Int, Sp.d]
    refine Br_split (fun h1 => ?_) (fun h1 => ?_) <;> simp only [go_sem, Nat.reduceBEq, Nat.reduceEqDiff, Nat.reduceLT, Nat.reduceLeDiff, Nat.reduceAdd, Nat.reduceSub, Nat.reduceMul, reduceCtorEq, Int.reduceToNat, Int.reduceEq, Int.reduceLT, Int.reduceLE, Int.reduceNe, Int.reduceNeg , or_self, or_false, false_or , List.length_map, Bool.or_true, Bool.true_or, Bool.false_or, Bool.or_false, Int.cast_ofNat_Int, h1]
    · refine Br_split (fun h2 => ?_) (fun h2 => ?_) <;> simp only [go_sem, Nat.reduceBEq, Nat.reduceEqDiff, Nat.reduceLT, Nat.reduceLeDiff, Nat.reduceAdd, Nat.reduceSub, Nat.reduceMul, reduceCtorEq, Int.reduceToNat, Int.reduceEq, Int.reduceLT, Int.reduceLE, Int.reduceNe, Int.reduceNeg , or_self, or_false, false_or , List.length_map, Bool.or_true, Bool.true_or, Bool.false_or, Bool.or_false, Int.cast_ofNat_Int, h1, h2]
      · rw [if_pos (by rw [show decide (r.lo ≥ want.lo) = true from h1, h2]; rfl)] at hst
        refine ⟨i + 1, hlt, by omega, ?_⟩
        refine ForgetTo.drop (H0 := [_, _, _]) (Y := [_]) (Nat.zero_le _) (by rw [hst]) (by simp [BBs, BB, VBs, VB]) ?_
        simp [EWp, Env.look, pubV, hnx]
      · rw [if_neg (by rw [h2]; simp)] at hst
        refine ⟨i + 1, hlt, by omega, ?_⟩
        refine ForgetTo.drop (H0 := [_, _, _]) (Y := [_]) (Nat.zero_le _) (by rw [hst]) (by simp [BBs, BB, VBs, VB]) ?_
        simp [EWp, Env.look, pubV, hnx]
    · rw [if_neg (by rw [show decide (r.lo ≥ want.lo) = false from h1]; simp)] at hst
      refine ⟨i + 1, hlt, by omega, ?_⟩
      refine ForgetTo.drop (H0 := [_, _, _]) (Y := [_]) (Nat.zero_le _) (by rw [hst]) (by simp [BBs, BB, VBs, VB]) ?_
      simp [EWp, Env.look, pubV, hnx]
  · have hie : i = 501 := by simp only [decide_eq_false_iff_not] at hd; omega
    subst hie
    simp

theorem fit_eq (m : Mixed) (want : Sp) (n : Int) : fitW m want n = fitR m want n := by
  rw [Bool.eq_iff_iff]
  simp [fitW, fitR]

theorem water_eq (m : Mixed) (want : Sp) : ∀ k : Nat, k ≤ 501 → (waterUp m want k = (sp0, 7) ∧ waterR m want k = ⟨501, -1⟩) ∨ ∃ a b : Int, waterUp m want k = (⟨a, b⟩, 0) ∧ waterR m want k = ⟨a, b⟩ ∧ 0 ≤ a ∧ a ≤ b ∧ b < k
  | 0, _ => .inl ⟨rfl, rfl⟩
  | k + 1, hk => by
    have h1 : waterUp m want (k + 1) = waterStep m want (waterUp m want k) k := by rw [waterUp, List.range_succ, List.foldl_append]; rfl
    rw [h1, waterR_succ]
    simp only [waterStep, waterStepR, fit_eq]
    rcases water_eq m want k (by omega) with ⟨e1, e2⟩ | ⟨a, b, e1, e2, e3, e4, e5⟩
    · rw [e1, e2]
      split
      · refine .inr ⟨k, k, ?_, ?_, by omega, by omega, by omega⟩
        · simp
        · simp; omega
      · exact .inl ⟨rfl, rfl⟩
    · rw [e1, e2]
      split
      · refine .inr ⟨a, k, ?_, ?_, by omega, by omega, by omega⟩
        · simp
        · simp; omega
      · exact .inr ⟨a, b, rfl, rfl, e3, e4, by omega⟩

theorem sized_acids (l : List Acid) : sized 3 (l.map Acid.d) = true := by
  simp [sized, Acid.d, dcells]

theorem c7 (l : List Acid) (want : Sp) : PC prog 7 [.d (.sl (l.map Acid.d)), .d want.d] (.d (.bool true)) := by
  refine PC.run (fun _ => false) tt_ok (fn := f7) (rs := [.tmp 4]) rfl rfl rfl rfl rfl rfl rfl ?_
  simp only [go_sem, Nat.reduceBEq, Nat.reduceEqDiff, Nat.reduceLT, Nat.reduceLeDiff, Nat.reduceAdd, Nat.reduceSub, Nat.reduceMul, reduceCtorEq, Int.reduceToNat, Int.reduceEq, Int.reduceLT, Int.reduceLE, Int.reduceNe, Int.reduceNeg , or_self, or_false, false_or , List.length_map, Bool.or_true, Bool.true_or, Bool.false_or, Bool.or_false, Int.cast_ofNat_Int, Sp.d]
  refine Br_split (fun h1 => ?_) (fun h1 => ?_) <;> simp only [go_sem, Nat.reduceBEq, Nat.reduceEqDiff, Nat.reduceLT, Nat.reduceLeDiff, Nat.reduceAdd, Nat.reduceSub, Nat.reduceMul, reduceCtorEq, Int.reduceToNat, Int.reduceEq, Int.reduceLT, Int.reduceLE, Int.reduceNe, Int.reduceNeg , or_self, or_false, false_or , List.length_map, Bool.or_true, Bool.true_or, Bool.false_or, Bool.or_false, Int.cast_ofNat_Int, h1]
  · refine c17.call rfl rfl rfl ?_
    simp only [go_sem, Nat.reduceBEq, Nat.reduceEqDiff, Nat.reduceLT, Nat.reduceLeDiff, Nat.reduceAdd, Nat.reduceSub, Nat.reduceMul, reduceCtorEq, Int.reduceToNat, Int.reduceEq, Int.reduceLT, Int.reduceLE, Int.reduceNe, Int.reduceNeg , or_self, or_false, false_or , List.length_map, Bool.or_true, Bool.true_or, Bool.false_or, Bool.or_false, Int.cast_ofNat_Int, h1]
  have hl : l.length ≤ 20 := by simp only [decide_eq_false_iff_not] at h1; omega
  have hle : l.length ≤ 4294967296 := by omega
  have hsz := sized_acids l
  have hd0 : ∀ {α : Type} [DecidableEq α] (l : α), decide (l = l) = true := fun l => by simp
  simp only [go_sem, Nat.reduceBEq, Nat.reduceEqDiff, Nat.reduceLT, Nat.reduceLeDiff, Nat.reduceAdd, Nat.reduceSub, Nat.reduceMul, reduceCtorEq, Int.reduceToNat, Int.reduceEq, Int.reduceLT, Int.reduceLE, Int.reduceNe, Int.reduceNeg , or_self, or_false, false_or , List.length_map, Bool.or_true, Bool.true_or, Bool.false_or, Bool.or_false, Int.cast_ofNat_Int, h1, hle, hsz, List.length_map, List.nil_append, Nat.zero_add]
  refine (c43 l (by omega)).call rfl rfl rfl ?_
  simp only [go_sem, Nat.reduceBEq, Nat.reduceEqDiff, Nat.reduceLT, Nat.reduceLeDiff, Nat.reduceAdd, Nat.reduceSub, Nat.reduceMul, reduceCtorEq, Int.reduceToNat, Int.reduceEq, Int.reduceLT, Int.reduceLE, Int.reduceNe, Int.reduceNeg , or_self, or_false, false_or , List.length_map, Bool.or_true, Bool.true_or, Bool.false_or, Bool.or_false, Int.cast_ofNat_Int, h1, Sp.d]
  refine (c44 l want (by omega)).call rfl rfl rfl ?_
  simp only [go_sem, Nat.reduceBEq, Nat.reduceEqDiff, Nat.reduceLT, Nat.reduceLeDiff, Nat.reduceAdd, Nat.reduceSub, Nat.reduceMul, reduceCtorEq, Int.reduceToNat, Int.reduceEq, Int.reduceLT, Int.reduceLE, Int.reduceNe, Int.reduceNeg , or_self, or_false, false_or , List.length_map, Bool.or_true, Bool.true_or, Bool.false_or, Bool.or_false, Int.cast_ofNat_Int, h1, Sp.d]
  refine ALoop.by (S := Nat) (fun i => [(10, .d (.int .i64 i)), (9, .d (.int .i64 (waterP l want).2)), (8, .ptr 2 0), (7, .d (.int .i64 (acidsP l))), (6, .ptr 1 0), (5, .d (.sl (l.map Acid.d))), (3, .ptr 0 0), (0, .d (.sl (l.map Acid.d)))])
    (fun i => [.cells [.d (.int .i64 want.lo), .d (.int .i64 want.hi)], .cells [.d (.int .i64 (mixV l).lo), .d (.int .i64 (mixV l).hi)], .cells [.d (.int .i64 (waterP l want).1.lo), .d (.int .i64 (waterP l want).1.hi)]]) (fun i => l.length - i) (fun i => i ≤ l.length) 0 (by simp) (fun _ h => nomatch h) (Nat.zero_le _) ?_ ?_
  · exact ForgetTo.same' (by simp) (by simp [EWe, Env.look]) (by simp)
  rintro i hi hn
  refine AWP.run (fun _ => false) tt_ok (fun _ h => nomatch h) (by simp) rfl ?_
  simp only [go_sem, Nat.reduceBEq, Nat.reduceEqDiff, Nat.reduceLT, Nat.reduceLeDiff, Nat.reduceAdd, Nat.reduceSub, Nat.reduceMul, reduceCtorEq, Int.reduceToNat, Int.reduceEq, Int.reduceLT, Int.reduceLE, Int.reduceNe, Int.reduceNeg , or_self, or_false, false_or , List.length_map, Bool.or_true, Bool.true_or, Bool.false_or, Bool.or_false, Int.cast_ofNat_Int]
  refine Br_split (fun hd => ?_) (fun hd => ?_) <;> simp only [go_sem, Nat.reduceBEq, Nat.reduceEqDiff, Nat.reduceLT, Nat.reduceLeDiff, Nat.reduceAdd, Nat.reduceSub, Nat.reduceMul, reduceCtorEq, Int.reduceToNat, Int.reduceEq, Int.reduceLT, Int.reduceLE, Int.reduceNe, Int.reduceNeg , or_self, or_false, false_or , List.length_map, Bool.or_true, Bool.true_or, Bool.false_or, Bool.or_false, Int.cast_ofNat_Int, hd]
  · have hlt : i < l.length := by simpa using hd
    have hix : idx? (l.map Acid.d) (i : Int) = some (l[i]).d := by simp [idx?, List.getElem?_eq_getElem hlt]
    generalize l[i] = a at hix
    refine ADrw.treeG (fun _ => false) tt_ok (by kernel_rfl) (fun _ => some .S) (.ones [0, 1, 2, 3, 4, 5, 6, 7, 8] .done) (by simp) (fun _ h => nomatch h) rfl rfl (by kernel_rfl) ?_
    simp only [go_sem, Nat.reduceBEq, Nat.reduceEqDiff, Nat.reduceLT, Nat.reduceLeDiff, Nat.reduceAdd, Nat.reduceSub, Nat.reduceMul, reduceCtorEq, Int.reduceToNat, Int.reduceEq, Int.reduceLT, Int.reduceLE, Int.reduceNe, Int.reduceNeg , or_self, or_false, false_or , List.length_map, Bool.or_true, Bool.true_or, Bool.false_or, Bool.or_false, Int.cast_ofNat_Int, hix, Acid.d, hd0]
    refine ⟨i + 1, hlt, by omega, ?_⟩
    exact ForgetTo.same' (by simp) (by simp [EWe, Env.look, w64 (n := (i : Int) + 1) (by omega) (by omega)]) rfl
  have hie : i = l.length := by simp at hd; omega
  subst hie
  refine (c45 l (by omega)).call rfl rfl rfl ?_
  simp only [go_sem, Nat.reduceBEq, Nat.reduceEqDiff, Nat.reduceLT, Nat.reduceLeDiff, Nat.reduceAdd, Nat.reduceSub, Nat.reduceMul, reduceCtorEq, Int.reduceToNat, Int.reduceEq, Int.reduceLT, Int.reduceLE, Int.reduceNe, Int.reduceNeg , or_self, or_false, false_or , List.length_map, Bool.or_true, Bool.true_or, Bool.false_or, Bool.or_false, Int.cast_ofNat_Int]
  refine ADrw.treeG (fun _ => false) tt_ok (by kernel_rfl) (fun k => if k = 7 ∨ k = 16 then some .L else some .S) (.ones [0, 1, 2, 3, 4, 5, 6, 7, 8, 9, 10, 11, 12, 13, 14, 15, 16, 17, 18, 19, 20, 21] .done) (by simp) (fun _ h => nomatch h) rfl rfl (by kernel_rfl) ?_
  by_cases h0 : acidsP l = 0
  · obtain ⟨k1, k2, k3⟩ := acids_ok h0
    have hmv : mixV l = (mixAll l).with 0 := by simp only [mixV, if_pos h0]
    simp only [go_sem, Nat.reduceBEq, Nat.reduceEqDiff, Nat.reduceLT, Nat.reduceLeDiff, Nat.reduceAdd, Nat.reduceSub, Nat.reduceMul, reduceCtorEq, Int.reduceToNat, Int.reduceEq, Int.reduceLT, Int.reduceLE, Int.reduceNe, Int.reduceNeg , or_self, or_false, false_or , List.length_map, Bool.or_true, Bool.true_or, Bool.false_or, Bool.or_false, Int.cast_ofNat_Int, h0, hd0]
    refine (c46 l 0 k1 k2 k3 (by omega)).callS rfl rfl rfl rfl rfl rfl ?_
    rw [hmv]
    simp only [go_sem, Nat.reduceBEq, Nat.reduceEqDiff, Nat.reduceLT, Nat.reduceLeDiff, Nat.reduceAdd, Nat.reduceSub, Nat.reduceMul, reduceCtorEq, Int.reduceToNat, Int.reduceEq, Int.reduceLT, Int.reduceLE, Int.reduceNe, Int.reduceNeg , or_self, or_false, false_or , List.length_map, Bool.or_true, Bool.true_or, Bool.false_or, Bool.or_false, Int.cast_ofNat_Int, h0, hd0, Sp.d]
    refine (c47 want 0 40).call rfl rfl rfl ?_
    rw [valid_iff]
    simp only [go_sem, Nat.reduceBEq, Nat.reduceEqDiff, Nat.reduceLT, Nat.reduceLeDiff, Nat.reduceAdd, Nat.reduceSub, Nat.reduceMul, reduceCtorEq, Int.reduceToNat, Int.reduceEq, Int.reduceLT, Int.reduceLE, Int.reduceNe, Int.reduceNeg , or_self, or_false, false_or , List.length_map, Bool.or_true, Bool.true_or, Bool.false_or, Bool.or_false, Int.cast_ofNat_Int, h0, hd0, Sp.d]
    refine Br_split (fun g1 => ?_) (fun g1 => ?_) <;> simp only [go_sem, Nat.reduceBEq, Nat.reduceEqDiff, Nat.reduceLT, Nat.reduceLeDiff, Nat.reduceAdd, Nat.reduceSub, Nat.reduceMul, reduceCtorEq, Int.reduceToNat, Int.reduceEq, Int.reduceLT, Int.reduceLE, Int.reduceNe, Int.reduceNeg , or_self, or_false, false_or , List.length_map, Bool.or_true, Bool.true_or, Bool.false_or, Bool.or_false, Int.cast_ofNat_Int, h0, hd0, g1]
    · have g2 : ¬ (within 0 40 [want.lo, want.hi] && decide (want.lo ≤ want.hi)) = true := by rw [Bool.not_eq_true]; simpa only [Bool.not_eq_true'] using g1
      have hwp : waterP l want = (sp0, 3) := by simp only [waterP, h0, if_true, if_neg g2]
      simp only [hwp]
      refine ADrw.treeG (fun _ => false) tt_ok (by kernel_rfl) (fun k => if k = 4 then some .L else some .S) (.ones [0, 1, 2, 3, 4, 5, 6, 7, 8, 9, 10, 11] .done) (by simp) (fun _ h => nomatch h) rfl rfl (by kernel_rfl) ?_
      simp only [go_sem, Nat.reduceBEq, Nat.reduceEqDiff, Nat.reduceLT, Nat.reduceLeDiff, Nat.reduceAdd, Nat.reduceSub, Nat.reduceMul, reduceCtorEq, Int.reduceToNat, Int.reduceEq, Int.reduceLT, Int.reduceLE, Int.reduceNe, Int.reduceNeg , or_self, or_false, false_or , List.length_map, Bool.or_true, Bool.true_or, Bool.false_or, Bool.or_false, Int.cast_ofNat_Int, hd0, h0, g1, hwp]
      refine (c26 0 0).callS rfl rfl rfl rfl rfl rfl ?_
      simp only [go_sem, Nat.reduceBEq, Nat.reduceEqDiff, Nat.reduceLT, Nat.reduceLeDiff, Nat.reduceAdd, Nat.reduceSub, Nat.reduceMul, reduceCtorEq, Int.reduceToNat, Int.reduceEq, Int.reduceLT, Int.reduceLE, Int.reduceNe, Int.reduceNeg , or_self, or_false, false_or , List.length_map, Bool.or_true, Bool.true_or, Bool.false_or, Bool.or_false, Int.cast_ofNat_Int, hd0, Sp.d, sp0, h0, g1, hwp]
      refine c17.callS rfl rfl rfl rfl rfl rfl ?_
      simp only [go_sem, Nat.reduceBEq, Nat.reduceEqDiff, Nat.reduceLT, Nat.reduceLeDiff, Nat.reduceAdd, Nat.reduceSub, Nat.reduceMul, reduceCtorEq, Int.reduceToNat, Int.reduceEq, Int.reduceLT, Int.reduceLE, Int.reduceNe, Int.reduceNeg , or_self, or_false, false_or , List.length_map, Bool.or_true, Bool.true_or, Bool.false_or, Bool.or_false, Int.cast_ofNat_Int, hd0, h0, g1, hwp]
    · have g2 : (within 0 40 [want.lo, want.hi] && decide (want.lo ≤ want.hi)) = true := by simpa only [Bool.not_eq_false'] using g1
      have hwp : waterP l want = waterUp (mixAll l) want 501 := by simp only [waterP, h0, if_true, if_pos g2]
      refine (c48 l want k1 k2 k3).call rfl rfl rfl ?_
      rw [hwp]
      rcases water_eq (mixAll l) want 501 (Nat.le_refl _) with ⟨e1, e2⟩ | ⟨a, b, e1, e2, e3, e4, e5⟩
      · rw [e1, e2]
        have hneg : decide ((0 : Int) ≤ -1) = false := by decide
        simp only [go_sem, Nat.reduceBEq, Nat.reduceEqDiff, Nat.reduceLT, Nat.reduceLeDiff, Nat.reduceAdd, Nat.reduceSub, Nat.reduceMul, reduceCtorEq, Int.reduceToNat, Int.reduceEq, Int.reduceLT, Int.reduceLE, Int.reduceNe, Int.reduceNeg , or_self, or_false, false_or , List.length_map, Bool.or_true, Bool.true_or, Bool.false_or, Bool.or_false, Int.cast_ofNat_Int, h0, hd0, g1, Sp.d, hneg]
        refine ADrw.treeG (fun _ => false) tt_ok (by kernel_rfl) (fun k => if k = 4 then some .L else some .S) (.ones [0, 1, 2, 3, 4, 5, 6, 7, 8, 9, 10, 11] .done) (by simp) (fun _ h => nomatch h) rfl rfl (by kernel_rfl) ?_
        simp only [go_sem, Nat.reduceBEq, Nat.reduceEqDiff, Nat.reduceLT, Nat.reduceLeDiff, Nat.reduceAdd, Nat.reduceSub, Nat.reduceMul, reduceCtorEq, Int.reduceToNat, Int.reduceEq, Int.reduceLT, Int.reduceLE, Int.reduceNe, Int.reduceNeg , or_self, or_false, false_or , List.length_map, Bool.or_true, Bool.true_or, Bool.false_or, Bool.or_false, Int.cast_ofNat_Int, hd0, h0, g1]
        refine (c26 0 0).callS rfl rfl rfl rfl rfl rfl ?_
        simp only [go_sem, Nat.reduceBEq, Nat.reduceEqDiff, Nat.reduceLT, Nat.reduceLeDiff, Nat.reduceAdd, Nat.reduceSub, Nat.reduceMul, reduceCtorEq, Int.reduceToNat, Int.reduceEq, Int.reduceLT, Int.reduceLE, Int.reduceNe, Int.reduceNeg , or_self, or_false, false_or , List.length_map, Bool.or_true, Bool.true_or, Bool.false_or, Bool.or_false, Int.cast_ofNat_Int, hd0, Sp.d, sp0, h0, g1]
        refine c17.callS rfl rfl rfl rfl rfl rfl ?_
        simp only [go_sem, Nat.reduceBEq, Nat.reduceEqDiff, Nat.reduceLT, Nat.reduceLeDiff, Nat.reduceAdd, Nat.reduceSub, Nat.reduceMul, reduceCtorEq, Int.reduceToNat, Int.reduceEq, Int.reduceLT, Int.reduceLE, Int.reduceNe, Int.reduceNeg , or_self, or_false, false_or , List.length_map, Bool.or_true, Bool.true_or, Bool.false_or, Bool.or_false, Int.cast_ofNat_Int, hd0, h0, g1]
      · rw [e1, e2]
        have hb0 : decide ((0 : Int) ≤ b) = true := by simp; omega
        simp only [go_sem, Nat.reduceBEq, Nat.reduceEqDiff, Nat.reduceLT, Nat.reduceLeDiff, Nat.reduceAdd, Nat.reduceSub, Nat.reduceMul, reduceCtorEq, Int.reduceToNat, Int.reduceEq, Int.reduceLT, Int.reduceLE, Int.reduceNe, Int.reduceNeg , or_self, or_false, false_or , List.length_map, Bool.or_true, Bool.true_or, Bool.false_or, Bool.or_false, Int.cast_ofNat_Int, h0, hd0, g1, Sp.d, hb0]
        refine c17.call rfl rfl rfl ?_
        simp only [go_sem, Nat.reduceBEq, Nat.reduceEqDiff, Nat.reduceLT, Nat.reduceLeDiff, Nat.reduceAdd, Nat.reduceSub, Nat.reduceMul, reduceCtorEq, Int.reduceToNat, Int.reduceEq, Int.reduceLT, Int.reduceLE, Int.reduceNe, Int.reduceNeg , or_self, or_false, false_or , List.length_map, Bool.or_true, Bool.true_or, Bool.false_or, Bool.or_false, Int.cast_ofNat_Int, h0, hd0, g1, Sp.d, hb0]
  · have hmv : mixV l = sp0 := by simp only [mixV, if_neg h0]
    have hwp : waterP l want = (sp0, acidsP l) := by simp only [waterP, if_neg h0]
    have h0' : decide (acidsP l = 0) = false := by simpa using h0
    simp only [go_sem, Nat.reduceBEq, Nat.reduceEqDiff, Nat.reduceLT, Nat.reduceLeDiff, Nat.reduceAdd, Nat.reduceSub, Nat.reduceMul, reduceCtorEq, Int.reduceToNat, Int.reduceEq, Int.reduceLT, Int.reduceLE, Int.reduceNe, Int.reduceNeg , or_self, or_false, false_or , List.length_map, Bool.or_true, Bool.true_or, Bool.false_or, Bool.or_false, Int.cast_ofNat_Int, h0', hd0]
    refine (c26 0 0).callS rfl rfl rfl rfl rfl rfl ?_
    simp only [hmv, hwp]
    simp only [go_sem, Nat.reduceBEq, Nat.reduceEqDiff, Nat.reduceLT, Nat.reduceLeDiff, Nat.reduceAdd, Nat.reduceSub, Nat.reduceMul, reduceCtorEq, Int.reduceToNat, Int.reduceEq, Int.reduceLT, Int.reduceLE, Int.reduceNe, Int.reduceNeg , or_self, or_false, false_or , List.length_map, Bool.or_true, Bool.true_or, Bool.false_or, Bool.or_false, Int.cast_ofNat_Int, h0', hd0, Sp.d, sp0]
    refine ADrw.treeG (fun _ => false) tt_ok (by kernel_rfl) (fun k => if k = 4 then some .L else some .S) (.ones [0, 1, 2, 3, 4, 5, 6, 7, 8, 9, 10, 11] .done) (by simp) (fun _ h => nomatch h) rfl rfl (by kernel_rfl) ?_
    simp only [go_sem, Nat.reduceBEq, Nat.reduceEqDiff, Nat.reduceLT, Nat.reduceLeDiff, Nat.reduceAdd, Nat.reduceSub, Nat.reduceMul, reduceCtorEq, Int.reduceToNat, Int.reduceEq, Int.reduceLT, Int.reduceLE, Int.reduceNe, Int.reduceNeg , or_self, or_false, false_or , List.length_map, Bool.or_true, Bool.true_or, Bool.false_or, Bool.or_false, Int.cast_ofNat_Int, hd0, h0', hwp]
    refine (c26 0 0).callS rfl rfl rfl rfl rfl rfl ?_
    simp only [go_sem, Nat.reduceBEq, Nat.reduceEqDiff, Nat.reduceLT, Nat.reduceLeDiff, Nat.reduceAdd, Nat.reduceSub, Nat.reduceMul, reduceCtorEq, Int.reduceToNat, Int.reduceEq, Int.reduceLT, Int.reduceLE, Int.reduceNe, Int.reduceNeg , or_self, or_false, false_or , List.length_map, Bool.or_true, Bool.true_or, Bool.false_or, Bool.or_false, Int.cast_ofNat_Int, hd0, Sp.d, sp0, h0', hwp]
    refine c17.callS rfl rfl rfl rfl rfl rfl ?_
    simp only [go_sem, Nat.reduceBEq, Nat.reduceEqDiff, Nat.reduceLT, Nat.reduceLeDiff, Nat.reduceAdd, Nat.reduceSub, Nat.reduceMul, reduceCtorEq, Int.reduceToNat, Int.reduceEq, Int.reduceLT, Int.reduceLE, Int.reduceNe, Int.reduceNeg , or_self, or_false, false_or , List.length_map, Bool.or_true, Bool.true_or, Bool.false_or, Bool.or_false, Int.cast_ofNat_Int, hd0, h0', hwp]
end Go.Aw
end

section
set_option maxRecDepth 100000
namespace Go.Aw
open Go Go.Proofs

theorem has_acid {f : Nat} {y : D} (h : HasT Try.prog (f + 3) 75 y) : ∃ s : Acid, y = s.d := by
  unfold HasT at h
  rw [Try.underlying75] at h
  obtain ⟨l, rfl, h⟩ := h
  simp only [HasFs] at h
  obtain ⟨y1, r1, rfl, h1, y2, r2, rfl, h2, rfl⟩ := h
  obtain ⟨n1, rfl⟩ := has_sp h1
  obtain ⟨n2, rfl, _⟩ := has_int h2
  exact ⟨⟨n1, n2⟩, rfl⟩

theorem has_acids {f : Nat} {y : D} (h : HasT Try.prog (f + 4) 71 y) : ∃ l : List Acid, y = .sl (l.map Acid.d) := by
  unfold HasT at h
  rw [Try.underlying71] at h
  obtain ⟨l, rfl, h1, hl⟩ := h
  obtain ⟨ss, rfl⟩ := has_list (fun y hy => has_acid hy) l hl
  exact ⟨ss, rfl⟩

theorem has_sps {f : Nat} {y : D} (h : HasT Try.prog (f + 3) 32 y) : ∃ l : List Sp, y = .sl (l.map Sp.d) := by
  unfold HasT at h
  rw [Try.underlying32] at h
  obtain ⟨l, rfl, h1, hl⟩ := h
  obtain ⟨ss, rfl⟩ := has_list (fun y hy => has_sp hy) l hl
  exact ⟨ss, rfl⟩

theorem has_how {f : Nat} {y : D} (h : HasT Try.prog (f + 1) 85 y) : ∃ n, y = .int .i64 n ∧ (Lit.int .i64 n).wf = true := by
  unfold HasT at h
  rw [Try.underlying85] at h
  exact h

theorem has_seen {f : Nat} {y : D} (h : HasT Try.prog (f + 3) 87 y) : ∃ s : Seen, y = s.d := by
  unfold HasT at h
  rw [Try.underlying87] at h
  obtain ⟨l, rfl, h⟩ := h
  simp only [HasFs] at h
  obtain ⟨y1, r1, rfl, h1, y2, r2, rfl, h2, rfl⟩ := h
  obtain ⟨n1, rfl⟩ := has_step h1
  obtain ⟨n2, rfl, _⟩ := has_how h2
  exact ⟨⟨n1, n2⟩, rfl⟩

theorem has_seens {f : Nat} {y : D} (h : HasT Try.prog (f + 4) 81 y) : ∃ l : List Seen, y = .sl (l.map Seen.d) := by
  unfold HasT at h
  rw [Try.underlying81] at h
  obtain ⟨l, rfl, h1, hl⟩ := h
  obtain ⟨ss, rfl⟩ := has_list (fun y hy => has_seen hy) l hl
  exact ⟨ss, rfl⟩
end Go.Aw
end
