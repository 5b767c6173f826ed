/- The reference: baths; the law's helpers. The bath of the document's examples. The document's examples. What the document's examples say is so. Arguments of the program's types. More arguments of the program's types. The law of what is missing. -/
import Derived.Test.YtckfgdpklpgmdaaL2
set_option linter.unusedSimpArgs false
set_option linter.unusedVariables false

section
set_option maxRecDepth 100000
namespace Go.Aw
open Go Go.Proofs.Try

theorem c24 (p h : Int) : PC prog 24 [.d (.int .i64 p), .d (.int .i64 h)] (.d (Step.mk p h).d) := by
  refine PC.run (fun _ => false) tt_ok (fn := f24) (rs := [.cell 4 39]) rfl rfl rfl rfl rfl rfl rfl ?_
  simp only [go_sem, Nat.reduceBEq, Nat.reduceEqDiff, Nat.reduceLT, Nat.reduceLeDiff, Nat.reduceAdd, Nat.reduceSub, Nat.reduceMul, reduceCtorEq, Int.reduceToNat, Int.reduceEq, Int.reduceLT, Int.reduceLE, Int.reduceNe, Int.reduceNeg , or_self, or_false, false_or , List.length_map, Bool.or_true, Bool.true_or, Bool.false_or, Bool.or_false, Int.cast_ofNat_Int, Step.d]

theorem c26 (p h : Int) : PC prog 26 [.d (.int .i64 p), .d (.int .i64 h)] (.d (Sp.mk p h).d) := by
  refine PC.run (fun _ => false) tt_ok (fn := f26) (rs := [.cell 4 23]) rfl rfl rfl rfl rfl rfl rfl ?_
  simp only [go_sem, Nat.reduceBEq, Nat.reduceEqDiff, Nat.reduceLT, Nat.reduceLeDiff, Nat.reduceAdd, Nat.reduceSub, Nat.reduceMul, reduceCtorEq, Int.reduceToNat, Int.reduceEq, Int.reduceLT, Int.reduceLE, Int.reduceNe, Int.reduceNeg , or_self, or_false, false_or , List.length_map, Bool.or_true, Bool.true_or, Bool.false_or, Bool.or_false, Int.cast_ofNat_Int, Sp.d]

theorem sized_plates (l : List Plate) : sized 4 (l.map Plate.d) = true := by
  simp [sized, Plate.d, dcells]

theorem c18 (b : Bath) (hb : b.plates.length ≤ 4294967295) : PC prog 18 [.d b.d] (.d b.d) := by
  refine PC.run (fun _ => false) tt_ok (fn := f18) (rs := [.cell 2 26]) rfl rfl rfl rfl rfl rfl rfl ?_
  have hsz := sized_plates b.plates
  have hle : b.plates.length ≤ 4294967296 := by omega
  simp only [go_sem, Nat.reduceBEq, Nat.reduceEqDiff, Nat.reduceLT, Nat.reduceLeDiff, Nat.reduceAdd, Nat.reduceSub, Nat.reduceMul, reduceCtorEq, Int.reduceToNat, Int.reduceEq, Int.reduceLT, Int.reduceLE, Int.reduceNe, Int.reduceNeg , or_self, or_false, false_or , List.length_map, Bool.or_true, Bool.true_or, Bool.false_or, Bool.or_false, Int.cast_ofNat_Int, Bath.d, hsz, hle, List.length_map, List.nil_append, Nat.zero_add]

theorem c35 (l : List Int) (n : Int) (hl : l.length ≤ 4294967296) : PC prog 35 [.d (.sl (l.map (.int .i64))), .d (.int .i64 n)] (.d (.bool (decide (n ∈ l)))) := by
  refine PC.run (fun _ => false) tt_ok (fn := f35) (rs := [.tmp 4]) rfl rfl rfl rfl rfl rfl rfl ?_
  simp only [go_sem, Nat.reduceBEq, Nat.reduceEqDiff, Nat.reduceLT, Nat.reduceLeDiff, Nat.reduceAdd, Nat.reduceSub, Nat.reduceMul, reduceCtorEq, Int.reduceToNat, Int.reduceEq, Int.reduceLT, Int.reduceLE, Int.reduceNe, Int.reduceNeg , or_self, or_false, false_or , List.length_map, Bool.or_true, Bool.true_or, Bool.false_or, Bool.or_false, Int.cast_ofNat_Int]
  refine ALoop.by (S := Nat) (fun i => [(5, .d (.int .i64 i)), (1, .d (.int .i64 n)), (0, .d (.sl (l.map (.int .i64))))]) (fun i => []) (fun i => l.length - i) (fun i => i ≤ l.length ∧ n ∉ l.take i) 0 (by simp) (fun _ h => nomatch h) ⟨Nat.zero_le _, by simp⟩ ?_ ?_
  · exact ForgetTo.same' (by simp) (by simp [EWe, Env.look]) rfl
  rintro i ⟨hi, hx⟩ hn
  refine AWP.run (fun _ => false) tt_ok (fun _ h => nomatch h) (by simp) rfl ?_
  simp only [go_sem, Nat.reduceBEq, Nat.reduceEqDiff, Nat.reduceLT, Nat.reduceLeDiff, Nat.reduceAdd, Nat.reduceSub, Nat.reduceMul, reduceCtorEq, Int.reduceToNat, Int.reduceEq, Int.reduceLT, Int.reduceLE, Int.reduceNe, Int.reduceNeg , or_self, or_false, false_or , List.length_map, Bool.or_true, Bool.true_or, Bool.false_or, Bool.or_false, Int.cast_ofNat_Int]
  refine Br_split (fun hd => ?_) (fun hd => ?_) <;> simp only [go_sem, Nat.reduceBEq, Nat.reduceEqDiff, Nat.reduceLT, Nat.reduceLeDiff, Nat.reduceAdd, Nat.reduceSub, Nat.reduceMul, reduceCtorEq, Int.reduceToNat, Int.reduceEq, Int.reduceLT, Int.reduceLE, Int.reduceNe, Int.reduceNeg , or_self, or_false, false_or , List.length_map, Bool.or_true, Bool.true_or, Bool.false_or, Bool.or_false, Int.cast_ofNat_Int, hd]
  · have hlt : i < l.length := by simpa using hd
    simp only [go_sem, Nat.reduceBEq, Nat.reduceEqDiff, Nat.reduceLT, Nat.reduceLeDiff, Nat.reduceAdd, Nat.reduceSub, Nat.reduceMul, reduceCtorEq, Int.reduceToNat, Int.reduceEq, Int.reduceLT, Int.reduceLE, Int.reduceNe, Int.reduceNeg , or_self, or_false, false_or , List.length_map, Bool.or_true, Bool.true_or, Bool.false_or, Bool.or_false, Int.cast_ofNat_Int, idx_nat, List.getElem?_map, List.getElem?_eq_getElem hlt]
    have hin := List.getElem_mem hlt
    have hst : l.take (i + 1) = l.take i ++ [l[i]] := List.take_succ_eq_append_getElem hlt
    generalize l[i] = x at hin hst
    refine Br_split (fun he => ?_) (fun he => ?_) <;> simp only [go_sem, Nat.reduceBEq, Nat.reduceEqDiff, Nat.reduceLT, Nat.reduceLeDiff, Nat.reduceAdd, Nat.reduceSub, Nat.reduceMul, reduceCtorEq, Int.reduceToNat, Int.reduceEq, Int.reduceLT, Int.reduceLE, Int.reduceNe, Int.reduceNeg , or_self, or_false, false_or , List.length_map, Bool.or_true, Bool.true_or, Bool.false_or, Bool.or_false, Int.cast_ofNat_Int, he]
    · have : x = n := by simpa using he
      subst this
      simp [hin]
    · have hne : ¬ n = x := fun e => by subst e; simp at he
      refine ⟨i + 1, ⟨hlt, by rw [hst]; simp [hx, hne]⟩, by omega, ?_⟩
      exact ForgetTo.same' (by simp) (by simp [EWe, Env.look, w64 (n := (i : Int) + 1) (by omega) (by omega)]) rfl
  · have hie : i = l.length := by simp at hd; omega
    subst hie
    rw [List.take_length] at hx
    simp [hx]

theorem c22 (a b : Bath) (ha : a.plates.length ≤ 4294967296) (hb : b.plates.length ≤ 4294967296) : PC prog 22 [.d a.d, .d b.d] (.d (.bool (decide (a = b)))) := by
  refine PC.run (fun _ => false) tt_ok (fn := f22) (rs := [.tmp 4]) rfl rfl rfl rfl rfl rfl rfl ?_
  simp only [go_sem, Nat.reduceBEq, Nat.reduceEqDiff, Nat.reduceLT, Nat.reduceLeDiff, Nat.reduceAdd, Nat.reduceSub, Nat.reduceMul, reduceCtorEq, Int.reduceToNat, Int.reduceEq, Int.reduceLT, Int.reduceLE, Int.reduceNe, Int.reduceNeg , or_self, or_false, false_or , List.length_map, Bool.or_true, Bool.true_or, Bool.false_or, Bool.or_false, Int.cast_ofNat_Int, Bath.d]
  have hne : ∀ h : ¬ (a.str = b.str ∧ a.plates = b.plates), decide (a = b) = false := fun h => by
    rw [decide_eq_false_iff_not]; intro e; subst e; exact h ⟨rfl, rfl⟩
  refine Br_split (fun h1 => ?_) (fun h1 => ?_) <;> simp only [go_sem, Nat.reduceBEq, Nat.reduceEqDiff, Nat.reduceLT, Nat.reduceLeDiff, Nat.reduceAdd, Nat.reduceSub, Nat.reduceMul, reduceCtorEq, Int.reduceToNat, Int.reduceEq, Int.reduceLT, Int.reduceLE, Int.reduceNe, Int.reduceNeg , or_self, or_false, false_or , List.length_map, Bool.or_true, Bool.true_or, Bool.false_or, Bool.or_false, Int.cast_ofNat_Int, h1]
  · rw [hne]
    rintro ⟨e1, _⟩
    rw [e1] at h1
    simp at h1
  have hstr : a.str = b.str := by
    cases hx : a.str; cases hy : b.str
    rw [hx, hy] at h1
    simpa using h1
  refine Br_split (fun h2 => ?_) (fun h2 => ?_) <;> simp only [go_sem, Nat.reduceBEq, Nat.reduceEqDiff, Nat.reduceLT, Nat.reduceLeDiff, Nat.reduceAdd, Nat.reduceSub, Nat.reduceMul, reduceCtorEq, Int.reduceToNat, Int.reduceEq, Int.reduceLT, Int.reduceLE, Int.reduceNe, Int.reduceNeg , or_self, or_false, false_or , List.length_map, Bool.or_true, Bool.true_or, Bool.false_or, Bool.or_false, Int.cast_ofNat_Int, h1, h2]
  · rw [hne]
    rintro ⟨_, e2⟩
    rw [e2] at h2
    simp at h2
  have hlen : a.plates.length = b.plates.length := by simp at h2; omega
  refine ALoop.by (S := Nat) (fun i => [(5, .d (.int .i64 i)), (3, .ptr 1 0), (2, .ptr 0 0)]) (fun i => [.cells [.d (.int .i64 a.str.lo), .d (.int .i64 a.str.hi), .d (.sl (a.plates.map Plate.d))], .cells [.d (.int .i64 b.str.lo), .d (.int .i64 b.str.hi), .d (.sl (b.plates.map Plate.d))]])
    (fun i => a.plates.length - i) (fun i => i ≤ a.plates.length ∧ a.plates.take i = b.plates.take i) 0 (by simp) (fun _ h => nomatch h) ⟨Nat.zero_le _, rfl⟩ ?_ ?_
  · exact ForgetTo.same' (by simp) (by simp [EWe, Env.look]) rfl
  rintro i ⟨hi, hx⟩ hn
  refine AWP.run (fun _ => false) tt_ok (fun _ h => nomatch h) (by simp) rfl ?_
  simp only [go_sem, Nat.reduceBEq, Nat.reduceEqDiff, Nat.reduceLT, Nat.reduceLeDiff, Nat.reduceAdd, Nat.reduceSub, Nat.reduceMul, reduceCtorEq, Int.reduceToNat, Int.reduceEq, Int.reduceLT, Int.reduceLE, Int.reduceNe, Int.reduceNeg , or_self, or_false, false_or , List.length_map, Bool.or_true, Bool.true_or, Bool.false_or, Bool.or_false, Int.cast_ofNat_Int]
  refine Br_split (fun hd => ?_) (fun hd => ?_) <;> simp only [go_sem, Nat.reduceBEq, Nat.reduceEqDiff, Nat.reduceLT, Nat.reduceLeDiff, Nat.reduceAdd, Nat.reduceSub, Nat.reduceMul, reduceCtorEq, Int.reduceToNat, Int.reduceEq, Int.reduceLT, Int.reduceLE, Int.reduceNe, Int.reduceNeg , or_self, or_false, false_or , List.length_map, Bool.or_true, Bool.true_or, Bool.false_or, Bool.or_false, Int.cast_ofNat_Int, hd]
  · have hlt : i < a.plates.length := by simpa using hd
    have hlt' : i < b.plates.length := by omega
    have hs := take_succ_eq hlt hlt' hx
    have hne2 : a.plates[i] ≠ b.plates[i] → a.plates ≠ b.plates := fun h e => h (by simp [e])
    refine ADrw.treeG (fun _ => false) tt_ok (by kernel_rfl) (fun k => if k = 1 ∨ k = 6 then some .L else some .S) (.ones [0, 1, 2, 3, 4, 5, 6, 7, 8, 9, 10] .done) (by simp) (fun _ h => nomatch h) rfl rfl (by kernel_rfl) ?_
    simp only [go_sem, Nat.reduceBEq, Nat.reduceEqDiff, Nat.reduceLT, Nat.reduceLeDiff, Nat.reduceAdd, Nat.reduceSub, Nat.reduceMul, reduceCtorEq, Int.reduceToNat, Int.reduceEq, Int.reduceLT, Int.reduceLE, Int.reduceNe, Int.reduceNeg , or_self, or_false, false_or , List.length_map, Bool.or_true, Bool.true_or, Bool.false_or, Bool.or_false, Int.cast_ofNat_Int, idx_nat, List.getElem?_map, List.getElem?_eq_getElem hlt, List.getElem?_eq_getElem hlt', Plate.d]
    generalize a.plates[i] = x at hs hne2
    generalize b.plates[i] = y at hs hne2
    refine Br_split (fun he => ?_) (fun he => ?_) <;> simp only [go_sem, Nat.reduceBEq, Nat.reduceEqDiff, Nat.reduceLT, Nat.reduceLeDiff, Nat.reduceAdd, Nat.reduceSub, Nat.reduceMul, reduceCtorEq, Int.reduceToNat, Int.reduceEq, Int.reduceLT, Int.reduceLE, Int.reduceNe, Int.reduceNeg , or_self, or_false, false_or , List.length_map, Bool.or_true, Bool.true_or, Bool.false_or, Bool.or_false, Int.cast_ofNat_Int, he]
    · have hxy : x ≠ y := fun e => by subst e; simp at he
      rw [hne]
      rintro ⟨_, e2⟩
      exact hne2 hxy e2
    · have heq : x = y := by
        obtain ⟨⟨x1, x2⟩, x3, x4⟩ := x
        obtain ⟨⟨y1, y2⟩, y3, y4⟩ := y
        simp at he
        simp [he]
      refine ⟨i + 1, ⟨hlt, hs.2 heq⟩, by omega, ?_⟩
      exact ForgetTo.same' (by simp) (by simp [EWe, Env.look, w64 (n := (i : Int) + 1) (by omega) (by omega)]) rfl
  · have hlt : ¬ i < a.plates.length := by simpa using hd
    rw [List.take_of_length_le (by omega), List.take_of_length_le (by omega)] at hx
    have : a = b := by
      obtain ⟨x, y⟩ := a
      obtain ⟨x', y'⟩ := b
      simp only at hstr hx
      rw [hstr, hx]
    simp [this]

theorem valid_iff (s : Sp) (a b : Int) : (decide (s.lo ≥ a) && decide (s.lo ≤ s.hi) && decide (s.hi ≤ b)) = (within a b [s.lo, s.hi] && decide (s.lo ≤ s.hi)) := by
  rw [Bool.eq_iff_iff]
  simp [within]
  omega

theorem in_iff (n a b : Int) : (decide (n ≥ a) && decide (n ≤ b)) = within a b [n] := by
  rw [Bool.eq_iff_iff]
  simp [within]

theorem c21 (b : Bath) (hb : b.plates.length ≤ 4294967296) : PC prog 21 [.d b.d] (.d (.int .i64 (checkP b))) := by
  refine PC.run (fun _ => false) tt_ok (fn := f21) (rs := [.tmp 2]) rfl rfl rfl rfl rfl rfl rfl ?_
  simp only [go_sem, Nat.reduceBEq, Nat.reduceEqDiff, Nat.reduceLT, Nat.reduceLeDiff, Nat.reduceAdd, Nat.reduceSub, Nat.reduceMul, reduceCtorEq, Int.reduceToNat, Int.reduceEq, Int.reduceLT, Int.reduceLE, Int.reduceNe, Int.reduceNeg , or_self, or_false, false_or , List.length_map, Bool.or_true, Bool.true_or, Bool.false_or, Bool.or_false, Int.cast_ofNat_Int, Bath.d]
  refine (c47 b.str 1 40).call rfl rfl rfl ?_
  rw [valid_iff]
  simp only [go_sem, Nat.reduceBEq, Nat.reduceEqDiff, Nat.reduceLT, Nat.reduceLeDiff, Nat.reduceAdd, Nat.reduceSub, Nat.reduceMul, reduceCtorEq, Int.reduceToNat, Int.reduceEq, Int.reduceLT, Int.reduceLE, Int.reduceNe, Int.reduceNeg , or_self, or_false, false_or , List.length_map, Bool.or_true, Bool.true_or, Bool.false_or, Bool.or_false, Int.cast_ofNat_Int]
  refine Br_split (fun h1 => ?_) (fun h1 => ?_) <;> simp only [go_sem, Nat.reduceBEq, Nat.reduceEqDiff, Nat.reduceLT, Nat.reduceLeDiff, Nat.reduceAdd, Nat.reduceSub, Nat.reduceMul, reduceCtorEq, Int.reduceToNat, Int.reduceEq, Int.reduceLT, Int.reduceLE, Int.reduceNe, Int.reduceNeg , or_self, or_false, false_or , List.length_map, Bool.or_true, Bool.true_or, Bool.false_or, Bool.or_false, Int.cast_ofNat_Int, h1]
  · simp only [checkP, h1, if_true]
  refine Br_split (fun h2 => ?_) (fun h2 => ?_) <;> simp only [go_sem, Nat.reduceBEq, Nat.reduceEqDiff, Nat.reduceLT, Nat.reduceLeDiff, Nat.reduceAdd, Nat.reduceSub, Nat.reduceMul, reduceCtorEq, Int.reduceToNat, Int.reduceEq, Int.reduceLT, Int.reduceLE, Int.reduceNe, Int.reduceNeg , or_self, or_false, false_or , List.length_map, Bool.or_true, Bool.true_or, Bool.false_or, Bool.or_false, Int.cast_ofNat_Int, h1, h2]
  · have : b.plates.length > 5 := by simp at h2; omega
    simp only [checkP, h1, if_pos this]
    simp
  have h5 : ¬ b.plates.length > 5 := by simp at h2; omega
  have hch : checkP b = if b.plates.any badPlate = true then 2 else 0 := by
    simp only [checkP, h1, if_neg h5]
    simp
  rw [hch]
  refine ALoop.by (S := Nat) (fun i => [(3, .d (.int .i64 i)), (1, .ptr 0 0)]) (fun i => [.cells [.d (.int .i64 b.str.lo), .d (.int .i64 b.str.hi), .d (.sl (b.plates.map Plate.d))]])
    (fun i => b.plates.length - i) (fun i => i ≤ b.plates.length ∧ (b.plates.take i).any badPlate = false) 0 (by simp) (fun _ h => nomatch h) ⟨Nat.zero_le _, rfl⟩ ?_ ?_
  · exact ForgetTo.same' (by simp) (by simp [EWe, Env.look]) rfl
  rintro i ⟨hi, hx⟩ hn
  refine AWP.run (fun _ => false) tt_ok (fun _ h => nomatch h) (by simp) rfl ?_
  simp only [go_sem, Nat.reduceBEq, Nat.reduceEqDiff, Nat.reduceLT, Nat.reduceLeDiff, Nat.reduceAdd, Nat.reduceSub, Nat.reduceMul, reduceCtorEq, Int.reduceToNat, Int.reduceEq, Int.reduceLT, Int.reduceLE, Int.reduceNe, Int.reduceNeg , or_self, or_false, false_or , List.length_map, Bool.or_true, Bool.true_or, Bool.false_or, Bool.or_false, Int.cast_ofNat_Int]
  refine Br_split (fun hd => ?_) (fun hd => ?_) <;> simp only [go_sem, Nat.reduceBEq, Nat.reduceEqDiff, Nat.reduceLT, Nat.reduceLeDiff, Nat.reduceAdd, Nat.reduceSub, Nat.reduceMul, reduceCtorEq, Int.reduceToNat, Int.reduceEq, Int.reduceLT, Int.reduceLE, Int.reduceNe, Int.reduceNeg , or_self, or_false, false_or , List.length_map, Bool.or_true, Bool.true_or, Bool.false_or, Bool.or_false, Int.cast_ofNat_Int, hd]
  · have hlt : i < b.plates.length := by simpa using hd
    have hst : (b.plates.take (i + 1)).any badPlate = badPlate b.plates[i] := by
      rw [List.take_add_one, List.getElem?_eq_getElem hlt, List.any_append, hx]; simp
    have hmem : badPlate b.plates[i] = true → b.plates.any badPlate = true := fun h => List.any_eq_true.2 ⟨_, List.getElem_mem hlt, h⟩
    simp only [go_sem, Nat.reduceBEq, Nat.reduceEqDiff, Nat.reduceLT, Nat.reduceLeDiff, Nat.reduceAdd, Nat.reduceSub, Nat.reduceMul, reduceCtorEq, Int.reduceToNat, Int.reduceEq, Int.reduceLT, Int.reduceLE, Int.reduceNe, Int.reduceNeg , or_self, or_false, false_or , List.length_map, Bool.or_true, Bool.true_or, Bool.false_or, Bool.or_false, Int.cast_ofNat_Int, idx_nat, List.getElem?_map, List.getElem?_eq_getElem hlt, Plate.d]
    generalize b.plates[i] = p at hst hmem
    refine (c47 p.rust 0 600).call rfl rfl rfl ?_
    rw [valid_iff]
    simp only [go_sem, Nat.reduceBEq, Nat.reduceEqDiff, Nat.reduceLT, Nat.reduceLeDiff, Nat.reduceAdd, Nat.reduceSub, Nat.reduceMul, reduceCtorEq, Int.reduceToNat, Int.reduceEq, Int.reduceLT, Int.reduceLE, Int.reduceNe, Int.reduceNeg , or_self, or_false, false_or , List.length_map, Bool.or_true, Bool.true_or, Bool.false_or, Bool.or_false, Int.cast_ofNat_Int, hd]
    refine Br_split (fun g1 => ?_) (fun g1 => ?_) <;> simp only [go_sem, Nat.reduceBEq, Nat.reduceEqDiff, Nat.reduceLT, Nat.reduceLeDiff, Nat.reduceAdd, Nat.reduceSub, Nat.reduceMul, reduceCtorEq, Int.reduceToNat, Int.reduceEq, Int.reduceLT, Int.reduceLE, Int.reduceNe, Int.reduceNeg , or_self, or_false, false_or , List.length_map, Bool.or_true, Bool.true_or, Bool.false_or, Bool.or_false, Int.cast_ofNat_Int, hd, g1]
    · rw [if_pos (hmem (by simp only [badPlate, g1, Bool.true_or]))]
    refine (c34 p.takes 0 10).call rfl rfl rfl ?_
    rw [in_iff]
    simp only [go_sem, Nat.reduceBEq, Nat.reduceEqDiff, Nat.reduceLT, Nat.reduceLeDiff, Nat.reduceAdd, Nat.reduceSub, Nat.reduceMul, reduceCtorEq, Int.reduceToNat, Int.reduceEq, Int.reduceLT, Int.reduceLE, Int.reduceNe, Int.reduceNeg , or_self, or_false, false_or , List.length_map, Bool.or_true, Bool.true_or, Bool.false_or, Bool.or_false, Int.cast_ofNat_Int, hd, g1]
    refine Br_split (fun g2 => ?_) (fun g2 => ?_) <;> simp only [go_sem, Nat.reduceBEq, Nat.reduceEqDiff, Nat.reduceLT, Nat.reduceLeDiff, Nat.reduceAdd, Nat.reduceSub, Nat.reduceMul, reduceCtorEq, Int.reduceToNat, Int.reduceEq, Int.reduceLT, Int.reduceLE, Int.reduceNe, Int.reduceNeg , or_self, or_false, false_or , List.length_map, Bool.or_true, Bool.true_or, Bool.false_or, Bool.or_false, Int.cast_ofNat_Int, hd, g1, g2]
    · rw [if_pos (hmem (by simp only [badPlate, g1, g2, Bool.true_or, Bool.or_true]))]
    refine (c34 p.thin 0 300).call rfl rfl rfl ?_
    rw [in_iff]
    simp only [go_sem, Nat.reduceBEq, Nat.reduceEqDiff, Nat.reduceLT, Nat.reduceLeDiff, Nat.reduceAdd, Nat.reduceSub, Nat.reduceMul, reduceCtorEq, Int.reduceToNat, Int.reduceEq, Int.reduceLT, Int.reduceLE, Int.reduceNe, Int.reduceNeg , or_self, or_false, false_or , List.length_map, Bool.or_true, Bool.true_or, Bool.false_or, Bool.or_false, Int.cast_ofNat_Int, hd, g1, g2]
    refine Br_split (fun g3 => ?_) (fun g3 => ?_) <;> simp only [go_sem, Nat.reduceBEq, Nat.reduceEqDiff, Nat.reduceLT, Nat.reduceLeDiff, Nat.reduceAdd, Nat.reduceSub, Nat.reduceMul, reduceCtorEq, Int.reduceToNat, Int.reduceEq, Int.reduceLT, Int.reduceLE, Int.reduceNe, Int.reduceNeg , or_self, or_false, false_or , List.length_map, Bool.or_true, Bool.true_or, Bool.false_or, Bool.or_false, Int.cast_ofNat_Int, hd, g1, g2, g3]
    · rw [if_pos (hmem (by simp only [badPlate, g1, g2, g3, Bool.or_true]))]
    · refine ⟨i + 1, ⟨hlt, by rw [hst]; simp only [badPlate, g1, g2, g3, Bool.or_false]⟩, by omega, ?_⟩
      refine ForgetTo.drop (H0 := [_]) (Y := [_]) (Nat.zero_le _) rfl (by simp [BBs, BB, VBs, VB]) ?_
      simp [EWp, Env.look, pubV, w64 (n := (i : Int) + 1) (by omega) (by omega)]
  · have hie : i = b.plates.length := by simp at hd; omega
    subst hie
    rw [List.take_length] at hx
    simp [hx]
end Go.Aw
end

section
set_option maxRecDepth 100000
namespace Go.Aw
open Go Go.Proofs.Try

def exB (l : List Int) : Bath := ⟨⟨10, 12⟩, [⟨⟨40, 44⟩, l.getD 0 1, 30⟩, ⟨⟨50, 60⟩, l.getD 1 2, 40⟩, ⟨⟨20, 22⟩, l.getD 2 1, 16⟩]⟩

theorem exB_set (l : List Int) (hl : l.length ≤ 2) {i : Nat} (hi : i < l.length) : ((exB (l.take i)).plates.map Plate.d).set i (.agg [.int .i64 ((exB []).pl i).rust.lo, .int .i64 ((exB []).pl i).rust.hi, .int .i64 l[i], .int .i64 ((exB []).pl i).thin]) = (exB (l.take (i + 1))).plates.map Plate.d := by
  match l, hl with
  | [], _ => simp at hi
  | [a], _ =>
    obtain rfl : i = 0 := by simp at hi; omega
    rfl
  | [a, b], _ =>
    have : i = 0 ∨ i = 1 := by simp at hi; omega
    rcases this with rfl | rfl <;> rfl

theorem exB_get (l : List Int) (hl : l.length ≤ 2) {i : Nat} (hi : i < l.length) : ((exB (l.take i)).plates.map Plate.d)[i]? = some (.agg [.int .i64 ((exB []).pl i).rust.lo, .int .i64 ((exB []).pl i).rust.hi, .int .i64 ((exB []).pl i).takes, .int .i64 ((exB []).pl i).thin]) := by
  match l, hl with
  | [], _ => simp at hi
  | [a], _ =>
    obtain rfl : i = 0 := by simp at hi; omega
    rfl
  | [a, b], _ =>
    have : i = 0 ∨ i = 1 := by simp at hi; omega
    rcases this with rfl | rfl <;> rfl

theorem c71 (l : List Int) (hl : l.length ≤ 2) : PC prog 71 [.d (.sl (l.map (.int .i64)))] (.d (exB l).d) := by
  refine PC.run (fun k => k == 12) tt_ok (fn := f71) (rs := [.cell 2 26]) rfl rfl rfl rfl rfl rfl rfl ?_
  simp only [go_sem, Nat.reduceBEq, Nat.reduceEqDiff, Nat.reduceLT, Nat.reduceLeDiff, Nat.reduceAdd, Nat.reduceSub, Nat.reduceMul, reduceCtorEq, Int.reduceToNat, Int.reduceEq, Int.reduceLT, Int.reduceLE, Int.reduceNe, Int.reduceNeg , or_self, or_false, false_or , List.length_map, Bool.or_true, Bool.true_or, Bool.false_or, Bool.or_false, Int.cast_ofNat_Int]
  refine (c26 10 12).call rfl rfl rfl ?_
  simp only [go_sem, Nat.reduceBEq, Nat.reduceEqDiff, Nat.reduceLT, Nat.reduceLeDiff, Nat.reduceAdd, Nat.reduceSub, Nat.reduceMul, reduceCtorEq, Int.reduceToNat, Int.reduceEq, Int.reduceLT, Int.reduceLE, Int.reduceNe, Int.reduceNeg , or_self, or_false, false_or , List.length_map, Bool.or_true, Bool.true_or, Bool.false_or, Bool.or_false, Int.cast_ofNat_Int]
  refine (c26 40 44).call rfl rfl rfl ?_
  simp only [go_sem, Nat.reduceBEq, Nat.reduceEqDiff, Nat.reduceLT, Nat.reduceLeDiff, Nat.reduceAdd, Nat.reduceSub, Nat.reduceMul, reduceCtorEq, Int.reduceToNat, Int.reduceEq, Int.reduceLT, Int.reduceLE, Int.reduceNe, Int.reduceNeg , or_self, or_false, false_or , List.length_map, Bool.or_true, Bool.true_or, Bool.false_or, Bool.or_false, Int.cast_ofNat_Int, Sp.d]
  refine (c26 50 60).call rfl rfl rfl ?_
  simp only [go_sem, Nat.reduceBEq, Nat.reduceEqDiff, Nat.reduceLT, Nat.reduceLeDiff, Nat.reduceAdd, Nat.reduceSub, Nat.reduceMul, reduceCtorEq, Int.reduceToNat, Int.reduceEq, Int.reduceLT, Int.reduceLE, Int.reduceNe, Int.reduceNeg , or_self, or_false, false_or , List.length_map, Bool.or_true, Bool.true_or, Bool.false_or, Bool.or_false, Int.cast_ofNat_Int, Sp.d]
  refine (c26 20 22).call rfl rfl rfl ?_
  simp only [go_sem, Nat.reduceBEq, Nat.reduceEqDiff, Nat.reduceLT, Nat.reduceLeDiff, Nat.reduceAdd, Nat.reduceSub, Nat.reduceMul, reduceCtorEq, Int.reduceToNat, Int.reduceEq, Int.reduceLT, Int.reduceLE, Int.reduceNe, Int.reduceNeg , or_self, or_false, false_or , List.length_map, Bool.or_true, Bool.true_or, Bool.false_or, Bool.or_false, Int.cast_ofNat_Int, Sp.d]
  refine ALoop.by (S := Nat) (fun i => [(4, .d (.int .i64 i)), (3, .ptr 2 0), (2, .ptr 0 0), (0, .d (.sl (l.map (.int .i64))))])
    (fun i => [.cells [.d (.int .i64 0), .d (.int .i64 0), .d (.sl [])], .arr 4 false ((exB (l.take i)).plates.map Plate.d), .cells [.d (.int .i64 10), .d (.int .i64 12), .ref 1 3 0 3]]) (fun i => l.length - i) (fun i => i ≤ l.length) 0 (by simp) (fun _ h => nomatch h) (Nat.zero_le _) ?_ ?_
  · exact ForgetTo.same' (by simp) (by simp [EWe, Env.look]) (by simp [exB, Plate.d])
  rintro i hi hn
  refine AWP.run (fun _ => false) tt_ok (fun _ h => nomatch h) (by simp) rfl ?_
  simp only [go_sem, Nat.reduceBEq, Nat.reduceEqDiff, Nat.reduceLT, Nat.reduceLeDiff, Nat.reduceAdd, Nat.reduceSub, Nat.reduceMul, reduceCtorEq, Int.reduceToNat, Int.reduceEq, Int.reduceLT, Int.reduceLE, Int.reduceNe, Int.reduceNeg , or_self, or_false, false_or , List.length_map, Bool.or_true, Bool.true_or, Bool.false_or, Bool.or_false, Int.cast_ofNat_Int]
  refine Br_split (fun hd => ?_) (fun hd => ?_) <;> simp only [go_sem, Nat.reduceBEq, Nat.reduceEqDiff, Nat.reduceLT, Nat.reduceLeDiff, Nat.reduceAdd, Nat.reduceSub, Nat.reduceMul, reduceCtorEq, Int.reduceToNat, Int.reduceEq, Int.reduceLT, Int.reduceLE, Int.reduceNe, Int.reduceNeg , or_self, or_false, false_or , List.length_map, Bool.or_true, Bool.true_or, Bool.false_or, Bool.or_false, Int.cast_ofNat_Int, hd]
  · have hlt : i < l.length := by simpa using hd
    have hix : idx? (l.map (D.int .i64)) (i : Int) = some (.int .i64 l[i]) := by simp [idx?, List.getElem?_eq_getElem hlt]
    have hget := exB_get l hl hlt
    have hset := exB_set l hl hlt
    have hlen : ((exB (l.take i)).plates.map Plate.d).length = 3 := rfl
    have c1 : (0 : Int) ≤ (i : Int) := by omega
    have c2 : (i : Int) < 3 := by omega
    generalize (exB (l.take i)).plates.map Plate.d = ps at hget hset hlen
    generalize l[i] = x at hix hset
    refine ADrw.treeG (fun _ => false) tt_ok (by kernel_rfl) (fun k => if k = 1 ∨ k = 6 ∨ k = 7 then some .L else if k = 9 then some .W else some .S) (.ones [0, 1, 2, 3, 4, 5, 6, 7, 8, 9] .done) (by simp) (fun _ h => nomatch h) rfl rfl (by kernel_rfl) ?_
    simp only [go_sem, Nat.reduceBEq, Nat.reduceEqDiff, Nat.reduceLT, Nat.reduceLeDiff, Nat.reduceAdd, Nat.reduceSub, Nat.reduceMul, reduceCtorEq, Int.reduceToNat, Int.reduceEq, Int.reduceLT, Int.reduceLE, Int.reduceNe, Int.reduceNeg , or_self, or_false, false_or , List.length_map, Bool.or_true, Bool.true_or, Bool.false_or, Bool.or_false, Int.cast_ofNat_Int, hix, hget, hlen, c1, c2, Int.toNat_natCast, hset]
    refine ⟨i + 1, hlt, by omega, ?_⟩
    exact ForgetTo.same' (by simp) (by simp [EWe, Env.look, w64 (n := (i : Int) + 1) (by omega) (by omega)]) rfl
  · have hie : i = l.length := by simp at hd; omega
    subst hie
    rw [List.take_length]
    have hlen : (exB l).plates.length = 3 := rfl
    have htk : ((exB l).plates.map Plate.d).take 3 = (exB l).plates.map Plate.d := rfl
    simp only [go_sem, Nat.reduceBEq, Nat.reduceEqDiff, Nat.reduceLT, Nat.reduceLeDiff, Nat.reduceAdd, Nat.reduceSub, Nat.reduceMul, reduceCtorEq, Int.reduceToNat, Int.reduceEq, Int.reduceLT, Int.reduceLE, Int.reduceNe, Int.reduceNeg , or_self, or_false, false_or , List.length_map, Bool.or_true, Bool.true_or, Bool.false_or, Bool.or_false, Int.cast_ofNat_Int, hlen, htk, List.length_map]
    simp [Bath.d, exB]
end Go.Aw
end

section
set_option maxRecDepth 100000
namespace Go.Aw
open Go Go.Proofs.Try

theorem ex_strengths : strengthsP (exB []) [0, 1] = ([⟨10, 12⟩, ⟨9, 11⟩, ⟨7, 9⟩], 0) := by decide +kernel
theorem ex_out : outP (exB []) [⟨0, 4⟩, ⟨1, 7⟩] = ([[1, 2], [2]], 0) := by decide +kernel
theorem ex_hours : hoursP (exB []) [⟨0, 5⟩] 1 = (⟨7, 8⟩, 0) := by decide +kernel
theorem ex_order : orderP (exB []) = ([⟨0, 5⟩, ⟨1, 7⟩, ⟨2, 4⟩], 0) := by decide +kernel
theorem ex_check : checkP (exB [8, 8]) = 0 := by decide +kernel
theorem ex_fillings : fillFirst (exB [8, 8]) = some ([0, 1, 0], [5, 2]) := by decide +kernel
theorem ex_mix : mixV [⟨⟨30, 30⟩, 10⟩, ⟨⟨12, 15⟩, 20⟩] = ⟨18, 20⟩ := by decide +kernel
theorem ex_acids : acidsP [⟨⟨30, 30⟩, 10⟩, ⟨⟨12, 15⟩, 20⟩] = 0 := by decide +kernel
theorem ex_water : waterP [⟨⟨30, 30⟩, 10⟩] ⟨10, 12⟩ = (⟨15, 20⟩, 0) := by decide +kernel
theorem ex_logE : logE (exB []) [⟨⟨0, 4⟩, 1⟩] = 0 := by decide +kernel
theorem ex_was : wasO ⟨exB [], [⟨⟨0, 4⟩, 1⟩], 0⟩ = some (0, 0, [⟨41, 44⟩, ⟨50, 60⟩, ⟨20, 22⟩]) := by decide +kernel
theorem ex_logE2 : logE (exB []) [⟨⟨0, 24⟩, 2⟩, ⟨⟨2, 3⟩, 2⟩] = 0 := by decide +kernel
theorem ex_wrong : wrongF (exB []) [⟨⟨0, 24⟩, 2⟩, ⟨⟨2, 3⟩, 2⟩] = some ([0], 1) := by decide +kernel
theorem ex_missing : missP ⟨100, 100⟩ [⟨20, 25⟩, ⟨30, 30⟩] ⟨40, 44⟩ = (⟨1, 10⟩, 0) := by decide +kernel
end Go.Aw
end

section
set_option maxRecDepth 100000
namespace Go.Aw
open Go Go.Proofs.Try

theorem c17 : PC prog 17 [] (.d (.bool true)) := by
  refine PC.run (fun _ => false) tt_ok (fn := f17) (rs := [.tmp 0]) rfl rfl rfl rfl rfl rfl rfl ?_
  simp only [go_sem, Nat.reduceBEq, Nat.reduceEqDiff, Nat.reduceLT, Nat.reduceLeDiff, Nat.reduceAdd, Nat.reduceSub, Nat.reduceMul, reduceCtorEq, Int.reduceToNat, Int.reduceEq, Int.reduceLT, Int.reduceLE, Int.reduceNe, Int.reduceNeg , or_self, or_false, false_or , List.length_map, Bool.or_true, Bool.true_or, Bool.false_or, Bool.or_false, Int.cast_ofNat_Int]
  refine (c71 [] (by simp)).call rfl rfl rfl ?_
  simp only [go_sem, Nat.reduceBEq, Nat.reduceEqDiff, Nat.reduceLT, Nat.reduceLeDiff, Nat.reduceAdd, Nat.reduceSub, Nat.reduceMul, reduceCtorEq, Int.reduceToNat, Int.reduceEq, Int.reduceLT, Int.reduceLE, Int.reduceNe, Int.reduceNeg , or_self, or_false, false_or , List.length_map, Bool.or_true, Bool.true_or, Bool.false_or, Bool.or_false, Int.cast_ofNat_Int]
  refine (c20 (exB []) [0, 1] (by simp [exB]) (by simp)).call rfl rfl rfl ?_
  rw [ex_strengths]
  simp only [go_sem, Nat.reduceBEq, Nat.reduceEqDiff, Nat.reduceLT, Nat.reduceLeDiff, Nat.reduceAdd, Nat.reduceSub, Nat.reduceMul, reduceCtorEq, Int.reduceToNat, Int.reduceEq, Int.reduceLT, Int.reduceLE, Int.reduceNe, Int.reduceNeg , or_self, or_false, false_or , List.length_map, Bool.or_true, Bool.true_or, Bool.false_or, Bool.or_false, Int.cast_ofNat_Int]
  refine (c71 [] (by simp)).call rfl rfl rfl ?_
  simp only [go_sem, Nat.reduceBEq, Nat.reduceEqDiff, Nat.reduceLT, Nat.reduceLeDiff, Nat.reduceAdd, Nat.reduceSub, Nat.reduceMul, reduceCtorEq, Int.reduceToNat, Int.reduceEq, Int.reduceLT, Int.reduceLE, Int.reduceNe, Int.reduceNeg , or_self, or_false, false_or , List.length_map, Bool.or_true, Bool.true_or, Bool.false_or, Bool.or_false, Int.cast_ofNat_Int]
  refine (c24 0 4).call rfl rfl rfl ?_
  simp only [go_sem, Nat.reduceBEq, Nat.reduceEqDiff, Nat.reduceLT, Nat.reduceLeDiff, Nat.reduceAdd, Nat.reduceSub, Nat.reduceMul, reduceCtorEq, Int.reduceToNat, Int.reduceEq, Int.reduceLT, Int.reduceLE, Int.reduceNe, Int.reduceNeg , or_self, or_false, false_or , List.length_map, Bool.or_true, Bool.true_or, Bool.false_or, Bool.or_false, Int.cast_ofNat_Int]
  refine (c24 1 7).call rfl rfl rfl ?_
  simp only [go_sem, Nat.reduceBEq, Nat.reduceEqDiff, Nat.reduceLT, Nat.reduceLeDiff, Nat.reduceAdd, Nat.reduceSub, Nat.reduceMul, reduceCtorEq, Int.reduceToNat, Int.reduceEq, Int.reduceLT, Int.reduceLE, Int.reduceNe, Int.reduceNeg , or_self, or_false, false_or , List.length_map, Bool.or_true, Bool.true_or, Bool.false_or, Bool.or_false, Int.cast_ofNat_Int]
  refine (c28 (exB []) [⟨0, 4⟩, ⟨1, 7⟩] (by simp [exB]) (by simp)).call rfl rfl rfl ?_
  rw [ex_out]
  simp only [go_sem, Nat.reduceBEq, Nat.reduceEqDiff, Nat.reduceLT, Nat.reduceLeDiff, Nat.reduceAdd, Nat.reduceSub, Nat.reduceMul, reduceCtorEq, Int.reduceToNat, Int.reduceEq, Int.reduceLT, Int.reduceLE, Int.reduceNe, Int.reduceNeg , or_self, or_false, false_or , List.length_map, Bool.or_true, Bool.true_or, Bool.false_or, Bool.or_false, Int.cast_ofNat_Int]
  refine (c71 [] (by simp)).call rfl rfl rfl ?_
  simp only [go_sem, Nat.reduceBEq, Nat.reduceEqDiff, Nat.reduceLT, Nat.reduceLeDiff, Nat.reduceAdd, Nat.reduceSub, Nat.reduceMul, reduceCtorEq, Int.reduceToNat, Int.reduceEq, Int.reduceLT, Int.reduceLE, Int.reduceNe, Int.reduceNeg , or_self, or_false, false_or , List.length_map, Bool.or_true, Bool.true_or, Bool.false_or, Bool.or_false, Int.cast_ofNat_Int]
  refine (c24 0 5).call rfl rfl rfl ?_
  simp only [go_sem, Nat.reduceBEq, Nat.reduceEqDiff, Nat.reduceLT, Nat.reduceLeDiff, Nat.reduceAdd, Nat.reduceSub, Nat.reduceMul, reduceCtorEq, Int.reduceToNat, Int.reduceEq, Int.reduceLT, Int.reduceLE, Int.reduceNe, Int.reduceNeg , or_self, or_false, false_or , List.length_map, Bool.or_true, Bool.true_or, Bool.false_or, Bool.or_false, Int.cast_ofNat_Int]
  refine (c33 (exB []) [⟨0, 5⟩] 1 (by simp [exB]) (by simp)).call rfl rfl rfl ?_
  rw [ex_hours]
  simp only [go_sem, Nat.reduceBEq, Nat.reduceEqDiff, Nat.reduceLT, Nat.reduceLeDiff, Nat.reduceAdd, Nat.reduceSub, Nat.reduceMul, reduceCtorEq, Int.reduceToNat, Int.reduceEq, Int.reduceLT, Int.reduceLE, Int.reduceNe, Int.reduceNeg , or_self, or_false, false_or , List.length_map, Bool.or_true, Bool.true_or, Bool.false_or, Bool.or_false, Int.cast_ofNat_Int, Sp.d]
  refine (c71 [] (by simp)).call rfl rfl rfl ?_
  simp only [go_sem, Nat.reduceBEq, Nat.reduceEqDiff, Nat.reduceLT, Nat.reduceLeDiff, Nat.reduceAdd, Nat.reduceSub, Nat.reduceMul, reduceCtorEq, Int.reduceToNat, Int.reduceEq, Int.reduceLT, Int.reduceLE, Int.reduceNe, Int.reduceNeg , or_self, or_false, false_or , List.length_map, Bool.or_true, Bool.true_or, Bool.false_or, Bool.or_false, Int.cast_ofNat_Int]
  refine (c37 (exB []) (by simp [exB])).call rfl rfl rfl ?_
  rw [ex_order]
  simp only [go_sem, Nat.reduceBEq, Nat.reduceEqDiff, Nat.reduceLT, Nat.reduceLeDiff, Nat.reduceAdd, Nat.reduceSub, Nat.reduceMul, reduceCtorEq, Int.reduceToNat, Int.reduceEq, Int.reduceLT, Int.reduceLE, Int.reduceNe, Int.reduceNeg , or_self, or_false, false_or , List.length_map, Bool.or_true, Bool.true_or, Bool.false_or, Bool.or_false, Int.cast_ofNat_Int, lv]
  refine (c71 [8, 8] (by simp)).call rfl rfl rfl ?_
  simp only [go_sem, Nat.reduceBEq, Nat.reduceEqDiff, Nat.reduceLT, Nat.reduceLeDiff, Nat.reduceAdd, Nat.reduceSub, Nat.reduceMul, reduceCtorEq, Int.reduceToNat, Int.reduceEq, Int.reduceLT, Int.reduceLE, Int.reduceNe, Int.reduceNeg , or_self, or_false, false_or , List.length_map, Bool.or_true, Bool.true_or, Bool.false_or, Bool.or_false, Int.cast_ofNat_Int]
  have hfv : fillingsV (exB [8, 8]) = .tup [.d (.sl (natsD [0, 1, 0])), .d (.int .i64 0)] := by simp only [fillingsV, ex_check, ex_fillings, if_true]
  refine (c38 (exB [8, 8]) (by simp [exB])).call rfl rfl (by rw [hfv]; rfl) ?_
  rw [hfv]
  simp only [go_sem, Nat.reduceBEq, Nat.reduceEqDiff, Nat.reduceLT, Nat.reduceLeDiff, Nat.reduceAdd, Nat.reduceSub, Nat.reduceMul, reduceCtorEq, Int.reduceToNat, Int.reduceEq, Int.reduceLT, Int.reduceLE, Int.reduceNe, Int.reduceNeg , or_self, or_false, false_or , List.length_map, Bool.or_true, Bool.true_or, Bool.false_or, Bool.or_false, Int.cast_ofNat_Int]
  refine (c26 30 30).call rfl rfl rfl ?_
  simp only [go_sem, Nat.reduceBEq, Nat.reduceEqDiff, Nat.reduceLT, Nat.reduceLeDiff, Nat.reduceAdd, Nat.reduceSub, Nat.reduceMul, reduceCtorEq, Int.reduceToNat, Int.reduceEq, Int.reduceLT, Int.reduceLE, Int.reduceNe, Int.reduceNeg , or_self, or_false, false_or , List.length_map, Bool.or_true, Bool.true_or, Bool.false_or, Bool.or_false, Int.cast_ofNat_Int, Sp.d]
  refine (c26 12 15).call rfl rfl rfl ?_
  simp only [go_sem, Nat.reduceBEq, Nat.reduceEqDiff, Nat.reduceLT, Nat.reduceLeDiff, Nat.reduceAdd, Nat.reduceSub, Nat.reduceMul, reduceCtorEq, Int.reduceToNat, Int.reduceEq, Int.reduceLT, Int.reduceLE, Int.reduceNe, Int.reduceNeg , or_self, or_false, false_or , List.length_map, Bool.or_true, Bool.true_or, Bool.false_or, Bool.or_false, Int.cast_ofNat_Int, Sp.d]
  refine (c43 [⟨⟨30, 30⟩, 10⟩, ⟨⟨12, 15⟩, 20⟩] (by simp)).call rfl rfl rfl ?_
  rw [ex_mix, ex_acids]
  simp only [go_sem, Nat.reduceBEq, Nat.reduceEqDiff, Nat.reduceLT, Nat.reduceLeDiff, Nat.reduceAdd, Nat.reduceSub, Nat.reduceMul, reduceCtorEq, Int.reduceToNat, Int.reduceEq, Int.reduceLT, Int.reduceLE, Int.reduceNe, Int.reduceNeg , or_self, or_false, false_or , List.length_map, Bool.or_true, Bool.true_or, Bool.false_or, Bool.or_false, Int.cast_ofNat_Int, Sp.d]
  refine (c26 30 30).call rfl rfl rfl ?_
  simp only [go_sem, Nat.reduceBEq, Nat.reduceEqDiff, Nat.reduceLT, Nat.reduceLeDiff, Nat.reduceAdd, Nat.reduceSub, Nat.reduceMul, reduceCtorEq, Int.reduceToNat, Int.reduceEq, Int.reduceLT, Int.reduceLE, Int.reduceNe, Int.reduceNeg , or_self, or_false, false_or , List.length_map, Bool.or_true, Bool.true_or, Bool.false_or, Bool.or_false, Int.cast_ofNat_Int, Sp.d]
  refine (c26 10 12).call rfl rfl rfl ?_
  simp only [go_sem, Nat.reduceBEq, Nat.reduceEqDiff, Nat.reduceLT, Nat.reduceLeDiff, Nat.reduceAdd, Nat.reduceSub, Nat.reduceMul, reduceCtorEq, Int.reduceToNat, Int.reduceEq, Int.reduceLT, Int.reduceLE, Int.reduceNe, Int.reduceNeg , or_self, or_false, false_or , List.length_map, Bool.or_true, Bool.true_or, Bool.false_or, Bool.or_false, Int.cast_ofNat_Int]
  refine (c44 [⟨⟨30, 30⟩, 10⟩] ⟨10, 12⟩ (by simp)).call rfl rfl rfl ?_
  rw [ex_water]
  simp only [go_sem, Nat.reduceBEq, Nat.reduceEqDiff, Nat.reduceLT, Nat.reduceLeDiff, Nat.reduceAdd, Nat.reduceSub, Nat.reduceMul, reduceCtorEq, Int.reduceToNat, Int.reduceEq, Int.reduceLT, Int.reduceLE, Int.reduceNe, Int.reduceNeg , or_self, or_false, false_or , List.length_map, Bool.or_true, Bool.true_or, Bool.false_or, Bool.or_false, Int.cast_ofNat_Int, Sp.d]
  refine (c71 [] (by simp)).call rfl rfl rfl ?_
  simp only [go_sem, Nat.reduceBEq, Nat.reduceEqDiff, Nat.reduceLT, Nat.reduceLeDiff, Nat.reduceAdd, Nat.reduceSub, Nat.reduceMul, reduceCtorEq, Int.reduceToNat, Int.reduceEq, Int.reduceLT, Int.reduceLE, Int.reduceNe, Int.reduceNeg , or_self, or_false, false_or , List.length_map, Bool.or_true, Bool.true_or, Bool.false_or, Bool.or_false, Int.cast_ofNat_Int]
  refine (c24 0 4).call rfl rfl rfl ?_
  simp only [go_sem, Nat.reduceBEq, Nat.reduceEqDiff, Nat.reduceLT, Nat.reduceLeDiff, Nat.reduceAdd, Nat.reduceSub, Nat.reduceMul, reduceCtorEq, Int.reduceToNat, Int.reduceEq, Int.reduceLT, Int.reduceLE, Int.reduceNe, Int.reduceNeg , or_self, or_false, false_or , List.length_map, Bool.or_true, Bool.true_or, Bool.false_or, Bool.or_false, Int.cast_ofNat_Int, Step.d]
  have hwv : wasV (exB []) [⟨⟨0, 4⟩, 1⟩] = .tup [.d (Sp.mk 10 10).d, .d (.sl ([⟨41, 44⟩, ⟨50, 60⟩, ⟨20, 22⟩].map Sp.d)), .d (.int .i64 0)] := by simp only [wasV, ex_logE, ex_was, if_true]; rfl
  refine (c49 (exB []) [⟨⟨0, 4⟩, 1⟩] (by simp [exB]) (by simp)).call rfl rfl (by rw [hwv]; rfl) ?_
  rw [hwv]
  simp only [go_sem, Nat.reduceBEq, Nat.reduceEqDiff, Nat.reduceLT, Nat.reduceLeDiff, Nat.reduceAdd, Nat.reduceSub, Nat.reduceMul, reduceCtorEq, Int.reduceToNat, Int.reduceEq, Int.reduceLT, Int.reduceLE, Int.reduceNe, Int.reduceNeg , or_self, or_false, false_or , List.length_map, Bool.or_true, Bool.true_or, Bool.false_or, Bool.or_false, Int.cast_ofNat_Int, Sp.d]
  refine (c71 [] (by simp)).call rfl rfl rfl ?_
  simp only [go_sem, Nat.reduceBEq, Nat.reduceEqDiff, Nat.reduceLT, Nat.reduceLeDiff, Nat.reduceAdd, Nat.reduceSub, Nat.reduceMul, reduceCtorEq, Int.reduceToNat, Int.reduceEq, Int.reduceLT, Int.reduceLE, Int.reduceNe, Int.reduceNeg , or_self, or_false, false_or , List.length_map, Bool.or_true, Bool.true_or, Bool.false_or, Bool.or_false, Int.cast_ofNat_Int]
  refine (c24 0 24).call rfl rfl rfl ?_
  simp only [go_sem, Nat.reduceBEq, Nat.reduceEqDiff, Nat.reduceLT, Nat.reduceLeDiff, Nat.reduceAdd, Nat.reduceSub, Nat.reduceMul, reduceCtorEq, Int.reduceToNat, Int.reduceEq, Int.reduceLT, Int.reduceLE, Int.reduceNe, Int.reduceNeg , or_self, or_false, false_or , List.length_map, Bool.or_true, Bool.true_or, Bool.false_or, Bool.or_false, Int.cast_ofNat_Int, Step.d]
  refine (c24 2 3).call rfl rfl rfl ?_
  simp only [go_sem, Nat.reduceBEq, Nat.reduceEqDiff, Nat.reduceLT, Nat.reduceLeDiff, Nat.reduceAdd, Nat.reduceSub, Nat.reduceMul, reduceCtorEq, Int.reduceToNat, Int.reduceEq, Int.reduceLT, Int.reduceLE, Int.reduceNe, Int.reduceNeg , or_self, or_false, false_or , List.length_map, Bool.or_true, Bool.true_or, Bool.false_or, Bool.or_false, Int.cast_ofNat_Int, Step.d]
  have hwr : wrongV (exB []) [⟨⟨0, 24⟩, 2⟩, ⟨⟨2, 3⟩, 2⟩] = .tup [.d (.sl (natsD [0])), .d (.int .i64 0)] := by simp only [wrongV, ex_logE2, ex_wrong, if_true]; rfl
  refine (c50 (exB []) [⟨⟨0, 24⟩, 2⟩, ⟨⟨2, 3⟩, 2⟩] (by simp [exB]) (by simp)).call rfl rfl (by rw [hwr]; rfl) ?_
  rw [hwr]
  simp only [go_sem, Nat.reduceBEq, Nat.reduceEqDiff, Nat.reduceLT, Nat.reduceLeDiff, Nat.reduceAdd, Nat.reduceSub, Nat.reduceMul, reduceCtorEq, Int.reduceToNat, Int.reduceEq, Int.reduceLT, Int.reduceLE, Int.reduceNe, Int.reduceNeg , or_self, or_false, false_or , List.length_map, Bool.or_true, Bool.true_or, Bool.false_or, Bool.or_false, Int.cast_ofNat_Int]
  refine (c26 100 100).call rfl rfl rfl ?_
  simp only [go_sem, Nat.reduceBEq, Nat.reduceEqDiff, Nat.reduceLT, Nat.reduceLeDiff, Nat.reduceAdd, Nat.reduceSub, Nat.reduceMul, reduceCtorEq, Int.reduceToNat, Int.reduceEq, Int.reduceLT, Int.reduceLE, Int.reduceNe, Int.reduceNeg , or_self, or_false, false_or , List.length_map, Bool.or_true, Bool.true_or, Bool.false_or, Bool.or_false, Int.cast_ofNat_Int]
  refine (c26 20 25).call rfl rfl rfl ?_
  simp only [go_sem, Nat.reduceBEq, Nat.reduceEqDiff, Nat.reduceLT, Nat.reduceLeDiff, Nat.reduceAdd, Nat.reduceSub, Nat.reduceMul, reduceCtorEq, Int.reduceToNat, Int.reduceEq, Int.reduceLT, Int.reduceLE, Int.reduceNe, Int.reduceNeg , or_self, or_false, false_or , List.length_map, Bool.or_true, Bool.true_or, Bool.false_or, Bool.or_false, Int.cast_ofNat_Int, Sp.d]
  refine (c26 30 30).call rfl rfl rfl ?_
  simp only [go_sem, Nat.reduceBEq, Nat.reduceEqDiff, Nat.reduceLT, Nat.reduceLeDiff, Nat.reduceAdd, Nat.reduceSub, Nat.reduceMul, reduceCtorEq, Int.reduceToNat, Int.reduceEq, Int.reduceLT, Int.reduceLE, Int.reduceNe, Int.reduceNeg , or_self, or_false, false_or , List.length_map, Bool.or_true, Bool.true_or, Bool.false_or, Bool.or_false, Int.cast_ofNat_Int, Sp.d]
  refine (c26 40 44).call rfl rfl rfl ?_
  simp only [go_sem, Nat.reduceBEq, Nat.reduceEqDiff, Nat.reduceLT, Nat.reduceLeDiff, Nat.reduceAdd, Nat.reduceSub, Nat.reduceMul, reduceCtorEq, Int.reduceToNat, Int.reduceEq, Int.reduceLT, Int.reduceLE, Int.reduceNe, Int.reduceNeg , or_self, or_false, false_or , List.length_map, Bool.or_true, Bool.true_or, Bool.false_or, Bool.or_false, Int.cast_ofNat_Int, Sp.d]
  refine (c55 ⟨100, 100⟩ [⟨20, 25⟩, ⟨30, 30⟩] ⟨40, 44⟩ (by simp)).call rfl rfl rfl ?_
  rw [ex_missing]
  simp only [go_sem, Nat.reduceBEq, Nat.reduceEqDiff, Nat.reduceLT, Nat.reduceLeDiff, Nat.reduceAdd, Nat.reduceSub, Nat.reduceMul, reduceCtorEq, Int.reduceToNat, Int.reduceEq, Int.reduceLT, Int.reduceLE, Int.reduceNe, Int.reduceNeg , or_self, or_false, false_or , List.length_map, Bool.or_true, Bool.true_or, Bool.false_or, Bool.or_false, Int.cast_ofNat_Int, Sp.d]
  have hd0 : ∀ {α : Type} [DecidableEq α] (l : List α), decide (l = l) = true := fun l => by simp
  refine ADrw.treeG (fun _ => false) tt_ok (by kernel_rfl) (fun k => if k = 29 then some .L else some .S) (.ones [0, 1, 2, 3, 4, 5, 6, 7, 8, 9, 10, 11, 12, 13, 14, 15, 16, 17, 18, 19, 20, 21, 22, 23, 24, 25, 26, 27, 28, 29, 30, 31, 32, 33, 34, 35, 36, 37, 38, 39, 40, 41] .done) (by simp) (fun _ h => nomatch h) rfl rfl (by kernel_rfl) ?_
  simp only [go_sem, Nat.reduceBEq, Nat.reduceEqDiff, Nat.reduceLT, Nat.reduceLeDiff, Nat.reduceAdd, Nat.reduceSub, Nat.reduceMul, reduceCtorEq, Int.reduceToNat, Int.reduceEq, Int.reduceLT, Int.reduceLE, Int.reduceNe, Int.reduceNeg , or_self, or_false, false_or , List.length_map, Bool.or_true, Bool.true_or, Bool.false_or, Bool.or_false, Int.cast_ofNat_Int]
  refine (c26 10 12).callS rfl rfl rfl rfl rfl rfl ?_
  simp only [go_sem, Nat.reduceBEq, Nat.reduceEqDiff, Nat.reduceLT, Nat.reduceLeDiff, Nat.reduceAdd, Nat.reduceSub, Nat.reduceMul, reduceCtorEq, Int.reduceToNat, Int.reduceEq, Int.reduceLT, Int.reduceLE, Int.reduceNe, Int.reduceNeg , or_self, or_false, false_or , List.length_map, Bool.or_true, Bool.true_or, Bool.false_or, Bool.or_false, Int.cast_ofNat_Int, Sp.d, Step.d, intsD, hd0]
  refine (c26 9 11).callS rfl rfl rfl rfl rfl rfl ?_
  simp only [go_sem, Nat.reduceBEq, Nat.reduceEqDiff, Nat.reduceLT, Nat.reduceLeDiff, Nat.reduceAdd, Nat.reduceSub, Nat.reduceMul, reduceCtorEq, Int.reduceToNat, Int.reduceEq, Int.reduceLT, Int.reduceLE, Int.reduceNe, Int.reduceNeg , or_self, or_false, false_or , List.length_map, Bool.or_true, Bool.true_or, Bool.false_or, Bool.or_false, Int.cast_ofNat_Int, Sp.d, Step.d, intsD, hd0]
  refine (c26 7 9).callS rfl rfl rfl rfl rfl rfl ?_
  simp only [go_sem, Nat.reduceBEq, Nat.reduceEqDiff, Nat.reduceLT, Nat.reduceLeDiff, Nat.reduceAdd, Nat.reduceSub, Nat.reduceMul, reduceCtorEq, Int.reduceToNat, Int.reduceEq, Int.reduceLT, Int.reduceLE, Int.reduceNe, Int.reduceNeg , or_self, or_false, false_or , List.length_map, Bool.or_true, Bool.true_or, Bool.false_or, Bool.or_false, Int.cast_ofNat_Int, Sp.d, Step.d, intsD, hd0]
  refine (c53 [⟨10, 12⟩, ⟨9, 11⟩, ⟨7, 9⟩] [⟨10, 12⟩, ⟨9, 11⟩, ⟨7, 9⟩] (by simp) (by simp)).callS rfl rfl rfl rfl rfl rfl ?_
  simp only [go_sem, Nat.reduceBEq, Nat.reduceEqDiff, Nat.reduceLT, Nat.reduceLeDiff, Nat.reduceAdd, Nat.reduceSub, Nat.reduceMul, reduceCtorEq, Int.reduceToNat, Int.reduceEq, Int.reduceLT, Int.reduceLE, Int.reduceNe, Int.reduceNeg , or_self, or_false, false_or , List.length_map, Bool.or_true, Bool.true_or, Bool.false_or, Bool.or_false, Int.cast_ofNat_Int, Sp.d, Step.d, intsD, hd0]
  refine (c30 [1, 2] [1, 2] (by simp) (by simp)).callS rfl rfl rfl rfl rfl rfl ?_
  simp only [go_sem, Nat.reduceBEq, Nat.reduceEqDiff, Nat.reduceLT, Nat.reduceLeDiff, Nat.reduceAdd, Nat.reduceSub, Nat.reduceMul, reduceCtorEq, Int.reduceToNat, Int.reduceEq, Int.reduceLT, Int.reduceLE, Int.reduceNe, Int.reduceNeg , or_self, or_false, false_or , List.length_map, Bool.or_true, Bool.true_or, Bool.false_or, Bool.or_false, Int.cast_ofNat_Int, Sp.d, Step.d, intsD, hd0]
  refine (c30 [2] [2] (by simp) (by simp)).callS rfl rfl rfl rfl rfl rfl ?_
  simp only [go_sem, Nat.reduceBEq, Nat.reduceEqDiff, Nat.reduceLT, Nat.reduceLeDiff, Nat.reduceAdd, Nat.reduceSub, Nat.reduceMul, reduceCtorEq, Int.reduceToNat, Int.reduceEq, Int.reduceLT, Int.reduceLE, Int.reduceNe, Int.reduceNeg , or_self, or_false, false_or , List.length_map, Bool.or_true, Bool.true_or, Bool.false_or, Bool.or_false, Int.cast_ofNat_Int, Sp.d, Step.d, intsD, hd0]
  refine (c26 7 8).callS rfl rfl rfl rfl rfl rfl ?_
  simp only [go_sem, Nat.reduceBEq, Nat.reduceEqDiff, Nat.reduceLT, Nat.reduceLeDiff, Nat.reduceAdd, Nat.reduceSub, Nat.reduceMul, reduceCtorEq, Int.reduceToNat, Int.reduceEq, Int.reduceLT, Int.reduceLE, Int.reduceNe, Int.reduceNeg , or_self, or_false, false_or , List.length_map, Bool.or_true, Bool.true_or, Bool.false_or, Bool.or_false, Int.cast_ofNat_Int, Sp.d, Step.d, intsD, hd0]
  refine (c24 0 5).callS rfl rfl rfl rfl rfl rfl ?_
  simp only [go_sem, Nat.reduceBEq, Nat.reduceEqDiff, Nat.reduceLT, Nat.reduceLeDiff, Nat.reduceAdd, Nat.reduceSub, Nat.reduceMul, reduceCtorEq, Int.reduceToNat, Int.reduceEq, Int.reduceLT, Int.reduceLE, Int.reduceNe, Int.reduceNeg , or_self, or_false, false_or , List.length_map, Bool.or_true, Bool.true_or, Bool.false_or, Bool.or_false, Int.cast_ofNat_Int, Sp.d, Step.d, intsD, hd0]
  refine (c24 1 7).callS rfl rfl rfl rfl rfl rfl ?_
  simp only [go_sem, Nat.reduceBEq, Nat.reduceEqDiff, Nat.reduceLT, Nat.reduceLeDiff, Nat.reduceAdd, Nat.reduceSub, Nat.reduceMul, reduceCtorEq, Int.reduceToNat, Int.reduceEq, Int.reduceLT, Int.reduceLE, Int.reduceNe, Int.reduceNeg , or_self, or_false, false_or , List.length_map, Bool.or_true, Bool.true_or, Bool.false_or, Bool.or_false, Int.cast_ofNat_Int, Sp.d, Step.d, intsD, hd0]
  refine (c24 2 4).callS rfl rfl rfl rfl rfl rfl ?_
  simp only [go_sem, Nat.reduceBEq, Nat.reduceEqDiff, Nat.reduceLT, Nat.reduceLeDiff, Nat.reduceAdd, Nat.reduceSub, Nat.reduceMul, reduceCtorEq, Int.reduceToNat, Int.reduceEq, Int.reduceLT, Int.reduceLE, Int.reduceNe, Int.reduceNeg , or_self, or_false, false_or , List.length_map, Bool.or_true, Bool.true_or, Bool.false_or, Bool.or_false, Int.cast_ofNat_Int, Sp.d, Step.d, intsD, hd0]
  refine (c29 [⟨0, 5⟩, ⟨1, 7⟩, ⟨2, 4⟩] [⟨0, 5⟩, ⟨1, 7⟩, ⟨2, 4⟩] (by simp) (by simp)).callS rfl rfl rfl rfl rfl rfl ?_
  simp only [go_sem, Nat.reduceBEq, Nat.reduceEqDiff, Nat.reduceLT, Nat.reduceLeDiff, Nat.reduceAdd, Nat.reduceSub, Nat.reduceMul, reduceCtorEq, Int.reduceToNat, Int.reduceEq, Int.reduceLT, Int.reduceLE, Int.reduceNe, Int.reduceNeg , or_self, or_false, false_or , List.length_map, Bool.or_true, Bool.true_or, Bool.false_or, Bool.or_false, Int.cast_ofNat_Int, Sp.d, Step.d, intsD, hd0]
  refine ADrw.treeG (fun _ => false) tt_ok (by kernel_rfl) (fun k => if k = 4 ∨ k = 9 ∨ k = 14 ∨ k = 32 then some .L else some .S) (.ones [0, 1, 2, 3, 4, 5, 6, 7, 8, 9, 10, 11, 12, 13, 14, 15, 16, 17, 18, 19, 20, 21, 22, 23, 24, 25, 26, 27, 28, 29, 30, 31, 32, 33, 34, 35, 36] .done) (by simp) (fun _ h => nomatch h) rfl rfl (by kernel_rfl) ?_
  simp only [go_sem, Nat.reduceBEq, Nat.reduceEqDiff, Nat.reduceLT, Nat.reduceLeDiff, Nat.reduceAdd, Nat.reduceSub, Nat.reduceMul, reduceCtorEq, Int.reduceToNat, Int.reduceEq, Int.reduceLT, Int.reduceLE, Int.reduceNe, Int.reduceNeg , or_self, or_false, false_or , List.length_map, Bool.or_true, Bool.true_or, Bool.false_or, Bool.or_false, Int.cast_ofNat_Int]
  refine (c23 [0, 1, 0] [0, 1, 0] (by simp) (by simp)).callS rfl rfl rfl rfl rfl rfl ?_
  simp only [go_sem, Nat.reduceBEq, Nat.reduceEqDiff, Nat.reduceLT, Nat.reduceLeDiff, Nat.reduceAdd, Nat.reduceSub, Nat.reduceMul, reduceCtorEq, Int.reduceToNat, Int.reduceEq, Int.reduceLT, Int.reduceLE, Int.reduceNe, Int.reduceNeg , or_self, or_false, false_or , List.length_map, Bool.or_true, Bool.true_or, Bool.false_or, Bool.or_false, Int.cast_ofNat_Int, Sp.d, Step.d, intsD, hd0]
  refine (c26 18 20).callS rfl rfl rfl rfl rfl rfl ?_
  simp only [go_sem, Nat.reduceBEq, Nat.reduceEqDiff, Nat.reduceLT, Nat.reduceLeDiff, Nat.reduceAdd, Nat.reduceSub, Nat.reduceMul, reduceCtorEq, Int.reduceToNat, Int.reduceEq, Int.reduceLT, Int.reduceLE, Int.reduceNe, Int.reduceNeg , or_self, or_false, false_or , List.length_map, Bool.or_true, Bool.true_or, Bool.false_or, Bool.or_false, Int.cast_ofNat_Int, Sp.d, Step.d, intsD, hd0]
  refine (c26 15 20).callS rfl rfl rfl rfl rfl rfl ?_
  simp only [go_sem, Nat.reduceBEq, Nat.reduceEqDiff, Nat.reduceLT, Nat.reduceLeDiff, Nat.reduceAdd, Nat.reduceSub, Nat.reduceMul, reduceCtorEq, Int.reduceToNat, Int.reduceEq, Int.reduceLT, Int.reduceLE, Int.reduceNe, Int.reduceNeg , or_self, or_false, false_or , List.length_map, Bool.or_true, Bool.true_or, Bool.false_or, Bool.or_false, Int.cast_ofNat_Int, Sp.d, Step.d, intsD, hd0]
  refine (c26 10 10).callS rfl rfl rfl rfl rfl rfl ?_
  simp only [go_sem, Nat.reduceBEq, Nat.reduceEqDiff, Nat.reduceLT, Nat.reduceLeDiff, Nat.reduceAdd, Nat.reduceSub, Nat.reduceMul, reduceCtorEq, Int.reduceToNat, Int.reduceEq, Int.reduceLT, Int.reduceLE, Int.reduceNe, Int.reduceNeg , or_self, or_false, false_or , List.length_map, Bool.or_true, Bool.true_or, Bool.false_or, Bool.or_false, Int.cast_ofNat_Int, Sp.d, Step.d, intsD, hd0]
  refine (c26 41 44).callS rfl rfl rfl rfl rfl rfl ?_
  simp only [go_sem, Nat.reduceBEq, Nat.reduceEqDiff, Nat.reduceLT, Nat.reduceLeDiff, Nat.reduceAdd, Nat.reduceSub, Nat.reduceMul, reduceCtorEq, Int.reduceToNat, Int.reduceEq, Int.reduceLT, Int.reduceLE, Int.reduceNe, Int.reduceNeg , or_self, or_false, false_or , List.length_map, Bool.or_true, Bool.true_or, Bool.false_or, Bool.or_false, Int.cast_ofNat_Int, Sp.d, Step.d, intsD, hd0]
  refine (c26 50 60).callS rfl rfl rfl rfl rfl rfl ?_
  simp only [go_sem, Nat.reduceBEq, Nat.reduceEqDiff, Nat.reduceLT, Nat.reduceLeDiff, Nat.reduceAdd, Nat.reduceSub, Nat.reduceMul, reduceCtorEq, Int.reduceToNat, Int.reduceEq, Int.reduceLT, Int.reduceLE, Int.reduceNe, Int.reduceNeg , or_self, or_false, false_or , List.length_map, Bool.or_true, Bool.true_or, Bool.false_or, Bool.or_false, Int.cast_ofNat_Int, Sp.d, Step.d, intsD, hd0]
  refine (c26 20 22).callS rfl rfl rfl rfl rfl rfl ?_
  simp only [go_sem, Nat.reduceBEq, Nat.reduceEqDiff, Nat.reduceLT, Nat.reduceLeDiff, Nat.reduceAdd, Nat.reduceSub, Nat.reduceMul, reduceCtorEq, Int.reduceToNat, Int.reduceEq, Int.reduceLT, Int.reduceLE, Int.reduceNe, Int.reduceNeg , or_self, or_false, false_or , List.length_map, Bool.or_true, Bool.true_or, Bool.false_or, Bool.or_false, Int.cast_ofNat_Int, Sp.d, Step.d, intsD, hd0]
  refine (c53 [⟨41, 44⟩, ⟨50, 60⟩, ⟨20, 22⟩] [⟨41, 44⟩, ⟨50, 60⟩, ⟨20, 22⟩] (by simp) (by simp)).callS rfl rfl rfl rfl rfl rfl ?_
  simp only [go_sem, Nat.reduceBEq, Nat.reduceEqDiff, Nat.reduceLT, Nat.reduceLeDiff, Nat.reduceAdd, Nat.reduceSub, Nat.reduceMul, reduceCtorEq, Int.reduceToNat, Int.reduceEq, Int.reduceLT, Int.reduceLE, Int.reduceNe, Int.reduceNeg , or_self, or_false, false_or , List.length_map, Bool.or_true, Bool.true_or, Bool.false_or, Bool.or_false, Int.cast_ofNat_Int, Sp.d, Step.d, intsD, hd0]
  refine (c23 [0] [0] (by simp) (by simp)).callS rfl rfl rfl rfl rfl rfl ?_
  simp only [go_sem, Nat.reduceBEq, Nat.reduceEqDiff, Nat.reduceLT, Nat.reduceLeDiff, Nat.reduceAdd, Nat.reduceSub, Nat.reduceMul, reduceCtorEq, Int.reduceToNat, Int.reduceEq, Int.reduceLT, Int.reduceLE, Int.reduceNe, Int.reduceNeg , or_self, or_false, false_or , List.length_map, Bool.or_true, Bool.true_or, Bool.false_or, Bool.or_false, Int.cast_ofNat_Int, Sp.d, Step.d, intsD, hd0]
  refine (c26 1 10).callS rfl rfl rfl rfl rfl rfl ?_
  simp only [go_sem, Nat.reduceBEq, Nat.reduceEqDiff, Nat.reduceLT, Nat.reduceLeDiff, Nat.reduceAdd, Nat.reduceSub, Nat.reduceMul, reduceCtorEq, Int.reduceToNat, Int.reduceEq, Int.reduceLT, Int.reduceLE, Int.reduceNe, Int.reduceNeg , or_self, or_false, false_or , List.length_map, Bool.or_true, Bool.true_or, Bool.false_or, Bool.or_false, Int.cast_ofNat_Int, Sp.d, Step.d, intsD, hd0]
end Go.Aw
end

section
set_option maxRecDepth 100000
namespace Go.Aw
open Go Go.Proofs

theorem has_int {f : Nat} {y : D} (h : HasT Try.prog (f + 1) 3 y) : ∃ n, y = .int .i64 n ∧ (Lit.int .i64 n).wf = true := by
  unfold HasT at h
  rw [Try.underlying3] at h
  exact h

theorem has_sp {f : Nat} {y : D} (h : HasT Try.prog (f + 2) 23 y) : ∃ s : Sp, y = s.d := by
  unfold HasT at h
  rw [Try.underlying23] at h
  obtain ⟨l, rfl, h⟩ := h
  simp only [HasFs] at h
  obtain ⟨y1, r1, rfl, h1, y2, r2, rfl, h2, rfl⟩ := h
  obtain ⟨n1, rfl, _⟩ := has_int h1
  obtain ⟨n2, rfl, _⟩ := has_int h2
  exact ⟨⟨n1, n2⟩, rfl⟩

theorem has_list {α : Type} {enc : α → D} {p : D → Prop} (he : ∀ y, p y → ∃ s, y = enc s) : ∀ l : List D, (∀ y ∈ l, p y) → ∃ ss : List α, l = ss.map enc
  | [], _ => ⟨[], rfl⟩
  | y :: r, h => by
    obtain ⟨s, rfl⟩ := he y (h y (by simp))
    obtain ⟨ss, rfl⟩ := has_list he r fun z hz => h z (List.mem_cons_of_mem _ hz)
    exact ⟨s :: ss, rfl⟩

theorem has_ints {f : Nat} {y : D} (h : HasT Try.prog (f + 2) 27 y) : ∃ l : List Int, y = .sl (l.map (.int .i64)) := by
  unfold HasT at h
  rw [Try.underlying27] at h
  obtain ⟨l, rfl, h1, hl⟩ := h
  obtain ⟨ss, rfl⟩ := has_list (fun y hy => by obtain ⟨n, rfl, hn⟩ := has_int hy; exact ⟨n, rfl⟩) l hl
  exact ⟨ss, rfl⟩

theorem has_plate {f : Nat} {y : D} (h : HasT Try.prog (f + 3) 117 y) : ∃ s : Plate, y = s.d := by
  unfold HasT at h
  rw [Try.underlying117] at h
  obtain ⟨l, rfl, h⟩ := h
  simp only [HasFs] at h
  obtain ⟨y1, r1, rfl, h1, y2, r2, rfl, h2, y3, r3, rfl, h3, rfl⟩ := h
  obtain ⟨n1, rfl⟩ := has_sp h1
  obtain ⟨n2, rfl, _⟩ := has_int h2
  obtain ⟨n3, rfl, _⟩ := has_int h3
  exact ⟨⟨n1, n2, n3⟩, rfl⟩

theorem has_bath {f : Nat} {y : D} (h : HasT Try.prog (f + 5) 26 y) : ∃ s : Bath, y = s.d := by
  unfold HasT at h
  rw [Try.underlying26] at h
  obtain ⟨l, rfl, h⟩ := h
  simp only [HasFs] at h
  obtain ⟨y1, r1, rfl, h1, y2, r2, rfl, h2, rfl⟩ := h
  obtain ⟨n1, rfl⟩ := has_sp h1
  unfold HasT at h2
  rw [Try.underlying24] at h2
  obtain ⟨l2, rfl, _, k2⟩ := h2
  obtain ⟨es, rfl⟩ := has_list (fun y hy => has_plate hy) l2 k2
  exact ⟨⟨n1, es⟩, rfl⟩

theorem has_step {f : Nat} {y : D} (h : HasT Try.prog (f + 2) 39 y) : ∃ s : Step, y = s.d := by
  unfold HasT at h
  rw [Try.underlying39] at h
  obtain ⟨l, rfl, h⟩ := h
  simp only [HasFs] at h
  obtain ⟨y1, r1, rfl, h1, y2, r2, rfl, h2, rfl⟩ := h
  obtain ⟨n1, rfl, _⟩ := has_int h1
  obtain ⟨n2, rfl, _⟩ := has_int h2
  exact ⟨⟨n1, n2⟩, rfl⟩

theorem has_steps {f : Nat} {y : D} (h : HasT Try.prog (f + 3) 37 y) : ∃ l : List Step, y = .sl (l.map Step.d) := by
  unfold HasT at h
  rw [Try.underlying37] at h
  obtain ⟨l, rfl, h1, hl⟩ := h
  obtain ⟨ss, rfl⟩ := has_list (fun y hy => has_step hy) l hl
  exact ⟨ss, rfl⟩
end Go.Aw
end

section
set_option maxRecDepth 100000
namespace Go.Aw
open Go Go.Proofs

theorem has_acid {f : Nat} {y : D} (h : HasT Try.prog (f + 3) 75 y) : ∃ s : Acid, y = s.d := by
  unfold HasT at h
  rw [Try.underlying75] at h
  obtain ⟨l, rfl, h⟩ := h
  simp only [HasFs] at h
  obtain ⟨y1, r1, rfl, h1, y2, r2, rfl, h2, rfl⟩ := h
  obtain ⟨n1, rfl⟩ := has_sp h1
  obtain ⟨n2, rfl, _⟩ := has_int h2
  exact ⟨⟨n1, n2⟩, rfl⟩

theorem has_acids {f : Nat} {y : D} (h : HasT Try.prog (f + 4) 71 y) : ∃ l : List Acid, y = .sl (l.map Acid.d) := by
  unfold HasT at h
  rw [Try.underlying71] at h
  obtain ⟨l, rfl, h1, hl⟩ := h
  obtain ⟨ss, rfl⟩ := has_list (fun y hy => has_acid hy) l hl
  exact ⟨ss, rfl⟩

theorem has_sps {f : Nat} {y : D} (h : HasT Try.prog (f + 3) 32 y) : ∃ l : List Sp, y = .sl (l.map Sp.d) := by
  unfold HasT at h
  rw [Try.underlying32] at h
  obtain ⟨l, rfl, h1, hl⟩ := h
  obtain ⟨ss, rfl⟩ := has_list (fun y hy => has_sp hy) l hl
  exact ⟨ss, rfl⟩

theorem has_how {f : Nat} {y : D} (h : HasT Try.prog (f + 1) 85 y) : ∃ n, y = .int .i64 n ∧ (Lit.int .i64 n).wf = true := by
  unfold HasT at h
  rw [Try.underlying85] at h
  exact h

theorem has_seen {f : Nat} {y : D} (h : HasT Try.prog (f + 3) 87 y) : ∃ s : Seen, y = s.d := by
  unfold HasT at h
  rw [Try.underlying87] at h
  obtain ⟨l, rfl, h⟩ := h
  simp only [HasFs] at h
  obtain ⟨y1, r1, rfl, h1, y2, r2, rfl, h2, rfl⟩ := h
  obtain ⟨n1, rfl⟩ := has_step h1
  obtain ⟨n2, rfl, _⟩ := has_how h2
  exact ⟨⟨n1, n2⟩, rfl⟩

theorem has_seens {f : Nat} {y : D} (h : HasT Try.prog (f + 4) 81 y) : ∃ l : List Seen, y = .sl (l.map Seen.d) := by
  unfold HasT at h
  rw [Try.underlying81] at h
  obtain ⟨l, rfl, h1, hl⟩ := h
  obtain ⟨ss, rfl⟩ := has_list (fun y hy => has_seen hy) l hl
  exact ⟨ss, rfl⟩
end Go.Aw
end

section
set_option maxRecDepth 100000
namespace Go.Aw
open Go Go.Proofs.Try

theorem c56 (full : Sp) (used : List Sp) (left : Sp) (hl : used.length ≤ 4294967296) : PC prog 56 [.d full.d, .d (.sl (used.map Sp.d)), .d left.d] (.d (.int .i64 (carboyP full used left))) := by
  refine PC.run (fun _ => false) tt_ok (fn := f56) (rs := [.tmp 6]) rfl rfl rfl rfl rfl rfl rfl ?_
  simp only [go_sem, Nat.reduceBEq, Nat.reduceEqDiff, Nat.reduceLT, Nat.reduceLeDiff, Nat.reduceAdd, Nat.reduceSub, Nat.reduceMul, reduceCtorEq, Int.reduceToNat, Int.reduceEq, Int.reduceLT, Int.reduceLE, Int.reduceNe, Int.reduceNeg , or_self, or_false, false_or , List.length_map, Bool.or_true, Bool.true_or, Bool.false_or, Bool.or_false, Int.cast_ofNat_Int, Sp.d]
  refine Br_split (fun h1 => ?_) (fun h1 => ?_) <;> simp only [go_sem, Nat.reduceBEq, Nat.reduceEqDiff, Nat.reduceLT, Nat.reduceLeDiff, Nat.reduceAdd, Nat.reduceSub, Nat.reduceMul, reduceCtorEq, Int.reduceToNat, Int.reduceEq, Int.reduceLT, Int.reduceLE, Int.reduceNe, Int.reduceNeg , or_self, or_false, false_or , List.length_map, Bool.or_true, Bool.true_or, Bool.false_or, Bool.or_false, Int.cast_ofNat_Int, h1]
  · have h1' : used.length > 10 := by simp only [decide_eq_true_eq] at h1; omega
    simp [carboyP, h1']
  have h1' : ¬ used.length > 10 := by simp only [decide_eq_false_iff_not] at h1; omega
  have bad : (badCarboy full || used.any badCarboy || badCarboy left) = true → carboyP full used left = 2 := fun h => by simp only [carboyP, if_neg h1', if_pos h]
  refine (c47 full 0 5000).call rfl rfl rfl ?_
  rw [valid_iff]
  simp only [go_sem, Nat.reduceBEq, Nat.reduceEqDiff, Nat.reduceLT, Nat.reduceLeDiff, Nat.reduceAdd, Nat.reduceSub, Nat.reduceMul, reduceCtorEq, Int.reduceToNat, Int.reduceEq, Int.reduceLT, Int.reduceLE, Int.reduceNe, Int.reduceNeg , or_self, or_false, false_or , List.length_map, Bool.or_true, Bool.true_or, Bool.false_or, Bool.or_false, Int.cast_ofNat_Int, h1]
  refine Br_split (fun g1 => ?_) (fun g1 => ?_) <;> simp only [go_sem, Nat.reduceBEq, Nat.reduceEqDiff, Nat.reduceLT, Nat.reduceLeDiff, Nat.reduceAdd, Nat.reduceSub, Nat.reduceMul, reduceCtorEq, Int.reduceToNat, Int.reduceEq, Int.reduceLT, Int.reduceLE, Int.reduceNe, Int.reduceNeg , or_self, or_false, false_or , List.length_map, Bool.or_true, Bool.true_or, Bool.false_or, Bool.or_false, Int.cast_ofNat_Int, h1, g1]
  · rw [bad (by rw [show badCarboy full = true from g1]; rfl)]
  refine (c47 left 0 5000).call rfl rfl rfl ?_
  rw [valid_iff]
  simp only [go_sem, Nat.reduceBEq, Nat.reduceEqDiff, Nat.reduceLT, Nat.reduceLeDiff, Nat.reduceAdd, Nat.reduceSub, Nat.reduceMul, reduceCtorEq, Int.reduceToNat, Int.reduceEq, Int.reduceLT, Int.reduceLE, Int.reduceNe, Int.reduceNeg , or_self, or_false, false_or , List.length_map, Bool.or_true, Bool.true_or, Bool.false_or, Bool.or_false, Int.cast_ofNat_Int, h1, g1]
  refine Br_split (fun g2 => ?_) (fun g2 => ?_) <;> simp only [go_sem, Nat.reduceBEq, Nat.reduceEqDiff, Nat.reduceLT, Nat.reduceLeDiff, Nat.reduceAdd, Nat.reduceSub, Nat.reduceMul, reduceCtorEq, Int.reduceToNat, Int.reduceEq, Int.reduceLT, Int.reduceLE, Int.reduceNe, Int.reduceNeg , or_self, or_false, false_or , List.length_map, Bool.or_true, Bool.true_or, Bool.false_or, Bool.or_false, Int.cast_ofNat_Int, h1, g1, g2]
  · rw [bad (by rw [show badCarboy left = true from g2]; simp)]
  have hcp : carboyP full used left = if used.any badCarboy = true then 2 else 0 := by
    simp only [carboyP, if_neg h1', show badCarboy full = false from g1, show badCarboy left = false from g2, Bool.false_or, Bool.or_false]
  rw [hcp]
  refine ALoop.by (S := Nat) (fun i => [(7, .d (.int .i64 i)), (1, .d (.sl (used.map Sp.d)))]) (fun i => []) (fun i => used.length - i) (fun i => i ≤ used.length ∧ (used.take i).any badCarboy = false) 0 (by simp) (fun _ h => nomatch h) ⟨Nat.zero_le _, rfl⟩ ?_ ?_
  · refine ForgetTo.drop (H0 := []) (Y := [_, _]) (Nat.zero_le _) rfl (by simp [BBs]) ?_
    simp [EWp, Env.look, pubV]
  rintro i ⟨hi, hx⟩ hn
  refine AWP.run (fun _ => false) tt_ok (fun _ h => nomatch h) (by simp) rfl ?_
  simp only [go_sem, Nat.reduceBEq, Nat.reduceEqDiff, Nat.reduceLT, Nat.reduceLeDiff, Nat.reduceAdd, Nat.reduceSub, Nat.reduceMul, reduceCtorEq, Int.reduceToNat, Int.reduceEq, Int.reduceLT, Int.reduceLE, Int.reduceNe, Int.reduceNeg , or_self, or_false, false_or , List.length_map, Bool.or_true, Bool.true_or, Bool.false_or, Bool.or_false, Int.cast_ofNat_Int]
  refine Br_split (fun hd => ?_) (fun hd => ?_) <;> simp only [go_sem, Nat.reduceBEq, Nat.reduceEqDiff, Nat.reduceLT, Nat.reduceLeDiff, Nat.reduceAdd, Nat.reduceSub, Nat.reduceMul, reduceCtorEq, Int.reduceToNat, Int.reduceEq, Int.reduceLT, Int.reduceLE, Int.reduceNe, Int.reduceNeg , or_self, or_false, false_or , List.length_map, Bool.or_true, Bool.true_or, Bool.false_or, Bool.or_false, Int.cast_ofNat_Int, hd]
  · have hlt : i < used.length := by simpa using hd
    have hix : idx? (used.map Sp.d) (i : Int) = some (used[i]).d := by simp [idx?, List.getElem?_eq_getElem hlt]
    have hst : (used.take (i + 1)).any badCarboy = badCarboy used[i] := by
      rw [List.take_add_one, List.getElem?_eq_getElem hlt, List.any_append, hx]; simp
    have hmem : badCarboy used[i] = true → used.any badCarboy = true := fun h => List.any_eq_true.2 ⟨_, List.getElem_mem hlt, h⟩
    generalize used[i] = a at hix hst hmem
    simp only [go_sem, Nat.reduceBEq, Nat.reduceEqDiff, Nat.reduceLT, Nat.reduceLeDiff, Nat.reduceAdd, Nat.reduceSub, Nat.reduceMul, reduceCtorEq, Int.reduceToNat, Int.reduceEq, Int.reduceLT, Int.reduceLE, Int.reduceNe, Int.reduceNeg , or_self, or_false, false_or , List.length_map, Bool.or_true, Bool.true_or, Bool.false_or, Bool.or_false, Int.cast_ofNat_Int, hix, Sp.d]
    refine (c47 a 0 5000).call rfl rfl rfl ?_
    rw [valid_iff]
    simp only [go_sem, Nat.reduceBEq, Nat.reduceEqDiff, Nat.reduceLT, Nat.reduceLeDiff, Nat.reduceAdd, Nat.reduceSub, Nat.reduceMul, reduceCtorEq, Int.reduceToNat, Int.reduceEq, Int.reduceLT, Int.reduceLE, Int.reduceNe, Int.reduceNeg , or_self, or_false, false_or , List.length_map, Bool.or_true, Bool.true_or, Bool.false_or, Bool.or_false, Int.cast_ofNat_Int, hd]
    refine Br_split (fun g3 => ?_) (fun g3 => ?_) <;> simp only [go_sem, Nat.reduceBEq, Nat.reduceEqDiff, Nat.reduceLT, Nat.reduceLeDiff, Nat.reduceAdd, Nat.reduceSub, Nat.reduceMul, reduceCtorEq, Int.reduceToNat, Int.reduceEq, Int.reduceLT, Int.reduceLE, Int.reduceNe, Int.reduceNeg , or_self, or_false, false_or , List.length_map, Bool.or_true, Bool.true_or, Bool.false_or, Bool.or_false, Int.cast_ofNat_Int, hd, g3]
    · rw [if_pos (hmem g3)]
    · refine ⟨i + 1, ⟨hlt, by rw [hst]; exact g3⟩, by omega, ?_⟩
      exact ForgetTo.same' (by simp) (by simp [EWe, Env.look, w64 (n := (i : Int) + 1) (by omega) (by omega)]) rfl
  · have hie : i = used.length := by simp at hd; omega
    subst hie
    rw [List.take_length] at hx
    simp [hx]

theorem miss_comm (s : Sp) : ∀ (l : List Sp) (m : Sp), l.foldl missStep (missStep m s) = missStep (l.foldl missStep m) s
  | [], m => rfl
  | a :: r, m => by
    have : missStep (missStep m s) a = missStep (missStep m a) s := by simp only [missStep, Sp.mk.injEq]; omega
    simp only [List.foldl_cons]
    rw [this, miss_comm s r]

def missR (full : Sp) (used : List Sp) (left : Sp) : Sp := ⟨max 0 (missAll full used left).lo, (missAll full used left).hi⟩

theorem c57 (full : Sp) (used : List Sp) (left : Sp) (h : carboyP full used left = 0) : PC prog 57 [.d full.d, .d (.sl (used.map Sp.d)), .d left.d] (.d (missR full used left).d) := by
  have hu : used.length ≤ 10 ∧ badCarboy full = false ∧ badCarboy left = false ∧ ∀ s ∈ used, badCarboy s = false := by
    unfold carboyP at h
    split at h
    · cases h
    · split at h
      · cases h
      · rename_i h1 h2
        simp only [Bool.or_eq_true, not_or, Bool.not_eq_true] at h2
        exact ⟨by omega, h2.1.1, h2.2, fun s hs => by have := List.any_eq_false.1 h2.1.2 s hs; simpa using this⟩
  obtain ⟨u1, u2, u3, u4⟩ := hu
  have hf := (badCarboy_iff full).1 u2
  have hl := (badCarboy_iff left).1 u3
  have hma : missAll full used left = used.foldl missStep (missStep full left) := by rw [miss_comm, missAll, List.foldl_append]; rfl
  refine PC.run (fun _ => false) tt_ok (fn := f57) (rs := [.cell 6 23]) rfl rfl rfl rfl rfl rfl rfl ?_
  simp only [go_sem, Nat.reduceBEq, Nat.reduceEqDiff, Nat.reduceLT, Nat.reduceLeDiff, Nat.reduceAdd, Nat.reduceSub, Nat.reduceMul, reduceCtorEq, Int.reduceToNat, Int.reduceEq, Int.reduceLT, Int.reduceLE, Int.reduceNe, Int.reduceNeg , or_self, or_false, false_or , List.length_map, Bool.or_true, Bool.true_or, Bool.false_or, Bool.or_false, Int.cast_ofNat_Int, Sp.d]
  refine ADrw.treeG (fun _ => false) tt_ok (by kernel_rfl) (fun k => if k = 1 ∨ k = 3 ∨ k = 6 ∨ k = 8 then some .L else some .S) (.ones [0, 1, 2, 3, 4, 5, 6, 7, 8, 9, 10, 11] .done) (by simp) (fun _ h => nomatch h) rfl rfl (by kernel_rfl) ?_
  have w1 : IntKind.i64.wrap (full.lo - left.hi) = full.lo - left.hi := w64 (by omega) (by omega)
  have w2 : IntKind.i64.wrap (full.hi - left.lo) = full.hi - left.lo := w64 (by omega) (by omega)
  simp only [go_sem, Nat.reduceBEq, Nat.reduceEqDiff, Nat.reduceLT, Nat.reduceLeDiff, Nat.reduceAdd, Nat.reduceSub, Nat.reduceMul, reduceCtorEq, Int.reduceToNat, Int.reduceEq, Int.reduceLT, Int.reduceLE, Int.reduceNe, Int.reduceNeg , or_self, or_false, false_or , List.length_map, Bool.or_true, Bool.true_or, Bool.false_or, Bool.or_false, Int.cast_ofNat_Int, w1, w2]
  refine ALoop.by (S := Nat) (fun i => [(9, .d (.int .i64 i)), (8, .d (.int .i64 ((used.take i).foldl missStep (missStep full left)).hi)), (7, .d (.int .i64 ((used.take i).foldl missStep (missStep full left)).lo)), (6, .ptr 2 0), (1, .d (.sl (used.map Sp.d)))])
    (fun i => [.cells [.d (.int .i64 full.lo), .d (.int .i64 full.hi)], .cells [.d (.int .i64 left.lo), .d (.int .i64 left.hi)], .cells [.d (.int .i64 0), .d (.int .i64 0)]]) (fun i => used.length - i) (fun i => i ≤ used.length) 0 (by simp) (fun _ h => nomatch h) (Nat.zero_le _) ?_ ?_
  · exact ForgetTo.same' (by simp) (by simp [EWe, Env.look, missStep]) rfl
  rintro i hi hn
  refine AWP.run (fun _ => false) tt_ok (fun _ h => nomatch h) (by simp) rfl ?_
  simp only [go_sem, Nat.reduceBEq, Nat.reduceEqDiff, Nat.reduceLT, Nat.reduceLeDiff, Nat.reduceAdd, Nat.reduceSub, Nat.reduceMul, reduceCtorEq, Int.reduceToNat, Int.reduceEq, Int.reduceLT, Int.reduceLE, Int.reduceNe, Int.reduceNeg , or_self, or_false, false_or , List.length_map, Bool.or_true, Bool.true_or, Bool.false_or, Bool.or_false, Int.cast_ofNat_Int]
  refine Br_split (fun hd => ?_) (fun hd => ?_) <;> simp only [go_sem, Nat.reduceBEq, Nat.reduceEqDiff, Nat.reduceLT, Nat.reduceLeDiff, Nat.reduceAdd, Nat.reduceSub, Nat.reduceMul, reduceCtorEq, Int.reduceToNat, Int.reduceEq, Int.reduceLT, Int.reduceLE, Int.reduceNe, Int.reduceNeg , or_self, or_false, false_or , List.length_map, Bool.or_true, Bool.true_or, Bool.false_or, Bool.or_false, Int.cast_ofNat_Int, hd]
  · have hlt : i < used.length := by simpa using hd
    have hix : idx? (used.map Sp.d) (i : Int) = some (used[i]).d := by simp [idx?, List.getElem?_eq_getElem hlt]
    have hst : (used.take (i + 1)).foldl missStep (missStep full left) = missStep ((used.take i).foldl missStep (missStep full left)) used[i] := by
      rw [List.take_add_one, List.getElem?_eq_getElem hlt, List.foldl_append]; rfl
    have hbn := miss_bnd (used.take i) (missStep full left) (fun s hs => u4 s (List.mem_of_mem_take hs))
    have htl : (used.take i).length = i := by simp; omega
    rw [htl] at hbn
    simp only [missStep] at hbn
    have hs := (badCarboy_iff _).1 (u4 _ (List.getElem_mem hlt))
    rw [show (Sp.mk (full.lo - left.hi) (full.hi - left.lo)) = missStep full left from rfl] at hbn
    generalize (used.take i).foldl missStep (missStep full left) = m at hst hbn
    generalize used[i] = s at hix hst hs
    refine ADrw.treeG (fun _ => false) tt_ok (by kernel_rfl) (fun _ => some .S) (.ones [0, 1, 2, 3, 4, 5, 6, 7, 8, 9, 10, 11, 12, 13, 14, 15] .done) (by simp) (fun _ h => nomatch h) rfl rfl (by kernel_rfl) ?_
    simp only [go_sem, Nat.reduceBEq, Nat.reduceEqDiff, Nat.reduceLT, Nat.reduceLeDiff, Nat.reduceAdd, Nat.reduceSub, Nat.reduceMul, reduceCtorEq, Int.reduceToNat, Int.reduceEq, Int.reduceLT, Int.reduceLE, Int.reduceNe, Int.reduceNeg , or_self, or_false, false_or , List.length_map, Bool.or_true, Bool.true_or, Bool.false_or, Bool.or_false, Int.cast_ofNat_Int, hix, Sp.d]
    refine ⟨i + 1, hlt, by omega, ?_⟩
    exact ForgetTo.same' (by simp) (by simp only [hst]; simp [EWe, Env.look, missStep, w64 (n := (i : Int) + 1) (by omega) (by omega), w64 (n := m.lo - s.hi) (by omega) (by omega), w64 (n := m.hi - s.lo) (by omega) (by omega)]) rfl
  · have hie : i = used.length := by simp at hd; omega
    subst hie
    rw [List.take_length, ← hma]
    simp [missR]

theorem c9 (full : Sp) (used : List Sp) (left : Sp) : PC prog 9 [.d full.d, .d (.sl (used.map Sp.d)), .d left.d] (.d (.bool true)) := by
  refine PC.run (fun _ => false) tt_ok (fn := f9) (rs := [.tmp 6]) rfl rfl rfl rfl rfl rfl rfl ?_
  simp only [go_sem, Nat.reduceBEq, Nat.reduceEqDiff, Nat.reduceLT, Nat.reduceLeDiff, Nat.reduceAdd, Nat.reduceSub, Nat.reduceMul, reduceCtorEq, Int.reduceToNat, Int.reduceEq, Int.reduceLT, Int.reduceLE, Int.reduceNe, Int.reduceNeg , or_self, or_false, false_or , List.length_map, Bool.or_true, Bool.true_or, Bool.false_or, Bool.or_false, Int.cast_ofNat_Int, Sp.d]
  refine Br_split (fun h1 => ?_) (fun h1 => ?_) <;> simp only [go_sem, Nat.reduceBEq, Nat.reduceEqDiff, Nat.reduceLT, Nat.reduceLeDiff, Nat.reduceAdd, Nat.reduceSub, Nat.reduceMul, reduceCtorEq, Int.reduceToNat, Int.reduceEq, Int.reduceLT, Int.reduceLE, Int.reduceNe, Int.reduceNeg , or_self, or_false, false_or , List.length_map, Bool.or_true, Bool.true_or, Bool.false_or, Bool.or_false, Int.cast_ofNat_Int, h1]
  · refine c17.call rfl rfl rfl ?_
    simp only [go_sem, Nat.reduceBEq, Nat.reduceEqDiff, Nat.reduceLT, Nat.reduceLeDiff, Nat.reduceAdd, Nat.reduceSub, Nat.reduceMul, reduceCtorEq, Int.reduceToNat, Int.reduceEq, Int.reduceLT, Int.reduceLE, Int.reduceNe, Int.reduceNeg , or_self, or_false, false_or , List.length_map, Bool.or_true, Bool.true_or, Bool.false_or, Bool.or_false, Int.cast_ofNat_Int, h1]
  have hl : used.length ≤ 20 := by simp only [decide_eq_false_iff_not] at h1; omega
  have hle : used.length ≤ 4294967296 := by omega
  have hsz := sized_sps used
  have hd0 : ∀ {α : Type} [DecidableEq α] (l : α), decide (l = l) = true := fun l => by simp
  simp only [go_sem, Nat.reduceBEq, Nat.reduceEqDiff, Nat.reduceLT, Nat.reduceLeDiff, Nat.reduceAdd, Nat.reduceSub, Nat.reduceMul, reduceCtorEq, Int.reduceToNat, Int.reduceEq, Int.reduceLT, Int.reduceLE, Int.reduceNe, Int.reduceNeg , or_self, or_false, false_or , List.length_map, Bool.or_true, Bool.true_or, Bool.false_or, Bool.or_false, Int.cast_ofNat_Int, h1, hle, hsz, List.length_map, List.nil_append, Nat.zero_add]
  refine (c55 full used left (by omega)).call rfl rfl rfl ?_
  simp only [go_sem, Nat.reduceBEq, Nat.reduceEqDiff, Nat.reduceLT, Nat.reduceLeDiff, Nat.reduceAdd, Nat.reduceSub, Nat.reduceMul, reduceCtorEq, Int.reduceToNat, Int.reduceEq, Int.reduceLT, Int.reduceLE, Int.reduceNe, Int.reduceNeg , or_self, or_false, false_or , List.length_map, Bool.or_true, Bool.true_or, Bool.false_or, Bool.or_false, Int.cast_ofNat_Int, h1, Sp.d]
  refine (c53 used used (by omega) (by omega)).call rfl rfl rfl ?_
  simp only [go_sem, Nat.reduceBEq, Nat.reduceEqDiff, Nat.reduceLT, Nat.reduceLeDiff, Nat.reduceAdd, Nat.reduceSub, Nat.reduceMul, reduceCtorEq, Int.reduceToNat, Int.reduceEq, Int.reduceLT, Int.reduceLE, Int.reduceNe, Int.reduceNeg , or_self, or_false, false_or , List.length_map, Bool.or_true, Bool.true_or, Bool.false_or, Bool.or_false, Int.cast_ofNat_Int, h1, hd0]
  refine (c56 full used left (by omega)).call rfl rfl rfl ?_
  simp only [go_sem, Nat.reduceBEq, Nat.reduceEqDiff, Nat.reduceLT, Nat.reduceLeDiff, Nat.reduceAdd, Nat.reduceSub, Nat.reduceMul, reduceCtorEq, Int.reduceToNat, Int.reduceEq, Int.reduceLT, Int.reduceLE, Int.reduceNe, Int.reduceNeg , or_self, or_false, false_or , List.length_map, Bool.or_true, Bool.true_or, Bool.false_or, Bool.or_false, Int.cast_ofNat_Int, h1]
  refine Br_split (fun h0 => ?_) (fun h0 => ?_) <;> simp only [go_sem, Nat.reduceBEq, Nat.reduceEqDiff, Nat.reduceLT, Nat.reduceLeDiff, Nat.reduceAdd, Nat.reduceSub, Nat.reduceMul, reduceCtorEq, Int.reduceToNat, Int.reduceEq, Int.reduceLT, Int.reduceLE, Int.reduceNe, Int.reduceNeg , or_self, or_false, false_or , List.length_map, Bool.or_true, Bool.true_or, Bool.false_or, Bool.or_false, Int.cast_ofNat_Int, h0]
  · have hc0 : carboyP full used left = 0 := by simpa using h0
    have hmp : missP full used left = if (missAll full used left).hi < 0 then (sp0, 9) else (missR full used left, 0) := by simp only [missP, hc0, if_true, missR]
    refine (c57 full used left hc0).call rfl rfl rfl ?_
    have hmr : (missR full used left).hi = (missAll full used left).hi := rfl
    by_cases h9 : (missAll full used left).hi < 0
    · have h9' : decide (0 ≤ (missR full used left).hi) = false := by simp; omega
      rw [if_pos h9] at hmp
      simp only [go_sem, Nat.reduceBEq, Nat.reduceEqDiff, Nat.reduceLT, Nat.reduceLeDiff, Nat.reduceAdd, Nat.reduceSub, Nat.reduceMul, reduceCtorEq, Int.reduceToNat, Int.reduceEq, Int.reduceLT, Int.reduceLE, Int.reduceNe, Int.reduceNeg , or_self, or_false, false_or , List.length_map, Bool.or_true, Bool.true_or, Bool.false_or, Bool.or_false, Int.cast_ofNat_Int, h0, h9', hmp, Sp.d]
      refine ADrw.treeG (fun _ => false) tt_ok (by kernel_rfl) (fun k => if k = 4 then some .L else some .S) (.ones [0, 1, 2, 3, 4, 5, 6, 7, 8, 9, 10, 11] .done) (by simp) (fun _ h => nomatch h) rfl rfl (by kernel_rfl) ?_
      simp only [go_sem, Nat.reduceBEq, Nat.reduceEqDiff, Nat.reduceLT, Nat.reduceLeDiff, Nat.reduceAdd, Nat.reduceSub, Nat.reduceMul, reduceCtorEq, Int.reduceToNat, Int.reduceEq, Int.reduceLT, Int.reduceLE, Int.reduceNe, Int.reduceNeg , or_self, or_false, false_or , List.length_map, Bool.or_true, Bool.true_or, Bool.false_or, Bool.or_false, Int.cast_ofNat_Int, h0, hd0]
      refine (c26 0 0).callS rfl rfl rfl rfl rfl rfl ?_
      simp only [go_sem, Nat.reduceBEq, Nat.reduceEqDiff, Nat.reduceLT, Nat.reduceLeDiff, Nat.reduceAdd, Nat.reduceSub, Nat.reduceMul, reduceCtorEq, Int.reduceToNat, Int.reduceEq, Int.reduceLT, Int.reduceLE, Int.reduceNe, Int.reduceNeg , or_self, or_false, false_or , List.length_map, Bool.or_true, Bool.true_or, Bool.false_or, Bool.or_false, Int.cast_ofNat_Int, h0, hd0, Sp.d, sp0]
      refine c17.callS rfl rfl rfl rfl rfl rfl ?_
      simp only [go_sem, Nat.reduceBEq, Nat.reduceEqDiff, Nat.reduceLT, Nat.reduceLeDiff, Nat.reduceAdd, Nat.reduceSub, Nat.reduceMul, reduceCtorEq, Int.reduceToNat, Int.reduceEq, Int.reduceLT, Int.reduceLE, Int.reduceNe, Int.reduceNeg , or_self, or_false, false_or , List.length_map, Bool.or_true, Bool.true_or, Bool.false_or, Bool.or_false, Int.cast_ofNat_Int, h0, hd0]
    · have h9' : decide (0 ≤ (missR full used left).hi) = true := by simp; omega
      rw [if_neg h9] at hmp
      simp only [go_sem, Nat.reduceBEq, Nat.reduceEqDiff, Nat.reduceLT, Nat.reduceLeDiff, Nat.reduceAdd, Nat.reduceSub, Nat.reduceMul, reduceCtorEq, Int.reduceToNat, Int.reduceEq, Int.reduceLT, Int.reduceLE, Int.reduceNe, Int.reduceNeg , or_self, or_false, false_or , List.length_map, Bool.or_true, Bool.true_or, Bool.false_or, Bool.or_false, Int.cast_ofNat_Int, h0, h9', hmp, Sp.d, hd0]
      refine c17.call rfl rfl rfl ?_
      simp only [go_sem, Nat.reduceBEq, Nat.reduceEqDiff, Nat.reduceLT, Nat.reduceLeDiff, Nat.reduceAdd, Nat.reduceSub, Nat.reduceMul, reduceCtorEq, Int.reduceToNat, Int.reduceEq, Int.reduceLT, Int.reduceLE, Int.reduceNe, Int.reduceNeg , or_self, or_false, false_or , List.length_map, Bool.or_true, Bool.true_or, Bool.false_or, Bool.or_false, Int.cast_ofNat_Int, h0, h9', hmp, Sp.d, hd0]
  · have hc0 : ¬ carboyP full used left = 0 := by simpa using h0
    have hmp : missP full used left = (sp0, carboyP full used left) := by simp only [missP, if_neg hc0]
    simp only [hmp]
    refine ADrw.treeG (fun _ => false) tt_ok (by kernel_rfl) (fun k => if k = 4 then some .L else some .S) (.ones [0, 1, 2, 3, 4, 5, 6, 7, 8, 9, 10, 11] .done) (by simp) (fun _ h => nomatch h) rfl rfl (by kernel_rfl) ?_
    simp only [go_sem, Nat.reduceBEq, Nat.reduceEqDiff, Nat.reduceLT, Nat.reduceLeDiff, Nat.reduceAdd, Nat.reduceSub, Nat.reduceMul, reduceCtorEq, Int.reduceToNat, Int.reduceEq, Int.reduceLT, Int.reduceLE, Int.reduceNe, Int.reduceNeg , or_self, or_false, false_or , List.length_map, Bool.or_true, Bool.true_or, Bool.false_or, Bool.or_false, Int.cast_ofNat_Int, h0, hd0]
    refine (c26 0 0).callS rfl rfl rfl rfl rfl rfl ?_
    simp only [go_sem, Nat.reduceBEq, Nat.reduceEqDiff, Nat.reduceLT, Nat.reduceLeDiff, Nat.reduceAdd, Nat.reduceSub, Nat.reduceMul, reduceCtorEq, Int.reduceToNat, Int.reduceEq, Int.reduceLT, Int.reduceLE, Int.reduceNe, Int.reduceNeg , or_self, or_false, false_or , List.length_map, Bool.or_true, Bool.true_or, Bool.false_or, Bool.or_false, Int.cast_ofNat_Int, h0, hd0, Sp.d, sp0]
    refine c17.callS rfl rfl rfl rfl rfl rfl ?_
    simp only [go_sem, Nat.reduceBEq, Nat.reduceEqDiff, Nat.reduceLT, Nat.reduceLeDiff, Nat.reduceAdd, Nat.reduceSub, Nat.reduceMul, reduceCtorEq, Int.reduceToNat, Int.reduceEq, Int.reduceLT, Int.reduceLE, Int.reduceNe, Int.reduceNeg , or_self, or_false, false_or , List.length_map, Bool.or_true, Bool.true_or, Bool.false_or, Bool.or_false, Int.cast_ofNat_Int, h0, hd0]
end Go.Aw
end
