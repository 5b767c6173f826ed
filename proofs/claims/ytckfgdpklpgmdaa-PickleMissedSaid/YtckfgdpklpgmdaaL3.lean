/- The reference: baths; the law's helpers. The bath of the document's examples. The document's examples. What the document's examples say is so. Arguments of the program's types. Bytes as arguments; the law of what is missing, without the reference. Bytes as arguments of the law. -/
import Derived.Test.YtckfgdpklpgmdaaL2
set_option linter.unusedSimpArgs false
set_option linter.unusedVariables false

section
set_option maxRecDepth 100000
namespace Go.Aw
open Go Go.Proofs.Try

theorem c24 (p h : Int) : PC prog 24 [.d (.int .i64 p), .d (.int .i64 h)] (.d (Step.mk p h).d) := by
  refine PC.run (fun _ => false) tt_ok (fn := f24) (rs := [.cell 4 39]) rfl rfl rfl rfl rfl rfl rfl ?_
  simp only [go_sem, Nat.reduceBEq, Nat.reduceEqDiff, Nat.reduceLT, Nat.reduceLeDiff, Nat.reduceAdd, Nat.reduceSub, Nat.reduceMul, reduceCtorEq, Int.reduceToNat, Int.reduceEq, Int.reduceLT, Int.reduceLE, Int.reduceNe, Int.reduceNeg , or_self, or_false, false_or , List.length_map, Bool.or_true, Bool.true_or, Bool.false_or, Bool.or_false, Int.cast_ofNat_Int, Step.d]

theorem c26 (p h : Int) : PC prog 26 [.d (.int .i64 p), .d (.int .i64 h)] (.d (Sp.mk p h).d) := by
  refine PC.run (fun _ => false) tt_ok (fn := f26) (rs := [.cell 4 23]) rfl rfl rfl rfl rfl rfl rfl ?_
  simp only [go_sem, Nat.reduceBEq, Nat.reduceEqDiff, Nat.reduceLT, Nat.reduceLeDiff, Nat.reduceAdd, Nat.reduceSub, Nat.reduceMul, reduceCtorEq, Int.reduceToNat, Int.reduceEq, Int.reduceLT, Int.reduceLE, Int.reduceNe, Int.reduceNeg , or_self, or_false, false_or , List.length_map, Bool.or_true, Bool.true_or, Bool.false_or, Bool.or_false, Int.cast_ofNat_Int, Sp.d]

theorem sized_plates (l : List Plate) : sized 4 (l.map Plate.d) = true := by
  simp [sized, Plate.d, dcells]

theorem c18 (b : Bath) (hb : b.plates.length ≤ 4294967295) : PC prog 18 [.d b.d] (.d b.d) := by
  refine PC.run (fun _ => false) tt_ok (fn := f18) (rs := [.cell 2 26]) rfl rfl rfl rfl rfl rfl rfl ?_
  have hsz := sized_plates b.plates
  have hle : b.plates.length ≤ 4294967296 := by omega
  simp only [go_sem, Nat.reduceBEq, Nat.reduceEqDiff, Nat.reduceLT, Nat.reduceLeDiff, Nat.reduceAdd, Nat.reduceSub, Nat.reduceMul, reduceCtorEq, Int.reduceToNat, Int.reduceEq, Int.reduceLT, Int.reduceLE, Int.reduceNe, Int.reduceNeg , or_self, or_false, false_or , List.length_map, Bool.or_true, Bool.true_or, Bool.false_or, Bool.or_false, Int.cast_ofNat_Int, Bath.d, hsz, hle, List.length_map, List.nil_append, Nat.zero_add]

theorem c35 (l : List Int) (n : Int) (hl : l.length ≤ 4294967296) : PC prog 35 [.d (.sl (l.map (.int .i64))), .d (.int .i64 n)] (.d (.bool (decide (n ∈ l)))) := by
  refine PC.run (fun _ => false) tt_ok (fn := f35) (rs := [.tmp 4]) rfl rfl rfl rfl rfl rfl rfl ?_
  simp only [go_sem, Nat.reduceBEq, Nat.reduceEqDiff, Nat.reduceLT, Nat.reduceLeDiff, Nat.reduceAdd, Nat.reduceSub, Nat.reduceMul, reduceCtorEq, Int.reduceToNat, Int.reduceEq, Int.reduceLT, Int.reduceLE, Int.reduceNe, Int.reduceNeg , or_self, or_false, false_or , List.length_map, Bool.or_true, Bool.true_or, Bool.false_or, Bool.or_false, Int.cast_ofNat_Int]
  refine ALoop.by (S := Nat) (fun i => [(5, .d (.int .i64 i)), (1, .d (.int .i64 n)), (0, .d (.sl (l.map (.int .i64))))]) (fun i => []) (fun i => l.length - i) (fun i => i ≤ l.length ∧ n ∉ l.take i) 0 (by simp) (fun _ h => nomatch h) ⟨Nat.zero_le _, by simp⟩ ?_ ?_
  · exact ForgetTo.same' (by simp) (by simp [EWe, Env.look]) rfl
  rintro i ⟨hi, hx⟩ hn
  refine AWP.run (fun _ => false) tt_ok (fun _ h => nomatch h) (by simp) rfl ?_
  simp only [go_sem, Nat.reduceBEq, Nat.reduceEqDiff, Nat.reduceLT, Nat.reduceLeDiff, Nat.reduceAdd, Nat.reduceSub, Nat.reduceMul, reduceCtorEq, Int.reduceToNat, Int.reduceEq, Int.reduceLT, Int.reduceLE, Int.reduceNe, Int.reduceNeg , or_self, or_false, false_or , List.length_map, Bool.or_true, Bool.true_or, Bool.false_or, Bool.or_false, Int.cast_ofNat_Int]
  refine Br_split (fun hd => ?_) (fun hd => ?_) <;> simp only [go_sem, Nat.reduceBEq, Nat.reduceEqDiff, Nat.reduceLT, Nat.reduceLeDiff, Nat.reduceAdd, Nat.reduceSub, Nat.reduceMul, reduceCtorEq, Int.reduceToNat, Int.reduceEq, Int.reduceLT, Int.reduceLE, Int.reduceNe, Int.reduceNeg , or_self, or_false, false_or , List.length_map, Bool.or_true, Bool.true_or, Bool.false_or, Bool.or_false, Int.cast_ofNat_Int, hd]
  · have hlt : i < l.length := by simpa using hd
    simp only [go_sem, Nat.reduceBEq, Nat.reduceEqDiff, Nat.reduceLT, Nat.reduceLeDiff, Nat.reduceAdd, Nat.reduceSub, Nat.reduceMul, reduceCtorEq, Int.reduceToNat, Int.reduceEq, Int.reduceLT, Int.reduceLE, Int.reduceNe, Int.reduceNeg , or_self, or_false, false_or , List.length_map, Bool.or_true, Bool.true_or, Bool.false_or, Bool.or_false, Int.cast_ofNat_Int, idx_nat, List.getElem?_map, List.getElem?_eq_getElem hlt]
    have hin := List.getElem_mem hlt
    have hst : l.take (i + 1) = l.take i ++ [l[i]] := List.take_succ_eq_append_getElem hlt
    generalize l[i] = x at hin hst
    refine Br_split (fun he => ?_) (fun he => ?_) <;> simp only [go_sem, Nat.reduceBEq, Nat.reduceEqDiff, Nat.reduceLT, Nat.reduceLeDiff, Nat.reduceAdd, Nat.reduceSub, Nat.reduceMul, reduceCtorEq, Int.reduceToNat, Int.reduceEq, Int.reduceLT, Int.reduceLE, Int.reduceNe, Int.reduceNeg , or_self, or_false, false_or , List.length_map, Bool.or_true, Bool.true_or, Bool.false_or, Bool.or_false, Int.cast_ofNat_Int, he]
    · have : x = n := by simpa using he
      subst this
      simp [hin]
    · have hne : ¬ n = x := fun e => by subst e; simp at he
      refine ⟨i + 1, ⟨hlt, by rw [hst]; simp [hx, hne]⟩, by omega, ?_⟩
      exact ForgetTo.same' (by simp) (by simp [EWe, Env.look, w64 (n := (i : Int) + 1) (by omega) (by omega)]) rfl
  · have hie : i = l.length := by simp at hd; omega
    subst hie
    rw [List.take_length] at hx
    simp [hx]

theorem c22 (a b : Bath) (ha : a.plates.length ≤ 4294967296) (hb : b.plates.length ≤ 4294967296) : PC prog 22 [.d a.d, .d b.d] (.d (.bool (decide (a = b)))) := by
  refine PC.run (fun _ => false) tt_ok (fn := f22) (rs := [.tmp 4]) rfl rfl rfl rfl rfl rfl rfl ?_
  simp only [go_sem, Nat.reduceBEq, Nat.reduceEqDiff, Nat.reduceLT, Nat.reduceLeDiff, Nat.reduceAdd, Nat.reduceSub, Nat.reduceMul, reduceCtorEq, Int.reduceToNat, Int.reduceEq, Int.reduceLT, Int.reduceLE, Int.reduceNe, Int.reduceNeg , or_self, or_false, false_or , List.length_map, Bool.or_true, Bool.true_or, Bool.false_or, Bool.or_false, Int.cast_ofNat_Int, Bath.d]
  have hne : ∀ h : ¬ (a.str = b.str ∧ a.plates = b.plates), decide (a = b) = false := fun h => by
    rw [decide_eq_false_iff_not]; intro e; subst e; exact h ⟨rfl, rfl⟩
  refine Br_split (fun h1 => ?_) (fun h1 => ?_) <;> simp only [go_sem, Nat.reduceBEq, Nat.reduceEqDiff, Nat.reduceLT, Nat.reduceLeDiff, Nat.reduceAdd, Nat.reduceSub, Nat.reduceMul, reduceCtorEq, Int.reduceToNat, Int.reduceEq, Int.reduceLT, Int.reduceLE, Int.reduceNe, Int.reduceNeg , or_self, or_false, false_or , List.length_map, Bool.or_true, Bool.true_or, Bool.false_or, Bool.or_false, Int.cast_ofNat_Int, h1]
  · rw [hne]
    rintro ⟨e1, _⟩
    rw [e1] at h1
    simp at h1
  have hstr : a.str = b.str := by
    cases hx : a.str; cases hy : b.str
    rw [hx, hy] at h1
    simpa using h1
  refine Br_split (fun h2 => ?_) (fun h2 => ?_) <;> simp only [go_sem, Nat.reduceBEq, Nat.reduceEqDiff, Nat.reduceLT, Nat.reduceLeDiff, Nat.reduceAdd, Nat.reduceSub, Nat.reduceMul, reduceCtorEq, Int.reduceToNat, Int.reduceEq, Int.reduceLT, Int.reduceLE, Int.reduceNe, Int.reduceNeg , or_self, or_false, false_or , List.length_map, Bool.or_true, Bool.true_or, Bool.false_or, Bool.or_false, Int.cast_ofNat_Int, h1, h2]
  · rw [hne]
    rintro ⟨_, e2⟩
    rw [e2] at h2
    simp at h2
  have hlen : a.plates.length = b.plates.length := by simp at h2; omega
  refine ALoop.by (S := Nat) (fun i => [(5, .d (.int .i64 i)), (3, .ptr 1 0), (2, .ptr 0 0)]) (fun i => [.cells [.d (.int .i64 a.str.lo), .d (.int .i64 a.str.hi), .d (.sl (a.plates.map Plate.d))], .cells [.d (.int .i64 b.str.lo), .d (.int .i64 b.str.hi), .d (.sl (b.plates.map Plate.d))]])
    (fun i => a.plates.length - i) (fun i => i ≤ a.plates.length ∧ a.plates.take i = b.plates.take i) 0 (by simp) (fun _ h => nomatch h) ⟨Nat.zero_le _, rfl⟩ ?_ ?_
  · exact ForgetTo.same' (by simp) (by simp [EWe, Env.look]) rfl
  rintro i ⟨hi, hx⟩ hn
  refine AWP.run (fun _ => false) tt_ok (fun _ h => nomatch h) (by simp) rfl ?_
  simp only [go_sem, Nat.reduceBEq, Nat.reduceEqDiff, Nat.reduceLT, Nat.reduceLeDiff, Nat.reduceAdd, Nat.reduceSub, Nat.reduceMul, reduceCtorEq, Int.reduceToNat, Int.reduceEq, Int.reduceLT, Int.reduceLE, Int.reduceNe, Int.reduceNeg , or_self, or_false, false_or , List.length_map, Bool.or_true, Bool.true_or, Bool.false_or, Bool.or_false, Int.cast_ofNat_Int]
  refine Br_split (fun hd => ?_) (fun hd => ?_) <;> simp only [go_sem, Nat.reduceBEq, Nat.reduceEqDiff, Nat.reduceLT, Nat.reduceLeDiff, Nat.reduceAdd, Nat.reduceSub, Nat.reduceMul, reduceCtorEq, Int.reduceToNat, Int.reduceEq, Int.reduceLT, Int.reduceLE, Int.reduceNe, Int.reduceNeg , or_self, or_false, false_or , List.length_map, Bool.or_true, Bool.true_or, Bool.false_or, Bool.or_false, Int.cast_ofNat_Int, hd]
  · have hlt : i < a.plates.length := by simpa using hd
    have hlt' : i < b.plates.length := by omega
    have hs := take_succ_eq hlt hlt' hx
    have hne2 : a.plates[i] ≠ b.plates[i] → a.plates ≠ b.plates := fun h e => h (by simp [e])
    refine ADrw.treeG (fun _ => false) tt_ok (by kernel_rfl) (fun k => if k = 1 ∨ k = 6 then some .L else some .S) (.ones [0, 1, 2, 3, 4, 5, 6, 7, 8, 9, 10] .done) (by simp) (fun _ h => nomatch h) rfl rfl (by kernel_rfl) ?_
    simp only [go_sem, Nat.reduceBEq, Nat.reduceEqDiff, Nat.reduceLT, Nat.reduceLeDiff, Nat.reduceAdd, Nat.reduceSub, Nat.reduceMul, reduceCtorEq, Int.reduceToNat, Int.reduceEq, Int.reduceLT, Int.reduceLE, Int.reduceNe, Int.reduceNeg , or_self, or_false, false_or , List.length_map, Bool.or_true, Bool.true_or, Bool.false_or, Bool.or_false, Int.cast_ofNat_Int, idx_nat, List.getElem?_map, List.getElem?_eq_getElem hlt, List.getElem?_eq_getElem hlt', Plate.d]
    generalize a.plates[i] = x at hs hne2
    generalize b.plates[i] = y at hs hne2
    refine Br_split (fun he => ?_) (fun he => ?_) <;> simp only [go_sem, Nat.reduceBEq, Nat.reduceEqDiff, Nat.reduceLT, Nat.reduceLeDiff, Nat.reduceAdd, Nat.reduceSub, Nat.reduceMul, reduceCtorEq, Int.reduceToNat, Int.reduceEq, Int.reduceLT, Int.reduceLE, Int.reduceNe, Int.reduceNeg , or_self, or_false, false_or , List.length_map, Bool.or_true, Bool.true_or, Bool.false_or, Bool.or_false, Int.cast_ofNat_Int, he]
    · have hxy : x ≠ y := fun e => by subst e; simp at he
      rw [hne]
      rintro ⟨_, e2⟩
      exact hne2 hxy e2
    · have heq : x = y := by
        obtain ⟨⟨x1, x2⟩, x3, x4⟩ := x
        obtain ⟨⟨y1, y2⟩, y3, y4⟩ := y
        simp at he
        simp [he]
      refine ⟨i + 1, ⟨hlt, hs.2 heq⟩, by omega, ?_⟩
      exact ForgetTo.same' (by simp) (by simp [EWe, Env.look, w64 (n := (i : Int) + 1) (by omega) (by omega)]) rfl
  · have hlt : ¬ i < a.plates.length := by simpa using hd
    rw [List.take_of_length_le (by omega), List.take_of_length_le (by omega)] at hx
    have : a = b := by
      obtain ⟨x, y⟩ := a
      obtain ⟨x', y'⟩ := b
      simp only at hstr hx
      rw [hstr, hx]
    simp [this]

theorem valid_iff (s : Sp) (a b : Int) : (decide (s.lo ≥ a) && decide (s.lo ≤ s.hi) && decide (s.hi ≤ b)) = (within a b [s.lo, s.hi] && decide (s.lo ≤ s.hi)) := by
  rw [Bool.eq_iff_iff]
  simp [within]
  omega

theorem in_iff (n a b : Int) : (decide (n ≥ a) && decide (n ≤ b)) = within a b [n] := by
  rw [Bool.eq_iff_iff]
  simp [within]

theorem c21 (b : Bath) (hb : b.plates.length ≤ 4294967296) : PC prog 21 [.d b.d] (.d (.int .i64 (checkP b))) := by
  refine PC.run (fun _ => false) tt_ok (fn := f21) (rs := [.tmp 2]) rfl rfl rfl rfl rfl rfl rfl ?_
  simp only [go_sem, Nat.reduceBEq, Nat.reduceEqDiff, Nat.reduceLT, Nat.reduceLeDiff, Nat.reduceAdd, Nat.reduceSub, Nat.reduceMul, reduceCtorEq, Int.reduceToNat, Int.reduceEq, Int.reduceLT, Int.reduceLE, Int.reduceNe, Int.reduceNeg , or_self, or_false, false_or , List.length_map, Bool.or_true, Bool.true_or, Bool.false_or, Bool.or_false, Int.cast_ofNat_Int, Bath.d]
  refine (c47 b.str 1 40).call rfl rfl rfl ?_
  rw [valid_iff]
  simp only [go_sem, Nat.reduceBEq, Nat.reduceEqDiff, Nat.reduceLT, Nat.reduceLeDiff, Nat.reduceAdd, Nat.reduceSub, Nat.reduceMul, reduceCtorEq, Int.reduceToNat, Int.reduceEq, Int.reduceLT, Int.reduceLE, Int.reduceNe, Int.reduceNeg , or_self, or_false, false_or , List.length_map, Bool.or_true, Bool.true_or, Bool.false_or, Bool.or_false, Int.cast_ofNat_Int]
  refine Br_split (fun h1 => ?_) (fun h1 => ?_) <;> simp only [go_sem, Nat.reduceBEq, Nat.reduceEqDiff, Nat.reduceLT, Nat.reduceLeDiff, Nat.reduceAdd, Nat.reduceSub, Nat.reduceMul, reduceCtorEq, Int.reduceToNat, Int.reduceEq, Int.reduceLT, Int.reduceLE, Int.reduceNe, Int.reduceNeg , or_self, or_false, false_or , List.length_map, Bool.or_true, Bool.true_or, Bool.false_or, Bool.or_false, Int.cast_ofNat_Int, h1]
  · simp only [checkP, h1, if_true]
  refine Br_split (fun h2 => ?_) (fun h2 => ?_) <;> simp only [go_sem, Nat.reduceBEq, Nat.reduceEqDiff, Nat.reduceLT, Nat.reduceLeDiff, Nat.reduceAdd, Nat.reduceSub, Nat.reduceMul, reduceCtorEq, Int.reduceToNat, Int.reduceEq, Int.reduceLT, Int.reduceLE, Int.reduceNe, Int.reduceNeg , or_self, or_false, false_or , List.length_map, Bool.or_true, Bool.true_or, Bool.false_or, Bool.or_false, Int.cast_ofNat_Int, h1, h2]
  · have : b.plates.length > 5 := by simp at h2; omega
    simp only [checkP, h1, if_pos this]
    simp
  have h5 : ¬ b.plates.length > 5 := by simp at h2; omega
  have hch : checkP b = if b.plates.any badPlate = true then 2 else 0 := by
    simp only [checkP, h1, if_neg h5]
    simp
  rw [hch]
  refine ALoop.by (S := Nat) (fun i => [(3, .d (.int .i64 i)), (1, .ptr 0 0)]) (fun i => [.cells [.d (.int .i64 b.str.lo), .d (.int .i64 b.str.hi), .d (.sl (b.plates.map Plate.d))]])
    (fun i => b.plates.length - i) (fun i => i ≤ b.plates.length ∧ (b.plates.take i).any badPlate = false) 0 (by simp) (fun _ h => nomatch h) ⟨Nat.zero_le _, rfl⟩ ?_ ?_
  · exact ForgetTo.same' (by simp) (by simp [EWe, Env.look]) rfl
  rintro i ⟨hi, hx⟩ hn
  refine AWP.run (fun _ => false) tt_ok (fun _ h => nomatch h) (by simp) rfl ?_
  simp only [go_sem, Nat.reduceBEq, Nat.reduceEqDiff, Nat.reduceLT, Nat.reduceLeDiff, Nat.reduceAdd, Nat.reduceSub, Nat.reduceMul, reduceCtorEq, Int.reduceToNat, Int.reduceEq, Int.reduceLT, Int.reduceLE, Int.reduceNe, Int.reduceNeg , or_self, or_false, false_or , List.length_map, Bool.or_true, Bool.true_or, Bool.false_or, Bool.or_false, Int.cast_ofNat_Int]
  refine Br_split (fun hd => ?_) (fun hd => ?_) <;> simp only [go_sem, Nat.reduceBEq, Nat.reduceEqDiff, Nat.reduceLT, Nat.reduceLeDiff, Nat.reduceAdd, Nat.reduceSub, Nat.reduceMul, reduceCtorEq, Int.reduceToNat, Int.reduceEq, Int.reduceLT, Int.reduceLE, Int.reduceNe, Int.reduceNeg , or_self, or_false, false_or , List.length_map, Bool.or_true, Bool.true_or, Bool.false_or, Bool.or_false, Int.cast_ofNat_Int, hd]
  · have hlt : i < b.plates.length := by simpa using hd
    have hst : (b.plates.take (i + 1)).any badPlate = badPlate b.plates[i] := by
      rw [List.take_add_one, List.getElem?_eq_getElem hlt, List.any_append, hx]; simp
    have hmem : badPlate b.plates[i] = true → b.plates.any badPlate = true := fun h => List.any_eq_true.2 ⟨_, List.getElem_mem hlt, h⟩
    simp only [go_sem, Nat.reduceBEq, Nat.reduceEqDiff, Nat.reduceLT, Nat.reduceLeDiff, Nat.reduceAdd, Nat.reduceSub, Nat.reduceMul, reduceCtorEq, Int.reduceToNat, Int.reduceEq, Int.reduceLT, Int.reduceLE, Int.reduceNe, Int.reduceNeg , or_self, or_false, false_or , List.length_map, Bool.or_true, Bool.true_or, Bool.false_or, Bool.or_false, Int.cast_ofNat_Int, idx_nat, List.getElem?_map, List.getElem?_eq_getElem hlt, Plate.d]
    generalize b.plates[i] = p at hst hmem
    refine (c47 p.rust 0 600).call rfl rfl rfl ?_
    rw [valid_iff]
    simp only [go_sem, Nat.reduceBEq, Nat.reduceEqDiff, Nat.reduceLT, Nat.reduceLeDiff, Nat.reduceAdd, Nat.reduceSub, Nat.reduceMul, reduceCtorEq, Int.reduceToNat, Int.reduceEq, Int.reduceLT, Int.reduceLE, Int.reduceNe, Int.reduceNeg , or_self, or_false, false_or , List.length_map, Bool.or_true, Bool.true_or, Bool.false_or, Bool.or_false, Int.cast_ofNat_Int, hd]
    refine Br_split (fun g1 => ?_) (fun g1 => ?_) <;> simp only [go_sem, Nat.reduceBEq, Nat.reduceEqDiff, Nat.reduceLT, Nat.reduceLeDiff, Nat.reduceAdd, Nat.reduceSub, Nat.reduceMul, reduceCtorEq, Int.reduceToNat, Int.reduceEq, Int.reduceLT, Int.reduceLE, Int.reduceNe, Int.reduceNeg , or_self, or_false, false_or , List.length_map, Bool.or_true, Bool.true_or, Bool.false_or, Bool.or_false, Int.cast_ofNat_Int, hd, g1]
    · rw [if_pos (hmem (by simp only [badPlate, g1, Bool.true_or]))]
    refine (c34 p.takes 0 10).call rfl rfl rfl ?_
    rw [in_iff]
    simp only [go_sem, Nat.reduceBEq, Nat.reduceEqDiff, Nat.reduceLT, Nat.reduceLeDiff, Nat.reduceAdd, Nat.reduceSub, Nat.reduceMul, reduceCtorEq, Int.reduceToNat, Int.reduceEq, Int.reduceLT, Int.reduceLE, Int.reduceNe, Int.reduceNeg , or_self, or_false, false_or , List.length_map, Bool.or_true, Bool.true_or, Bool.false_or, Bool.or_false, Int.cast_ofNat_Int, hd, g1]
    refine Br_split (fun g2 => ?_) (fun g2 => ?_) <;> simp only [go_sem, Nat.reduceBEq, Nat.reduceEqDiff, Nat.reduceLT, Nat.reduceLeDiff, Nat.reduceAdd, Nat.reduceSub, Nat.reduceMul, reduceCtorEq, Int.reduceToNat, Int.reduceEq, Int.reduceLT, Int.reduceLE, Int.reduceNe, Int.reduceNeg , or_self, or_false, false_or , List.length_map, Bool.or_true, Bool.true_or, Bool.false_or, Bool.or_false, Int.cast_ofNat_Int, hd, g1, g2]
    · rw [if_pos (hmem (by simp only [badPlate, g1, g2, Bool.true_or, Bool.or_true]))]
    refine (c34 p.thin 0 300).call rfl rfl rfl ?_
    rw [in_iff]
    simp only [go_sem, Nat.reduceBEq, Nat.reduceEqDiff, Nat.reduceLT, Nat.reduceLeDiff, Nat.reduceAdd, Nat.reduceSub, Nat.reduceMul, reduceCtorEq, Int.reduceToNat, Int.reduceEq, Int.reduceLT, Int.reduceLE, Int.reduceNe, Int.reduceNeg , or_self, or_false, false_or , List.length_map, Bool.or_true, Bool.true_or, Bool.false_or, Bool.or_false, Int.cast_ofNat_Int, hd, g1, g2]
    refine Br_split (fun g3 => ?_) (fun g3 => ?_) <;> simp only [go_sem, Nat.reduceBEq, Nat.reduceEqDiff, Nat.reduceLT, Nat.reduceLeDiff, Nat.reduceAdd, Nat.reduceSub, Nat.reduceMul, reduceCtorEq, Int.reduceToNat, Int.reduceEq, Int.reduceLT, Int.reduceLE, Int.reduceNe, Int.reduceNeg , or_self, or_false, false_or , List.length_map, Bool.or_true, Bool.true_or, Bool.false_or, Bool.or_false, Int.cast_ofNat_Int, hd, g1, g2, g3]
    · rw [if_pos (hmem (by simp only [badPlate, g1, g2, g3, Bool.or_true]))]
    · refine ⟨i + 1, ⟨hlt, by rw [hst]; simp only [badPlate, g1, g2, g3, Bool.or_false]⟩, by omega, ?_⟩
      refine ForgetTo.drop (H0 := [_]) (Y := [_]) (Nat.zero_le _) rfl (by simp [BBs, BB, VBs, VB]) ?_
      simp [EWp, Env.look, pubV, w64 (n := (i : Int) + 1) (by omega) (by omega)]
  · have hie : i = b.plates.length := by simp at hd; omega
    subst hie
    rw [List.take_length] at hx
    simp [hx]
end Go.Aw
end

section
set_option maxRecDepth 100000
namespace Go.Aw
open Go Go.Proofs.Try

def exB (l : List Int) : Bath := ⟨⟨10, 12⟩, [⟨⟨40, 44⟩, l.getD 0 1, 30⟩, ⟨⟨50, 60⟩, l.getD 1 2, 40⟩, ⟨⟨20, 22⟩, l.getD 2 1, 16⟩]⟩

theorem exB_set (l : List Int) (hl : l.length ≤ 2) {i : Nat} (hi : i < l.length) : ((exB (l.take i)).plates.map Plate.d).set i (.agg [.int .i64 ((exB []).pl i).rust.lo, .int .i64 ((exB []).pl i).rust.hi, .int .i64 l[i], .int .i64 ((exB []).pl i).thin]) = (exB (l.take (i + 1))).plates.map Plate.d := by
  match l, hl with
  | [], _ => simp at hi
  | [a], _ =>
    obtain rfl : i = 0 := by simp at hi; omega
    rfl
  | [a, b], _ =>
    have : i = 0 ∨ i = 1 := by simp at hi; omega
    rcases this with rfl | rfl <;> rfl

theorem exB_get (l : List Int) (hl : l.length ≤ 2) {i : Nat} (hi : i < l.length) : ((exB (l.take i)).plates.map Plate.d)[i]? = some (.agg [.int .i64 ((exB []).pl i).rust.lo, .int .i64 ((exB []).pl i).rust.hi, .int .i64 ((exB []).pl i).takes, .int .i64 ((exB []).pl i).thin]) := by
  match l, hl with
  | [], _ => simp at hi
  | [a], _ =>
    obtain rfl : i = 0 := by simp at hi; omega
    rfl
  | [a, b], _ =>
    have : i = 0 ∨ i = 1 := by simp at hi; omega
    rcases this with rfl | rfl <;> rfl

theorem c71 (l : List Int) (hl : l.length ≤ 2) : PC prog 71 [.d (.sl (l.map (.int .i64)))] (.d (exB l).d) := by
  refine PC.run (fun k => k == 12) tt_ok (fn := f71) (rs := [.cell 2 26]) rfl rfl rfl rfl rfl rfl rfl ?_
  simp only [go_sem, Nat.reduceBEq, Nat.reduceEqDiff, Nat.reduceLT, Nat.reduceLeDiff, Nat.reduceAdd, Nat.reduceSub, Nat.reduceMul, reduceCtorEq, Int.reduceToNat, Int.reduceEq, Int.reduceLT, Int.reduceLE, Int.reduceNe, Int.reduceNeg , or_self, or_false, false_or , List.length_map, Bool.or_true, Bool.true_or, Bool.false_or, Bool.or_false, Int.cast_ofNat_Int]
  refine (c26 10 12).call rfl rfl rfl ?_
  simp only [go_sem, Nat.reduceBEq, Nat.reduceEqDiff, Nat.reduceLT, Nat.reduceLeDiff, Nat.reduceAdd, Nat.reduceSub, Nat.reduceMul, reduceCtorEq, Int.reduceToNat, Int.reduceEq, Int.reduceLT, Int.reduceLE, Int.reduceNe, Int.reduceNeg , or_self, or_false, false_or , List.length_map, Bool.or_true, Bool.true_or, Bool.false_or, Bool.or_false, Int.cast_ofNat_Int]
  refine (c26 40 44).call rfl rfl rfl ?_
  simp only [go_sem, Nat.reduceBEq, Nat.reduceEqDiff, Nat.reduceLT, Nat.reduceLeDiff, Nat.reduceAdd, Nat.reduceSub, Nat.reduceMul, reduceCtorEq, Int.reduceToNat, Int.reduceEq, Int.reduceLT, Int.reduceLE, Int.reduceNe, Int.reduceNeg , or_self, or_false, false_or , List.length_map, Bool.or_true, Bool.true_or, Bool.false_or, Bool.or_false, Int.cast_ofNat_Int, Sp.d]
  refine (c26 50 60).call rfl rfl rfl ?_
  simp only [go_sem, Nat.reduceBEq, Nat.reduceEqDiff, Nat.reduceLT, Nat.reduceLeDiff, Nat.reduceAdd, Nat.reduceSub, Nat.reduceMul, reduceCtorEq, Int.reduceToNat, Int.reduceEq, Int.reduceLT, Int.reduceLE, Int.reduceNe, Int.reduceNeg , or_self, or_false, false_or , List.length_map, Bool.or_true, Bool.true_or, Bool.false_or, Bool.or_false, Int.cast_ofNat_Int, Sp.d]
  refine (c26 20 22).call rfl rfl rfl ?_
  simp only [go_sem, Nat.reduceBEq, Nat.reduceEqDiff, Nat.reduceLT, Nat.reduceLeDiff, Nat.reduceAdd, Nat.reduceSub, Nat.reduceMul, reduceCtorEq, Int.reduceToNat, Int.reduceEq, Int.reduceLT, Int.reduceLE, Int.reduceNe, Int.reduceNeg , or_self, or_false, false_or , List.length_map, Bool.or_true, Bool.true_or, Bool.false_or, Bool.or_false, Int.cast_ofNat_Int, Sp.d]
  refine ALoop.by (S := Nat) (fun i => [(4, .d (.int .i64 i)), (3, .ptr 2 0), (2, .ptr 0 0), (0, .d (.sl (l.map (.int .i64))))])
    (fun i => [.cells [.d (.int .i64 0), .d (.int .i64 0), .d (.sl [])], .arr 4 false ((exB (l.take i)).plates.map Plate.d), .cells [.d (.int .i64 10), .d (.int .i64 12), .ref 1 3 0 3]]) (fun i => l.length - i) (fun i => i ≤ l.length) 0 (by simp) (fun _ h => nomatch h) (Nat.zero_le _) ?_ ?_
  · exact ForgetTo.same' (by simp) (by simp [EWe, Env.look]) (by simp [exB, Plate.d])
  rintro i hi hn
  refine AWP.run (fun _ => false) tt_ok (fun _ h => nomatch h) (by simp) rfl ?_
  simp only [go_sem, Nat.reduceBEq, Nat.reduceEqDiff, Nat.reduceLT, Nat.reduceLeDiff, Nat.reduceAdd, Nat.reduceSub, Nat.reduceMul, reduceCtorEq, Int.reduceToNat, Int.reduceEq, Int.reduceLT, Int.reduceLE, Int.reduceNe, Int.reduceNeg , or_self, or_false, false_or , List.length_map, Bool.or_true, Bool.true_or, Bool.false_or, Bool.or_false, Int.cast_ofNat_Int]
  refine Br_split (fun hd => ?_) (fun hd => ?_) <;> simp only [go_sem, Nat.reduceBEq, Nat.reduceEqDiff, Nat.reduceLT, Nat.reduceLeDiff, Nat.reduceAdd, Nat.reduceSub, Nat.reduceMul, reduceCtorEq, Int.reduceToNat, Int.reduceEq, Int.reduceLT, Int.reduceLE, Int.reduceNe, Int.reduceNeg , or_self, or_false, false_or , List.length_map, Bool.or_true, Bool.true_or, Bool.false_or, Bool.or_false, Int.cast_ofNat_Int, hd]
  · have hlt : i < l.length := by simpa using hd
    have hix : idx? (l.map (D.int .i64)) (i : Int) = some (.int .i64 l[i]) := by simp [idx?, List.getElem?_eq_getElem hlt]
    have hget := exB_get l hl hlt
    have hset := exB_set l hl hlt
    have hlen : ((exB (l.take i)).plates.map Plate.d).length = 3 := rfl
    have c1 : (0 : Int) ≤ (i : Int) := by omega
    have c2 : (i : Int) < 3 := by omega
    generalize (exB (l.take i)).plates.map Plate.d = ps at hget hset hlen
    generalize l[i] = x at hix hset
    refine ADrw.treeG (fun _ => false) tt_ok (by kernel_rfl) (fun k => if k = 1 ∨ k = 6 ∨ k = 7 then some .L else if k = 9 then some .W else some .S) (.ones [0, 1, 2, 3, 4, 5, 6, 7, 8, 9] .done) (by simp) (fun _ h => nomatch h) rfl rfl (by kernel_rfl) ?_
    simp only [go_sem, Nat.reduceBEq, Nat.reduceEqDiff, Nat.reduceLT, Nat.reduceLeDiff, Nat.reduceAdd, Nat.reduceSub, Nat.reduceMul, reduceCtorEq, Int.reduceToNat, Int.reduceEq, Int.reduceLT, Int.reduceLE, Int.reduceNe, Int.reduceNeg , or_self, or_false, false_or , List.length_map, Bool.or_true, Bool.true_or, Bool.false_or, Bool.or_false, Int.cast_ofNat_Int, hix, hget, hlen, c1, c2, Int.toNat_natCast, hset]
    refine ⟨i + 1, hlt, by omega, ?_⟩
    exact ForgetTo.same' (by simp) (by simp [EWe, Env.look, w64 (n := (i : Int) + 1) (by omega) (by omega)]) rfl
  · have hie : i = l.length := by simp at hd; omega
    subst hie
    rw [List.take_length]
    have hlen : (exB l).plates.length = 3 := rfl
    have htk : ((exB l).plates.map Plate.d).take 3 = (exB l).plates.map Plate.d := rfl
    simp only [go_sem, Nat.reduceBEq, Nat.reduceEqDiff, Nat.reduceLT, Nat.reduceLeDiff, Nat.reduceAdd, Nat.reduceSub, Nat.reduceMul, reduceCtorEq, Int.reduceToNat, Int.reduceEq, Int.reduceLT, Int.reduceLE, Int.reduceNe, Int.reduceNeg , or_self, or_false, false_or , List.length_map, Bool.or_true, Bool.true_or, Bool.false_or, Bool.or_false, Int.cast_ofNat_Int, hlen, htk, List.length_map]
    simp [Bath.d, exB]
end Go.Aw
end

section
set_option maxRecDepth 100000
namespace Go.Aw
open Go Go.Proofs.Try

theorem ex_strengths : strengthsP (exB []) [0, 1] = ([⟨10, 12⟩, ⟨9, 11⟩, ⟨7, 9⟩], 0) := by decide +kernel
theorem ex_out : outP (exB []) [⟨0, 4⟩, ⟨1, 7⟩] = ([[1, 2], [2]], 0) := by decide +kernel
theorem ex_hours : hoursP (exB []) [⟨0, 5⟩] 1 = (⟨7, 8⟩, 0) := by decide +kernel
theorem ex_order : orderP (exB []) = ([⟨0, 5⟩, ⟨1, 7⟩, ⟨2, 4⟩], 0) := by decide +kernel
theorem ex_check : checkP (exB [8, 8]) = 0 := by decide +kernel
theorem ex_fillings : fillFirst (exB [8, 8]) = some ([0, 1, 0], [5, 2]) := by decide +kernel
theorem ex_mix : mixV [⟨⟨30, 30⟩, 10⟩, ⟨⟨12, 15⟩, 20⟩] = ⟨18, 20⟩ := by decide +kernel
theorem ex_acids : acidsP [⟨⟨30, 30⟩, 10⟩, ⟨⟨12, 15⟩, 20⟩] = 0 := by decide +kernel
theorem ex_water : waterP [⟨⟨30, 30⟩, 10⟩] ⟨10, 12⟩ = (⟨15, 20⟩, 0) := by decide +kernel
theorem ex_logE : logE (exB []) [⟨⟨0, 4⟩, 1⟩] = 0 := by decide +kernel
theorem ex_was : wasO ⟨exB [], [⟨⟨0, 4⟩, 1⟩], 0⟩ = some (0, 0, [⟨41, 44⟩, ⟨50, 60⟩, ⟨20, 22⟩]) := by decide +kernel
theorem ex_logE2 : logE (exB []) [⟨⟨0, 24⟩, 2⟩, ⟨⟨2, 3⟩, 2⟩] = 0 := by decide +kernel
theorem ex_wrong : wrongF (exB []) [⟨⟨0, 24⟩, 2⟩, ⟨⟨2, 3⟩, 2⟩] = some ([0], 1) := by decide +kernel
theorem ex_missing : missP ⟨100, 100⟩ [⟨20, 25⟩, ⟨30, 30⟩] ⟨40, 44⟩ = (⟨1, 10⟩, 0) := by decide +kernel
end Go.Aw
end

section
set_option maxRecDepth 100000
namespace Go.Aw
open Go Go.Proofs.Try

theorem c17 : PC prog 17 [] (.d (.bool true)) := by
  refine PC.run (fun _ => false) tt_ok (fn := f17) (rs := [.tmp 0]) rfl rfl rfl rfl rfl rfl rfl ?_
  simp only [go_sem, Nat.reduceBEq, Nat.reduceEqDiff, Nat.reduceLT, Nat.reduceLeDiff, Nat.reduceAdd, Nat.reduceSub, Nat.reduceMul, reduceCtorEq, Int.reduceToNat, Int.reduceEq, Int.reduceLT, Int.reduceLE, Int.reduceNe, Int.reduceNeg , or_self, or_false, false_or , List.length_map, Bool.or_true, Bool.true_or, Bool.false_or, Bool.or_false, Int.cast_ofNat_Int]
  refine (c71 [] (by simp)).call rfl rfl rfl ?_
  simp only [go_sem, Nat.reduceBEq, Nat.reduceEqDiff, Nat.reduceLT, Nat.reduceLeDiff, Nat.reduceAdd, Nat.reduceSub, Nat.reduceMul, reduceCtorEq, Int.reduceToNat, Int.reduceEq, Int.reduceLT, Int.reduceLE, Int.reduceNe, Int.reduceNeg , or_self, or_false, false_or , List.length_map, Bool.or_true, Bool.true_or, Bool.false_or, Bool.or_false, Int.cast_ofNat_Int]
  refine (c20 (exB []) [0, 1] (by simp [exB]) (by simp)).call rfl rfl rfl ?_
  rw [ex_strengths]
  simp only [go_sem, Nat.reduceBEq, Nat.reduceEqDiff, Nat.reduceLT, Nat.reduceLeDiff, Nat.reduceAdd, Nat.reduceSub, Nat.reduceMul, reduceCtorEq, Int.reduceToNat, Int.reduceEq, Int.reduceLT, Int.reduceLE, Int.reduceNe, Int.reduceNeg , or_self, or_false, false_or , List.length_map, Bool.or_true, Bool.true_or, Bool.false_or, Bool.or_false, Int.cast_ofNat_Int]
  refine (c71 [] (by simp)).call rfl rfl rfl ?_
  simp only [go_sem, Nat.reduceBEq, Nat.reduceEqDiff, Nat.reduceLT, Nat.reduceLeDiff, Nat.reduceAdd, Nat.reduceSub, Nat.reduceMul, reduceCtorEq, Int.reduceToNat, Int.reduceEq, Int.reduceLT, Int.reduceLE, Int.reduceNe, Int.reduceNeg , or_self, or_false, false_or , List.length_map, Bool.or_true, Bool.true_or, Bool.false_or, Bool.or_false, Int.cast_ofNat_Int]
  refine (c24 0 4).call rfl rfl rfl ?_
  simp only [go_sem, Nat.reduceBEq, Nat.reduceEqDiff, Nat.reduceLT, Nat.reduceLeDiff, Nat.reduceAdd, Nat.reduceSub, Nat.reduceMul, reduceCtorEq, Int.reduceToNat, Int.reduceEq, Int.reduceLT, Int.reduceLE, Int.reduceNe, Int.reduceNeg , or_self, or_false, false_or , List.length_map, Bool.or_true, Bool.true_or, Bool.false_or, Bool.or_false, Int.cast_ofNat_Int]
  refine (c24 1 7).call rfl rfl rfl ?_
  simp only [go_sem, Nat.reduceBEq, Nat.reduceEqDiff, Nat.reduceLT, Nat.reduceLeDiff, Nat.reduceAdd, Nat.reduceSub, Nat.reduceMul, reduceCtorEq, Int.reduceToNat, Int.reduceEq, Int.reduceLT, Int.reduceLE, Int.reduceNe, Int.reduceNeg , or_self, or_false, false_or , List.length_map, Bool.or_true, Bool.true_or, Bool.false_or, Bool.or_false, Int.cast_ofNat_Int]
  refine (c28 (exB []) [⟨0, 4⟩, ⟨1, 7⟩] (by simp [exB]) (by simp)).call rfl rfl rfl ?_
  rw [ex_out]
  simp only [go_sem, Nat.reduceBEq, Nat.reduceEqDiff, Nat.reduceLT, Nat.reduceLeDiff, Nat.reduceAdd, Nat.reduceSub, Nat.reduceMul, reduceCtorEq, Int.reduceToNat, Int.reduceEq, Int.reduceLT, Int.reduceLE, Int.reduceNe, Int.reduceNeg , or_self, or_false, false_or , List.length_map, Bool.or_true, Bool.true_or, Bool.false_or, Bool.or_false, Int.cast_ofNat_Int]
  refine (c71 [] (by simp)).call rfl rfl rfl ?_
  simp only [go_sem, Nat.reduceBEq, Nat.reduceEqDiff, Nat.reduceLT, Nat.reduceLeDiff, Nat.reduceAdd, Nat.reduceSub, Nat.reduceMul, reduceCtorEq, Int.reduceToNat, Int.reduceEq, Int.reduceLT, Int.reduceLE, Int.reduceNe, Int.reduceNeg , or_self, or_false, false_or , List.length_map, Bool.or_true, Bool.true_or, Bool.false_or, Bool.or_false, Int.cast_ofNat_Int]
  refine (c24 0 5).call rfl rfl rfl ?_
  simp only [go_sem, Nat.reduceBEq, Nat.reduceEqDiff, Nat.reduceLT, Nat.reduceLeDiff, Nat.reduceAdd, Nat.reduceSub, Nat.reduceMul, reduceCtorEq, Int.reduceToNat, Int.reduceEq, Int.reduceLT, Int.reduceLE, Int.reduceNe, Int.reduceNeg , or_self, or_false, false_or , List.length_map, Bool.or_true, Bool.true_or, Bool.false_or, Bool.or_false, Int.cast_ofNat_Int]
  refine (c33 (exB []) [⟨0, 5⟩] 1 (by simp [exB]) (by simp)).call rfl rfl rfl ?_
  rw [ex_hours]
  simp only [go_sem, Nat.reduceBEq, Nat.reduceEqDiff, Nat.reduceLT, Nat.reduceLeDiff, Nat.reduceAdd, Nat.reduceSub, Nat.reduceMul, reduceCtorEq, Int.reduceToNat, Int.reduceEq, Int.reduceLT, Int.reduceLE, Int.reduceNe, Int.reduceNeg , or_self, or_false, false_or , List.length_map, Bool.or_true, Bool.true_or, Bool.false_or, Bool.or_false, Int.cast_ofNat_Int, Sp.d]
  refine (c71 [] (by simp)).call rfl rfl rfl ?_
  simp only [go_sem, Nat.reduceBEq, Nat.reduceEqDiff, Nat.reduceLT, Nat.reduceLeDiff, Nat.reduceAdd, Nat.reduceSub, Nat.reduceMul, reduceCtorEq, Int.reduceToNat, Int.reduceEq, Int.reduceLT, Int.reduceLE, Int.reduceNe, Int.reduceNeg , or_self, or_false, false_or , List.length_map, Bool.or_true, Bool.true_or, Bool.false_or, Bool.or_false, Int.cast_ofNat_Int]
  refine (c37 (exB []) (by simp [exB])).call rfl rfl rfl ?_
  rw [ex_order]
  simp only [go_sem, Nat.reduceBEq, Nat.reduceEqDiff, Nat.reduceLT, Nat.reduceLeDiff, Nat.reduceAdd, Nat.reduceSub, Nat.reduceMul, reduceCtorEq, Int.reduceToNat, Int.reduceEq, Int.reduceLT, Int.reduceLE, Int.reduceNe, Int.reduceNeg , or_self, or_false, false_or , List.length_map, Bool.or_true, Bool.true_or, Bool.false_or, Bool.or_false, Int.cast_ofNat_Int, lv]
  refine (c71 [8, 8] (by simp)).call rfl rfl rfl ?_
  simp only [go_sem, Nat.reduceBEq, Nat.reduceEqDiff, Nat.reduceLT, Nat.reduceLeDiff, Nat.reduceAdd, Nat.reduceSub, Nat.reduceMul, reduceCtorEq, Int.reduceToNat, Int.reduceEq, Int.reduceLT, Int.reduceLE, Int.reduceNe, Int.reduceNeg , or_self, or_false, false_or , List.length_map, Bool.or_true, Bool.true_or, Bool.false_or, Bool.or_false, Int.cast_ofNat_Int]
  have hfv : fillingsV (exB [8, 8]) = .tup [.d (.sl (natsD [0, 1, 0])), .d (.int .i64 0)] := by simp only [fillingsV, ex_check, ex_fillings, if_true]
  refine (c38 (exB [8, 8]) (by simp [exB])).call rfl rfl (by rw [hfv]; rfl) ?_
  rw [hfv]
  simp only [go_sem, Nat.reduceBEq, Nat.reduceEqDiff, Nat.reduceLT, Nat.reduceLeDiff, Nat.reduceAdd, Nat.reduceSub, Nat.reduceMul, reduceCtorEq, Int.reduceToNat, Int.reduceEq, Int.reduceLT, Int.reduceLE, Int.reduceNe, Int.reduceNeg , or_self, or_false, false_or , List.length_map, Bool.or_true, Bool.true_or, Bool.false_or, Bool.or_false, Int.cast_ofNat_Int]
  refine (c26 30 30).call rfl rfl rfl ?_
  simp only [go_sem, Nat.reduceBEq, Nat.reduceEqDiff, Nat.reduceLT, Nat.reduceLeDiff, Nat.reduceAdd, Nat.reduceSub, Nat.reduceMul, reduceCtorEq, Int.reduceToNat, Int.reduceEq, Int.reduceLT, Int.reduceLE, Int.reduceNe, Int.reduceNeg , or_self, or_false, false_or , List.length_map, Bool.or_true, Bool.true_or, Bool.false_or, Bool.or_false, Int.cast_ofNat_Int, Sp.d]
  refine (c26 12 15).call rfl rfl rfl ?_
  simp only [go_sem, Nat.reduceBEq, Nat.reduceEqDiff, Nat.reduceLT, Nat.reduceLeDiff, Nat.reduceAdd, Nat.reduceSub, Nat.reduceMul, reduceCtorEq, Int.reduceToNat, Int.reduceEq, Int.reduceLT, Int.reduceLE, Int.reduceNe, Int.reduceNeg , or_self, or_false, false_or , List.length_map, Bool.or_true, Bool.true_or, Bool.false_or, Bool.or_false, Int.cast_ofNat_Int, Sp.d]
  refine (c43 [⟨⟨30, 30⟩, 10⟩, ⟨⟨12, 15⟩, 20⟩] (by simp)).call rfl rfl rfl ?_
  rw [ex_mix, ex_acids]
  simp only [go_sem, Nat.reduceBEq, Nat.reduceEqDiff, Nat.reduceLT, Nat.reduceLeDiff, Nat.reduceAdd, Nat.reduceSub, Nat.reduceMul, reduceCtorEq, Int.reduceToNat, Int.reduceEq, Int.reduceLT, Int.reduceLE, Int.reduceNe, Int.reduceNeg , or_self, or_false, false_or , List.length_map, Bool.or_true, Bool.true_or, Bool.false_or, Bool.or_false, Int.cast_ofNat_Int, Sp.d]
  refine (c26 30 30).call rfl rfl rfl ?_
  simp only [go_sem, Nat.reduceBEq, Nat.reduceEqDiff, Nat.reduceLT, Nat.reduceLeDiff, Nat.reduceAdd, Nat.reduceSub, Nat.reduceMul, reduceCtorEq, Int.reduceToNat, Int.reduceEq, Int.reduceLT, Int.reduceLE, Int.reduceNe, Int.reduceNeg , or_self, or_false, false_or , List.length_map, Bool.or_true, Bool.true_or, Bool.false_or, Bool.or_false, Int.cast_ofNat_Int, Sp.d]
  refine (c26 10 12).call rfl rfl rfl ?_
  simp only [go_sem, Nat.reduceBEq, Nat.reduceEqDiff, Nat.reduceLT, Nat.reduceLeDiff, Nat.reduceAdd, Nat.reduceSub, Nat.reduceMul, reduceCtorEq, Int.reduceToNat, Int.reduceEq, Int.reduceLT, Int.reduceLE, Int.reduceNe, Int.reduceNeg , or_self, or_false, false_or , List.length_map, Bool.or_true, Bool.true_or, Bool.false_or, Bool.or_false, Int.cast_ofNat_Int]
  refine (c44 [⟨⟨30, 30⟩, 10⟩] ⟨10, 12⟩ (by simp)).call rfl rfl rfl ?_
  rw [ex_water]
  simp only [go_sem, Nat.reduceBEq, Nat.reduceEqDiff, Nat.reduceLT, Nat.reduceLeDiff, Nat.reduceAdd, Nat.reduceSub, Nat.reduceMul, reduceCtorEq, Int.reduceToNat, Int.reduceEq, Int.reduceLT, Int.reduceLE, Int.reduceNe, Int.reduceNeg , or_self, or_false, false_or , List.length_map, Bool.or_true, Bool.true_or, Bool.false_or, Bool.or_false, Int.cast_ofNat_Int, Sp.d]
  refine (c71 [] (by simp)).call rfl rfl rfl ?_
  simp only [go_sem, Nat.reduceBEq, Nat.reduceEqDiff, Nat.reduceLT, Nat.reduceLeDiff, Nat.reduceAdd, Nat.reduceSub, Nat.reduceMul, reduceCtorEq, Int.reduceToNat, Int.reduceEq, Int.reduceLT, Int.reduceLE, Int.reduceNe, Int.reduceNeg , or_self, or_false, false_or , List.length_map, Bool.or_true, Bool.true_or, Bool.false_or, Bool.or_false, Int.cast_ofNat_Int]
  refine (c24 0 4).call rfl rfl rfl ?_
  simp only [go_sem, Nat.reduceBEq, Nat.reduceEqDiff, Nat.reduceLT, Nat.reduceLeDiff, Nat.reduceAdd, Nat.reduceSub, Nat.reduceMul, reduceCtorEq, Int.reduceToNat, Int.reduceEq, Int.reduceLT, Int.reduceLE, Int.reduceNe, Int.reduceNeg , or_self, or_false, false_or , List.length_map, Bool.or_true, Bool.true_or, Bool.false_or, Bool.or_false, Int.cast_ofNat_Int, Step.d]
  have hwv : wasV (exB []) [⟨⟨0, 4⟩, 1⟩] = .tup [.d (Sp.mk 10 10).d, .d (.sl ([⟨41, 44⟩, ⟨50, 60⟩, ⟨20, 22⟩].map Sp.d)), .d (.int .i64 0)] := by simp only [wasV, ex_logE, ex_was, if_true]; rfl
  refine (c49 (exB []) [⟨⟨0, 4⟩, 1⟩] (by simp [exB]) (by simp)).call rfl rfl (by rw [hwv]; rfl) ?_
  rw [hwv]
  simp only [go_sem, Nat.reduceBEq, Nat.reduceEqDiff, Nat.reduceLT, Nat.reduceLeDiff, Nat.reduceAdd, Nat.reduceSub, Nat.reduceMul, reduceCtorEq, Int.reduceToNat, Int.reduceEq, Int.reduceLT, Int.reduceLE, Int.reduceNe, Int.reduceNeg , or_self, or_false, false_or , List.length_map, Bool.or_true, Bool.true_or, Bool.false_or, Bool.or_false, Int.cast_ofNat_Int, Sp.d]
  refine (c71 [] (by simp)).call rfl rfl rfl ?_
  simp only [go_sem, Nat.reduceBEq, Nat.reduceEqDiff, Nat.reduceLT, Nat.reduceLeDiff, Nat.reduceAdd, Nat.reduceSub, Nat.reduceMul, reduceCtorEq, Int.reduceToNat, Int.reduceEq, Int.reduceLT, Int.reduceLE, Int.reduceNe, Int.reduceNeg , or_self, or_false, false_or , List.length_map, Bool.or_true, Bool.true_or, Bool.false_or, Bool.or_false, Int.cast_ofNat_Int]
  refine (c24 0 24).call rfl rfl rfl ?_
  simp only [go_sem, Nat.reduceBEq, Nat.reduceEqDiff, Nat.reduceLT, Nat.reduceLeDiff, Nat.reduceAdd, Nat.reduceSub, Nat.reduceMul, reduceCtorEq, Int.reduceToNat, Int.reduceEq, Int.reduceLT, Int.reduceLE, Int.reduceNe, Int.reduceNeg , or_self, or_false, false_or , List.length_map, Bool.or_true, Bool.true_or, Bool.false_or, Bool.or_false, Int.cast_ofNat_Int, Step.d]
  refine (c24 2 3).call rfl rfl rfl ?_
  simp only [go_sem, Nat.reduceBEq, Nat.reduceEqDiff, Nat.reduceLT, Nat.reduceLeDiff, Nat.reduceAdd, Nat.reduceSub, Nat.reduceMul, reduceCtorEq, Int.reduceToNat, Int.reduceEq, Int.reduceLT, Int.reduceLE, Int.reduceNe, Int.reduceNeg , or_self, or_false, false_or , List.length_map, Bool.or_true, Bool.true_or, Bool.false_or, Bool.or_false, Int.cast_ofNat_Int, Step.d]
  have hwr : wrongV (exB []) [⟨⟨0, 24⟩, 2⟩, ⟨⟨2, 3⟩, 2⟩] = .tup [.d (.sl (natsD [0])), .d (.int .i64 0)] := by simp only [wrongV, ex_logE2, ex_wrong, if_true]; rfl
  refine (c50 (exB []) [⟨⟨0, 24⟩, 2⟩, ⟨⟨2, 3⟩, 2⟩] (by simp [exB]) (by simp)).call rfl rfl (by rw [hwr]; rfl) ?_
  rw [hwr]
  simp only [go_sem, Nat.reduceBEq, Nat.reduceEqDiff, Nat.reduceLT, Nat.reduceLeDiff, Nat.reduceAdd, Nat.reduceSub, Nat.reduceMul, reduceCtorEq, Int.reduceToNat, Int.reduceEq, Int.reduceLT, Int.reduceLE, Int.reduceNe, Int.reduceNeg , or_self, or_false, false_or , List.length_map, Bool.or_true, Bool.true_or, Bool.false_or, Bool.or_false, Int.cast_ofNat_Int]
  refine (c26 100 100).call rfl rfl rfl ?_
  simp only [go_sem, Nat.reduceBEq, Nat.reduceEqDiff, Nat.reduceLT, Nat.reduceLeDiff, Nat.reduceAdd, Nat.reduceSub, Nat.reduceMul, reduceCtorEq, Int.reduceToNat, Int.reduceEq, Int.reduceLT, Int.reduceLE, Int.reduceNe, Int.reduceNeg , or_self, or_false, false_or , List.length_map, Bool.or_true, Bool.true_or, Bool.false_or, Bool.or_false, Int.cast_ofNat_Int]
  refine (c26 20 25).call rfl rfl rfl ?_
  simp only [go_sem, Nat.reduceBEq, Nat.reduceEqDiff, Nat.reduceLT, Nat.reduceLeDiff, Nat.reduceAdd, Nat.reduceSub, Nat.reduceMul, reduceCtorEq, Int.reduceToNat, Int.reduceEq, Int.reduceLT, Int.reduceLE, Int.reduceNe, Int.reduceNeg , or_self, or_false, false_or , List.length_map, Bool.or_true, Bool.true_or, Bool.false_or, Bool.or_false, Int.cast_ofNat_Int, Sp.d]
  refine (c26 30 30).call rfl rfl rfl ?_
  simp only [go_sem, Nat.reduceBEq, Nat.reduceEqDiff, Nat.reduceLT, Nat.reduceLeDiff, Nat.reduceAdd, Nat.reduceSub, Nat.reduceMul, reduceCtorEq, Int.reduceToNat, Int.reduceEq, Int.reduceLT, Int.reduceLE, Int.reduceNe, Int.reduceNeg , or_self, or_false, false_or , List.length_map, Bool.or_true, Bool.true_or, Bool.false_or, Bool.or_false, Int.cast_ofNat_Int, Sp.d]
  refine (c26 40 44).call rfl rfl rfl ?_
  simp only [go_sem, Nat.reduceBEq, Nat.reduceEqDiff, Nat.reduceLT, Nat.reduceLeDiff, Nat.reduceAdd, Nat.reduceSub, Nat.reduceMul, reduceCtorEq, Int.reduceToNat, Int.reduceEq, Int.reduceLT, Int.reduceLE, Int.reduceNe, Int.reduceNeg , or_self, or_false, false_or , List.length_map, Bool.or_true, Bool.true_or, Bool.false_or, Bool.or_false, Int.cast_ofNat_Int, Sp.d]
  refine (c55 ⟨100, 100⟩ [⟨20, 25⟩, ⟨30, 30⟩] ⟨40, 44⟩ (by simp)).call rfl rfl rfl ?_
  rw [ex_missing]
  simp only [go_sem, Nat.reduceBEq, Nat.reduceEqDiff, Nat.reduceLT, Nat.reduceLeDiff, Nat.reduceAdd, Nat.reduceSub, Nat.reduceMul, reduceCtorEq, Int.reduceToNat, Int.reduceEq, Int.reduceLT, Int.reduceLE, Int.reduceNe, Int.reduceNeg , or_self, or_false, false_or , List.length_map, Bool.or_true, Bool.true_or, Bool.false_or, Bool.or_false, Int.cast_ofNat_Int, Sp.d]
  have hd0 : ∀ {α : Type} [DecidableEq α] (l : List α), decide (l = l) = true := fun l => by simp
  refine ADrw.treeG (fun _ => false) tt_ok (by kernel_rfl) (fun k => if k = 29 then some .L else some .S) (.ones [0, 1, 2, 3, 4, 5, 6, 7, 8, 9, 10, 11, 12, 13, 14, 15, 16, 17, 18, 19, 20, 21, 22, 23, 24, 25, 26, 27, 28, 29, 30, 31, 32, 33, 34, 35, 36, 37, 38, 39, 40, 41] .done) (by simp) (fun _ h => nomatch h) rfl rfl (by kernel_rfl) ?_
  simp only [go_sem, Nat.reduceBEq, Nat.reduceEqDiff, Nat.reduceLT, Nat.reduceLeDiff, Nat.reduceAdd, Nat.reduceSub, Nat.reduceMul, reduceCtorEq, Int.reduceToNat, Int.reduceEq, Int.reduceLT, Int.reduceLE, Int.reduceNe, Int.reduceNeg , or_self, or_false, false_or , List.length_map, Bool.or_true, Bool.true_or, Bool.false_or, Bool.or_false, Int.cast_ofNat_Int]
  refine (c26 10 12).callS rfl rfl rfl rfl rfl rfl ?_
  simp only [go_sem, Nat.reduceBEq, Nat.reduceEqDiff, Nat.reduceLT, Nat.reduceLeDiff, Nat.reduceAdd, Nat.reduceSub, Nat.reduceMul, reduceCtorEq, Int.reduceToNat, Int.reduceEq, Int.reduceLT, Int.reduceLE, Int.reduceNe, Int.reduceNeg , or_self, or_false, false_or , List.length_map, Bool.or_true, Bool.true_or, Bool.false_or, Bool.or_false, Int.cast_ofNat_Int, Sp.d, Step.d, intsD, hd0]
  refine (c26 9 11).callS rfl rfl rfl rfl rfl rfl ?_
  simp only [go_sem, Nat.reduceBEq, Nat.reduceEqDiff, Nat.reduceLT, Nat.reduceLeDiff, Nat.reduceAdd, Nat.reduceSub, Nat.reduceMul, reduceCtorEq, Int.reduceToNat, Int.reduceEq, Int.reduceLT, Int.reduceLE, Int.reduceNe, Int.reduceNeg , or_self, or_false, false_or , List.length_map, Bool.or_true, Bool.true_or, Bool.false_or, Bool.or_false, Int.cast_ofNat_Int, Sp.d, Step.d, intsD, hd0]
  refine (c26 7 9).callS rfl rfl rfl rfl rfl rfl ?_
  simp only [go_sem, Nat.reduceBEq, Nat.reduceEqDiff, Nat.reduceLT, Nat.reduceLeDiff, Nat.reduceAdd, Nat.reduceSub, Nat.reduceMul, reduceCtorEq, Int.reduceToNat, Int.reduceEq, Int.reduceLT, Int.reduceLE, Int.reduceNe, Int.reduceNeg , or_self, or_false, false_or , List.length_map, Bool.or_true, Bool.true_or, Bool.false_or, Bool.or_false, Int.cast_ofNat_Int, Sp.d, Step.d, intsD, hd0]
  refine (c53 [⟨10, 12⟩, ⟨9, 11⟩, ⟨7, 9⟩] [⟨10, 12⟩, ⟨9, 11⟩, ⟨7, 9⟩] (by simp) (by simp)).callS rfl rfl rfl rfl rfl rfl ?_
  simp only [go_sem, Nat.reduceBEq, Nat.reduceEqDiff, Nat.reduceLT, Nat.reduceLeDiff, Nat.reduceAdd, Nat.reduceSub, Nat.reduceMul, reduceCtorEq, Int.reduceToNat, Int.reduceEq, Int.reduceLT, Int.reduceLE, Int.reduceNe, Int.reduceNeg , or_self, or_false, false_or , List.length_map, Bool.or_true, Bool.true_or, Bool.false_or, Bool.or_false, Int.cast_ofNat_Int, Sp.d, Step.d, intsD, hd0]
  refine (c30 [1, 2] [1, 2] (by simp) (by simp)).callS rfl rfl rfl rfl rfl rfl ?_
  simp only [go_sem, Nat.reduceBEq, Nat.reduceEqDiff, Nat.reduceLT, Nat.reduceLeDiff, Nat.reduceAdd, Nat.reduceSub, Nat.reduceMul, reduceCtorEq, Int.reduceToNat, Int.reduceEq, Int.reduceLT, Int.reduceLE, Int.reduceNe, Int.reduceNeg , or_self, or_false, false_or , List.length_map, Bool.or_true, Bool.true_or, Bool.false_or, Bool.or_false, Int.cast_ofNat_Int, Sp.d, Step.d, intsD, hd0]
  refine (c30 [2] [2] (by simp) (by simp)).callS rfl rfl rfl rfl rfl rfl ?_
  simp only [go_sem, Nat.reduceBEq, Nat.reduceEqDiff, Nat.reduceLT, Nat.reduceLeDiff, Nat.reduceAdd, Nat.reduceSub, Nat.reduceMul, reduceCtorEq, Int.reduceToNat, Int.reduceEq, Int.reduceLT, Int.reduceLE, Int.reduceNe, Int.reduceNeg , or_self, or_false, false_or , List.length_map, Bool.or_true, Bool.true_or, Bool.false_or, Bool.or_false, Int.cast_ofNat_Int, Sp.d, Step.d, intsD, hd0]
  refine (c26 7 8).callS rfl rfl rfl rfl rfl rfl ?_
  simp only [go_sem, Nat.reduceBEq, Nat.reduceEqDiff, Nat.reduceLT, Nat.reduceLeDiff, Nat.reduceAdd, Nat.reduceSub, Nat.reduceMul, reduceCtorEq, Int.reduceToNat, Int.reduceEq, Int.reduceLT, Int.reduceLE, Int.reduceNe, Int.reduceNeg , or_self, or_false, false_or , List.length_map, Bool.or_true, Bool.true_or, Bool.false_or, Bool.or_false, Int.cast_ofNat_Int, Sp.d, Step.d, intsD, hd0]
  refine (c24 0 5).callS rfl rfl rfl rfl rfl rfl ?_
  simp only [go_sem, Nat.reduceBEq, Nat.reduceEqDiff, Nat.reduceLT, Nat.reduceLeDiff, Nat.reduceAdd, Nat.reduceSub, Nat.reduceMul, reduceCtorEq, Int.reduceToNat, Int.reduceEq, Int.reduceLT, Int.reduceLE, Int.reduceNe, Int.reduceNeg , or_self, or_false, false_or , List.length_map, Bool.or_true, Bool.true_or, Bool.false_or, Bool.or_false, Int.cast_ofNat_Int, Sp.d, Step.d, intsD, hd0]
  refine (c24 1 7).callS rfl rfl rfl rfl rfl rfl ?_
  simp only [go_sem, Nat.reduceBEq, Nat.reduceEqDiff, Nat.reduceLT, Nat.reduceLeDiff, Nat.reduceAdd, Nat.reduceSub, Nat.reduceMul, reduceCtorEq, Int.reduceToNat, Int.reduceEq, Int.reduceLT, Int.reduceLE, Int.reduceNe, Int.reduceNeg , or_self, or_false, false_or , List.length_map, Bool.or_true, Bool.true_or, Bool.false_or, Bool.or_false, Int.cast_ofNat_Int, Sp.d, Step.d, intsD, hd0]
  refine (c24 2 4).callS rfl rfl rfl rfl rfl rfl ?_
  simp only [go_sem, Nat.reduceBEq, Nat.reduceEqDiff, Nat.reduceLT, Nat.reduceLeDiff, Nat.reduceAdd, Nat.reduceSub, Nat.reduceMul, reduceCtorEq, Int.reduceToNat, Int.reduceEq, Int.reduceLT, Int.reduceLE, Int.reduceNe, Int.reduceNeg , or_self, or_false, false_or , List.length_map, Bool.or_true, Bool.true_or, Bool.false_or, Bool.or_false, Int.cast_ofNat_Int, Sp.d, Step.d, intsD, hd0]
  refine (c29 [⟨0, 5⟩, ⟨1, 7⟩, ⟨2, 4⟩] [⟨0, 5⟩, ⟨1, 7⟩, ⟨2, 4⟩] (by simp) (by simp)).callS rfl rfl rfl rfl rfl rfl ?_
  simp only [go_sem, Nat.reduceBEq, Nat.reduceEqDiff, Nat.reduceLT, Nat.reduceLeDiff, Nat.reduceAdd, Nat.reduceSub, Nat.reduceMul, reduceCtorEq, Int.reduceToNat, Int.reduceEq, Int.reduceLT, Int.reduceLE, Int.reduceNe, Int.reduceNeg , or_self, or_false, false_or , List.length_map, Bool.or_true, Bool.true_or, Bool.false_or, Bool.or_false, Int.cast_ofNat_Int, Sp.d, Step.d, intsD, hd0]
  refine ADrw.treeG (fun _ => false) tt_ok (by kernel_rfl) (fun k => if k = 4 ∨ k = 9 ∨ k = 14 ∨ k = 32 then some .L else some .S) (.ones [0, 1, 2, 3, 4, 5, 6, 7, 8, 9, 10, 11, 12, 13, 14, 15, 16, 17, 18, 19, 20, 21, 22, 23, 24, 25, 26, 27, 28, 29, 30, 31, 32, 33, 34, 35, 36] .done) (by simp) (fun _ h => nomatch h) rfl rfl (by kernel_rfl) ?_
  simp only [go_sem, Nat.reduceBEq, Nat.reduceEqDiff, Nat.reduceLT, Nat.reduceLeDiff, Nat.reduceAdd, Nat.reduceSub, Nat.reduceMul, reduceCtorEq, Int.reduceToNat, Int.reduceEq, Int.reduceLT, Int.reduceLE, Int.reduceNe, Int.reduceNeg , or_self, or_false, false_or , List.length_map, Bool.or_true, Bool.true_or, Bool.false_or, Bool.or_false, Int.cast_ofNat_Int]
  refine (c23 [0, 1, 0] [0, 1, 0] (by simp) (by simp)).callS rfl rfl rfl rfl rfl rfl ?_
  simp only [go_sem, Nat.reduceBEq, Nat.reduceEqDiff, Nat.reduceLT, Nat.reduceLeDiff, Nat.reduceAdd, Nat.reduceSub, Nat.reduceMul, reduceCtorEq, Int.reduceToNat, Int.reduceEq, Int.reduceLT, Int.reduceLE, Int.reduceNe, Int.reduceNeg , or_self, or_false, false_or , List.length_map, Bool.or_true, Bool.true_or, Bool.false_or, Bool.or_false, Int.cast_ofNat_Int, Sp.d, Step.d, intsD, hd0]
  refine (c26 18 20).callS rfl rfl rfl rfl rfl rfl ?_
  simp only [go_sem, Nat.reduceBEq, Nat.reduceEqDiff, Nat.reduceLT, Nat.reduceLeDiff, Nat.reduceAdd, Nat.reduceSub, Nat.reduceMul, reduceCtorEq, Int.reduceToNat, Int.reduceEq, Int.reduceLT, Int.reduceLE, Int.reduceNe, Int.reduceNeg , or_self, or_false, false_or , List.length_map, Bool.or_true, Bool.true_or, Bool.false_or, Bool.or_false, Int.cast_ofNat_Int, Sp.d, Step.d, intsD, hd0]
  refine (c26 15 20).callS rfl rfl rfl rfl rfl rfl ?_
  simp only [go_sem, Nat.reduceBEq, Nat.reduceEqDiff, Nat.reduceLT, Nat.reduceLeDiff, Nat.reduceAdd, Nat.reduceSub, Nat.reduceMul, reduceCtorEq, Int.reduceToNat, Int.reduceEq, Int.reduceLT, Int.reduceLE, Int.reduceNe, Int.reduceNeg , or_self, or_false, false_or , List.length_map, Bool.or_true, Bool.true_or, Bool.false_or, Bool.or_false, Int.cast_ofNat_Int, Sp.d, Step.d, intsD, hd0]
  refine (c26 10 10).callS rfl rfl rfl rfl rfl rfl ?_
  simp only [go_sem, Nat.reduceBEq, Nat.reduceEqDiff, Nat.reduceLT, Nat.reduceLeDiff, Nat.reduceAdd, Nat.reduceSub, Nat.reduceMul, reduceCtorEq, Int.reduceToNat, Int.reduceEq, Int.reduceLT, Int.reduceLE, Int.reduceNe, Int.reduceNeg , or_self, or_false, false_or , List.length_map, Bool.or_true, Bool.true_or, Bool.false_or, Bool.or_false, Int.cast_ofNat_Int, Sp.d, Step.d, intsD, hd0]
  refine (c26 41 44).callS rfl rfl rfl rfl rfl rfl ?_
  simp only [go_sem, Nat.reduceBEq, Nat.reduceEqDiff, Nat.reduceLT, Nat.reduceLeDiff, Nat.reduceAdd, Nat.reduceSub, Nat.reduceMul, reduceCtorEq, Int.reduceToNat, Int.reduceEq, Int.reduceLT, Int.reduceLE, Int.reduceNe, Int.reduceNeg , or_self, or_false, false_or , List.length_map, Bool.or_true, Bool.true_or, Bool.false_or, Bool.or_false, Int.cast_ofNat_Int, Sp.d, Step.d, intsD, hd0]
  refine (c26 50 60).callS rfl rfl rfl rfl rfl rfl ?_
  simp only [go_sem, Nat.reduceBEq, Nat.reduceEqDiff, Nat.reduceLT, Nat.reduceLeDiff, Nat.reduceAdd, Nat.reduceSub, Nat.reduceMul, reduceCtorEq, Int.reduceToNat, Int.reduceEq, Int.reduceLT, Int.reduceLE, Int.reduceNe, Int.reduceNeg , or_self, or_false, false_or , List.length_map, Bool.or_true, Bool.true_or, Bool.false_or, Bool.or_false, Int.cast_ofNat_Int, Sp.d, Step.d, intsD, hd0]
  refine (c26 20 22).callS rfl rfl rfl rfl rfl rfl ?_
  simp only [go_sem, Nat.reduceBEq, Nat.reduceEqDiff, Nat.reduceLT, Nat.reduceLeDiff, Nat.reduceAdd, Nat.reduceSub, Nat.reduceMul, reduceCtorEq, Int.reduceToNat, Int.reduceEq, Int.reduceLT, Int.reduceLE, Int.reduceNe, Int.reduceNeg , or_self, or_false, false_or , List.length_map, Bool.or_true, Bool.true_or, Bool.false_or, Bool.or_false, Int.cast_ofNat_Int, Sp.d, Step.d, intsD, hd0]
  refine (c53 [⟨41, 44⟩, ⟨50, 60⟩, ⟨20, 22⟩] [⟨41, 44⟩, ⟨50, 60⟩, ⟨20, 22⟩] (by simp) (by simp)).callS rfl rfl rfl rfl rfl rfl ?_
  simp only [go_sem, Nat.reduceBEq, Nat.reduceEqDiff, Nat.reduceLT, Nat.reduceLeDiff, Nat.reduceAdd, Nat.reduceSub, Nat.reduceMul, reduceCtorEq, Int.reduceToNat, Int.reduceEq, Int.reduceLT, Int.reduceLE, Int.reduceNe, Int.reduceNeg , or_self, or_false, false_or , List.length_map, Bool.or_true, Bool.true_or, Bool.false_or, Bool.or_false, Int.cast_ofNat_Int, Sp.d, Step.d, intsD, hd0]
  refine (c23 [0] [0] (by simp) (by simp)).callS rfl rfl rfl rfl rfl rfl ?_
  simp only [go_sem, Nat.reduceBEq, Nat.reduceEqDiff, Nat.reduceLT, Nat.reduceLeDiff, Nat.reduceAdd, Nat.reduceSub, Nat.reduceMul, reduceCtorEq, Int.reduceToNat, Int.reduceEq, Int.reduceLT, Int.reduceLE, Int.reduceNe, Int.reduceNeg , or_self, or_false, false_or , List.length_map, Bool.or_true, Bool.true_or, Bool.false_or, Bool.or_false, Int.cast_ofNat_Int, Sp.d, Step.d, intsD, hd0]
  refine (c26 1 10).callS rfl rfl rfl rfl rfl rfl ?_
  simp only [go_sem, Nat.reduceBEq, Nat.reduceEqDiff, Nat.reduceLT, Nat.reduceLeDiff, Nat.reduceAdd, Nat.reduceSub, Nat.reduceMul, reduceCtorEq, Int.reduceToNat, Int.reduceEq, Int.reduceLT, Int.reduceLE, Int.reduceNe, Int.reduceNeg , or_self, or_false, false_or , List.length_map, Bool.or_true, Bool.true_or, Bool.false_or, Bool.or_false, Int.cast_ofNat_Int, Sp.d, Step.d, intsD, hd0]
end Go.Aw
end

section
set_option maxRecDepth 100000
namespace Go.Aw
open Go Go.Proofs

theorem has_int {f : Nat} {y : D} (h : HasT Try.prog (f + 1) 3 y) : ∃ n, y = .int .i64 n ∧ (Lit.int .i64 n).wf = true := by
  unfold HasT at h
  rw [Try.underlying3] at h
  exact h

theorem has_sp {f : Nat} {y : D} (h : HasT Try.prog (f + 2) 23 y) : ∃ s : Sp, y = s.d := by
  unfold HasT at h
  rw [Try.underlying23] at h
  obtain ⟨l, rfl, h⟩ := h
  simp only [HasFs] at h
  obtain ⟨y1, r1, rfl, h1, y2, r2, rfl, h2, rfl⟩ := h
  obtain ⟨n1, rfl, _⟩ := has_int h1
  obtain ⟨n2, rfl, _⟩ := has_int h2
  exact ⟨⟨n1, n2⟩, rfl⟩

theorem has_list {α : Type} {enc : α → D} {p : D → Prop} (he : ∀ y, p y → ∃ s, y = enc s) : ∀ l : List D, (∀ y ∈ l, p y) → ∃ ss : List α, l = ss.map enc
  | [], _ => ⟨[], rfl⟩
  | y :: r, h => by
    obtain ⟨s, rfl⟩ := he y (h y (by simp))
    obtain ⟨ss, rfl⟩ := has_list he r fun z hz => h z (List.mem_cons_of_mem _ hz)
    exact ⟨s :: ss, rfl⟩

theorem has_ints {f : Nat} {y : D} (h : HasT Try.prog (f + 2) 27 y) : ∃ l : List Int, y = .sl (l.map (.int .i64)) := by
  unfold HasT at h
  rw [Try.underlying27] at h
  obtain ⟨l, rfl, h1, hl⟩ := h
  obtain ⟨ss, rfl⟩ := has_list (fun y hy => by obtain ⟨n, rfl, hn⟩ := has_int hy; exact ⟨n, rfl⟩) l hl
  exact ⟨ss, rfl⟩

theorem has_plate {f : Nat} {y : D} (h : HasT Try.prog (f + 3) 117 y) : ∃ s : Plate, y = s.d := by
  unfold HasT at h
  rw [Try.underlying117] at h
  obtain ⟨l, rfl, h⟩ := h
  simp only [HasFs] at h
  obtain ⟨y1, r1, rfl, h1, y2, r2, rfl, h2, y3, r3, rfl, h3, rfl⟩ := h
  obtain ⟨n1, rfl⟩ := has_sp h1
  obtain ⟨n2, rfl, _⟩ := has_int h2
  obtain ⟨n3, rfl, _⟩ := has_int h3
  exact ⟨⟨n1, n2, n3⟩, rfl⟩

theorem has_bath {f : Nat} {y : D} (h : HasT Try.prog (f + 5) 26 y) : ∃ s : Bath, y = s.d := by
  unfold HasT at h
  rw [Try.underlying26] at h
  obtain ⟨l, rfl, h⟩ := h
  simp only [HasFs] at h
  obtain ⟨y1, r1, rfl, h1, y2, r2, rfl, h2, rfl⟩ := h
  obtain ⟨n1, rfl⟩ := has_sp h1
  unfold HasT at h2
  rw [Try.underlying24] at h2
  obtain ⟨l2, rfl, _, k2⟩ := h2
  obtain ⟨es, rfl⟩ := has_list (fun y hy => has_plate hy) l2 k2
  exact ⟨⟨n1, es⟩, rfl⟩

theorem has_step {f : Nat} {y : D} (h : HasT Try.prog (f + 2) 39 y) : ∃ s : Step, y = s.d := by
  unfold HasT at h
  rw [Try.underlying39] at h
  obtain ⟨l, rfl, h⟩ := h
  simp only [HasFs] at h
  obtain ⟨y1, r1, rfl, h1, y2, r2, rfl, h2, rfl⟩ := h
  obtain ⟨n1, rfl, _⟩ := has_int h1
  obtain ⟨n2, rfl, _⟩ := has_int h2
  exact ⟨⟨n1, n2⟩, rfl⟩

theorem has_steps {f : Nat} {y : D} (h : HasT Try.prog (f + 3) 37 y) : ∃ l : List Step, y = .sl (l.map Step.d) := by
  unfold HasT at h
  rw [Try.underlying37] at h
  obtain ⟨l, rfl, h1, hl⟩ := h
  obtain ⟨ss, rfl⟩ := has_list (fun y hy => has_step hy) l hl
  exact ⟨ss, rfl⟩
end Go.Aw
end

section
set_option maxRecDepth 100000
namespace Go.Aw
open Go Go.Proofs.Try

def Byte (n : Int) : Prop := 0 ≤ n ∧ n < 256

/-- Three bytes; four bytes. -/
structure B3 where
  a : Int
  b : Int
  c : Int
deriving DecidableEq

structure B4 where
  a : Int
  b : Int
  c : Int
  e : Int
deriving DecidableEq

def B3.d (s : B3) : D := .agg [.int .u8 s.a, .int .u8 s.b, .int .u8 s.c]
def B4.d (s : B4) : D := .agg [.int .u8 s.a, .int .u8 s.b, .int .u8 s.c, .int .u8 s.e]

structure B3.Ok (s : B3) : Prop where
  a : Byte s.a
  b : Byte s.b
  c : Byte s.c

structure B4.Ok (s : B4) : Prop where
  a : Byte s.a
  b : Byte s.b
  c : Byte s.c
  e : Byte s.e

theorem byte_conv {n : Int} (h : Byte n) : wr n = n := by simp only [Byte] at h; exact w64 (by omega) (by omega)

theorem c62 (n : Int) (s : Sp) : PC prog 62 [.d (.int .i64 n), .d s.d] (.d (.bool (decide (n ≥ s.lo) && decide (n ≤ s.hi)))) := by
  refine PC.run (fun _ => false) tt_ok (fn := f62) (rs := [.tmp 4]) rfl rfl rfl rfl rfl rfl rfl ?_
  simp only [go_sem, Nat.reduceBEq, Nat.reduceEqDiff, Nat.reduceLT, Nat.reduceLeDiff, Nat.reduceAdd, Nat.reduceSub, Nat.reduceMul, reduceCtorEq, Int.reduceToNat, Int.reduceEq, Int.reduceLT, Int.reduceLE, Int.reduceNe, Int.reduceNeg , or_self, or_false, false_or , List.length_map, Bool.or_true, Bool.true_or, Bool.false_or, Bool.or_false, Int.cast_ofNat_Int, Sp.d]
  refine Br_split (fun h => ?_) (fun h => ?_) <;> simp only [go_sem, Nat.reduceBEq, Nat.reduceEqDiff, Nat.reduceLT, Nat.reduceLeDiff, Nat.reduceAdd, Nat.reduceSub, Nat.reduceMul, reduceCtorEq, Int.reduceToNat, Int.reduceEq, Int.reduceLT, Int.reduceLE, Int.reduceNe, Int.reduceNeg , or_self, or_false, false_or , List.length_map, Bool.or_true, Bool.true_or, Bool.false_or, Bool.or_false, Int.cast_ofNat_Int, h]

theorem c69 (a b : Sp) : PC prog 69 [.d a.d, .d b.d] (.d (.bool (decide (a.lo ≥ b.lo) && decide (a.hi ≤ b.hi) && decide (a.lo ≤ a.hi)))) := by
  refine PC.run (fun _ => false) tt_ok (fn := f69) (rs := [.tmp 4]) rfl rfl rfl rfl rfl rfl rfl ?_
  simp only [go_sem, Nat.reduceBEq, Nat.reduceEqDiff, Nat.reduceLT, Nat.reduceLeDiff, Nat.reduceAdd, Nat.reduceSub, Nat.reduceMul, reduceCtorEq, Int.reduceToNat, Int.reduceEq, Int.reduceLT, Int.reduceLE, Int.reduceNe, Int.reduceNeg , or_self, or_false, false_or , List.length_map, Bool.or_true, Bool.true_or, Bool.false_or, Bool.or_false, Int.cast_ofNat_Int, Sp.d]
  refine Br_split (fun h => ?_) (fun h => ?_) <;> simp only [go_sem, Nat.reduceBEq, Nat.reduceEqDiff, Nat.reduceLT, Nat.reduceLeDiff, Nat.reduceAdd, Nat.reduceSub, Nat.reduceMul, reduceCtorEq, Int.reduceToNat, Int.reduceEq, Int.reduceLT, Int.reduceLE, Int.reduceNe, Int.reduceNeg , or_self, or_false, false_or , List.length_map, Bool.or_true, Bool.true_or, Bool.false_or, Bool.or_false, Int.cast_ofNat_Int, h]
  refine Br_split (fun h2 => ?_) (fun h2 => ?_) <;> simp only [go_sem, Nat.reduceBEq, Nat.reduceEqDiff, Nat.reduceLT, Nat.reduceLeDiff, Nat.reduceAdd, Nat.reduceSub, Nat.reduceMul, reduceCtorEq, Int.reduceToNat, Int.reduceEq, Int.reduceLT, Int.reduceLE, Int.reduceNe, Int.reduceNeg , or_self, or_false, false_or , List.length_map, Bool.or_true, Bool.true_or, Bool.false_or, Bool.or_false, Int.cast_ofNat_Int, h, h2]

/-- What is known of what was used. -/
def usedS (x : B3) : Sp := ⟨max 0 (x.a - x.b % 20), x.a + x.c % 20⟩

def sumA (l : List B3) : Int := (l.map B3.a).sum

theorem sumA_bnd : ∀ l : List B3, (∀ x ∈ l, x.Ok) → 0 ≤ sumA l ∧ sumA l ≤ 255 * l.length
  | [], _ => by simp [sumA]
  | x :: r, h => by
    have h1 := (h x List.mem_cons_self).a
    have h2 := sumA_bnd r (fun y hy => h y (List.mem_cons_of_mem _ hy))
    simp only [Byte] at h1
    simp only [sumA, List.map_cons, List.sum_cons, List.length_cons] at h2 ⊢
    omega

theorem miss_sum : ∀ (l : List Sp) (m : Sp), l.foldl missStep m = ⟨m.lo - (l.map Sp.hi).sum, m.hi - (l.map Sp.lo).sum⟩
  | [], m => by simp
  | s :: r, m => by
    rw [List.foldl_cons, miss_sum r]
    simp only [missStep, List.map_cons, List.sum_cons, Sp.mk.injEq]
    omega

theorem used_sum : ∀ l : List B3, (∀ x ∈ l, x.Ok) → sumA l ≤ ((l.map usedS).map Sp.hi).sum ∧ ((l.map usedS).map Sp.lo).sum ≤ sumA l
  | [], _ => by simp [sumA]
  | x :: r, h => by
    have h0 := h x List.mem_cons_self
    have h1 := h0.a
    have h2 := h0.b
    have h3 := h0.c
    have h4 := used_sum r (fun y hy => h y (List.mem_cons_of_mem _ hy))
    simp only [Byte] at h1 h2 h3
    simp only [sumA, List.map_cons, List.sum_cons, usedS] at h4 ⊢
    omega

def aS (full c : Int) : Sp := ⟨max 0 (full - c % 30), full + c / 30⟩
def bS (left e : Int) : Sp := ⟨max 0 (left - e % 16), left + e / 16⟩
def wider (s : Sp) : Sp := ⟨max 0 (s.lo - 5), s.hi + 5⟩

theorem carboy_ok {full left : Sp} {used : List Sp} (h1 : used.length ≤ 10) (h2 : badCarboy full = false) (h3 : badCarboy left = false) (h4 : ∀ s ∈ used, badCarboy s = false) : carboyP full used left = 0 := by
  have : used.any badCarboy = false := by
    rw [List.any_eq_false]
    intro s hs
    rw [h4 s hs]; simp
  simp only [carboyP, if_neg (show ¬ used.length > 10 by omega), h2, h3, this]
  rfl

theorem missed_law {L : List B3} {v : B4} (hL : ∀ x ∈ L, x.Ok) (hl : L.length ≤ 10) (hv : v.Ok) : ∃ s t : Sp, missP (aS (sumA L + v.a + v.b) v.c) (L.map usedS) (bS v.a v.e) = (s, 0) ∧ missP (wider (aS (sumA L + v.a + v.b) v.c)) (L.map usedS) (wider (bS v.a v.e)) = (t, 0) ∧
    (v.b ≥ s.lo ∧ v.b ≤ s.hi) ∧ 0 ≤ s.lo ∧ s.lo ≥ t.lo ∧ s.hi ≤ t.hi ∧ s.lo ≤ s.hi := by
  have hb := sumA_bnd L hL
  have hs := used_sum L hL
  have h1 := hv.a
  have h2 := hv.b
  have h3 := hv.c
  have h4 := hv.e
  simp only [Byte] at h1 h2 h3 h4
  have hlen : (L.map usedS).length ≤ 10 := by simpa using hl
  have hu : ∀ s ∈ L.map usedS, badCarboy s = false := fun s hs => by
    obtain ⟨x, hx, rfl⟩ := List.mem_map.1 hs
    have k1 := (hL x hx).a
    have k2 := (hL x hx).b
    have k3 := (hL x hx).c
    simp only [Byte] at k1 k2 k3
    rw [badCarboy_iff]
    simp only [usedS]
    omega
  generalize sumA L = S at hb hs
  have c0 : carboyP (aS (S + v.a + v.b) v.c) (L.map usedS) (bS v.a v.e) = 0 := carboy_ok hlen (by rw [badCarboy_iff]; simp only [aS]; omega) (by rw [badCarboy_iff]; simp only [bS]; omega) hu
  have c1 : carboyP (wider (aS (S + v.a + v.b) v.c)) (L.map usedS) (wider (bS v.a v.e)) = 0 := carboy_ok hlen (by rw [badCarboy_iff]; simp only [aS, wider]; omega) (by rw [badCarboy_iff]; simp only [bS, wider]; omega) hu
  have m : ∀ f l : Sp, missAll f (L.map usedS) l = ⟨f.lo - ((L.map usedS).map Sp.hi).sum - l.hi, f.hi - ((L.map usedS).map Sp.lo).sum - l.lo⟩ := fun f l => by
    simp only [missAll, List.foldl_append, List.foldl_cons, List.foldl_nil, missStep]
    rw [miss_sum]
  generalize ((L.map usedS).map Sp.hi).sum = P at hs m
  generalize ((L.map usedS).map Sp.lo).sum = Q at hs m
  have n0 : ¬ (missAll (aS (S + v.a + v.b) v.c) (L.map usedS) (bS v.a v.e)).hi < 0 := by rw [m]; simp only [aS, bS]; omega
  have n1 : ¬ (missAll (wider (aS (S + v.a + v.b) v.c)) (L.map usedS) (wider (bS v.a v.e))).hi < 0 := by rw [m]; simp only [aS, bS, wider]; omega
  refine ⟨_, _, by rw [missP, if_pos c0, if_neg n0], by rw [missP, if_pos c1, if_neg n1], ?_⟩
  simp only [m, aS, bS, wider]
  omega

theorem c16 (used : List B3) (v : B4) (hu : ∀ x ∈ used, x.Ok) (hv : v.Ok) : PC prog 16 [.d (.sl (used.map B3.d)), .d v.d] (.d (.bool true)) := by
  refine PC.run (fun k => k == 18) tt_ok (fn := f16) (rs := [.tmp 4]) rfl rfl rfl rfl rfl rfl rfl ?_
  have hv1 := hv.a
  have hv2 := hv.b
  have hv3 := hv.c
  have hv4 := hv.e
  have hv0 := hv
  have ea := byte_conv hv1
  have eb := byte_conv hv2
  have ec := byte_conv hv3
  have ee := byte_conv hv4
  have hc0 := hv3.1
  have he0 := hv4.1
  have mc : v.c.tmod 30 = v.c % 30 := Int.tmod_eq_emod_of_nonneg hc0
  have me : v.e.tmod 16 = v.e % 16 := Int.tmod_eq_emod_of_nonneg he0
  have qc : v.c.tdiv 30 = v.c / 30 := Int.tdiv_eq_ediv_of_nonneg hc0
  have qe : v.e.tdiv 16 = v.e / 16 := Int.tdiv_eq_ediv_of_nonneg he0
  have z20 : (20 : Int) ≠ 0 := by omega
  have z30 : (30 : Int) ≠ 0 := by omega
  have z16 : (16 : Int) ≠ 0 := by omega
  simp only [go_sem, Nat.reduceBEq, Nat.reduceEqDiff, Nat.reduceLT, Nat.reduceLeDiff, Nat.reduceAdd, Nat.reduceSub, Nat.reduceMul, reduceCtorEq, Int.reduceToNat, Int.reduceEq, Int.reduceLT, Int.reduceLE, Int.reduceNe, Int.reduceNeg , or_self, or_false, false_or , List.length_map, Bool.or_true, Bool.true_or, Bool.false_or, Bool.or_false, Int.cast_ofNat_Int, B4.d]
  refine ALoop.by (S := Nat) (fun i => [(8, .d (.int .i64 i)), (7, .ref 1 i 0 i), (6, .d (.int .i64 (sumA (used.take i)))), (3, .ptr 0 0), (0, .d (.sl (used.map B3.d)))])
    (fun i => [.cells [.d (.int .u8 v.a), .d (.int .u8 v.b), .d (.int .u8 v.c), .d (.int .u8 v.e)], .arr 2 false (((used.take i).map usedS).map Sp.d)]) (fun i => 10 - i) (fun i => i ≤ used.length ∧ i ≤ 10) 0 (by simp) (fun _ h => nomatch h) ⟨Nat.zero_le _, by omega⟩ ?_ ?_
  · exact ForgetTo.same' (by simp) (by simp [EWe, Env.look, sumA]) (by simp)
  rintro i ⟨hi, hi10⟩ hn
  have hub := sumA_bnd (used.take i) (fun x hx => hu x (List.mem_of_mem_take hx))
  have hlen : (used.take i).length = i := by simp; omega
  rw [hlen] at hub
  refine AWP.run (fun k => k == 18) tt_ok (fun _ h => nomatch h) (by simp) rfl ?_
  simp only [go_sem, Nat.reduceBEq, Nat.reduceEqDiff, Nat.reduceLT, Nat.reduceLeDiff, Nat.reduceAdd, Nat.reduceSub, Nat.reduceMul, reduceCtorEq, Int.reduceToNat, Int.reduceEq, Int.reduceLT, Int.reduceLE, Int.reduceNe, Int.reduceNeg , or_self, or_false, false_or , List.length_map, Bool.or_true, Bool.true_or, Bool.false_or, Bool.or_false, Int.cast_ofNat_Int]
  refine Br_split (fun hd => ?_) (fun hd => ?_) <;> simp only [go_sem, Nat.reduceBEq, Nat.reduceEqDiff, Nat.reduceLT, Nat.reduceLeDiff, Nat.reduceAdd, Nat.reduceSub, Nat.reduceMul, reduceCtorEq, Int.reduceToNat, Int.reduceEq, Int.reduceLT, Int.reduceLE, Int.reduceNe, Int.reduceNeg , or_self, or_false, false_or , List.length_map, Bool.or_true, Bool.true_or, Bool.false_or, Bool.or_false, Int.cast_ofNat_Int, hd]
  · have hlt : i < used.length := by simpa using hd
    refine Br_split (fun hd2 => ?_) (fun hd2 => ?_) <;> simp only [go_sem, Nat.reduceBEq, Nat.reduceEqDiff, Nat.reduceLT, Nat.reduceLeDiff, Nat.reduceAdd, Nat.reduceSub, Nat.reduceMul, reduceCtorEq, Int.reduceToNat, Int.reduceEq, Int.reduceLT, Int.reduceLE, Int.reduceNe, Int.reduceNeg , or_self, or_false, false_or , List.length_map, Bool.or_true, Bool.true_or, Bool.false_or, Bool.or_false, Int.cast_ofNat_Int, hd, hd2]
    · have hlt2 : i < 10 := by simp only [decide_eq_true_eq] at hd2; omega
      have hx := hu _ (List.getElem_mem hlt)
      have hix : idx? (used.map B3.d) (i : Int) = some (used[i]).d := by simp [idx?, List.getElem?_eq_getElem hlt]
      have hst : (used.take (i + 1)) = used.take i ++ [used[i]] := List.take_succ_eq_append_getElem hlt
      generalize used[i] = x at hx hix hst
      have hx1 := hx.a
      have hx2 := hx.b
      have hx3 := hx.c
      have e1 := byte_conv hx1
      have e2 := byte_conv hx2
      have e3 := byte_conv hx3
      simp only [Byte] at hx1 hx2 hx3
      have m2 : x.b.tmod 20 = x.b % 20 := Int.tmod_eq_emod_of_nonneg hx2.1
      have m3 : x.c.tmod 20 = x.c % 20 := Int.tmod_eq_emod_of_nonneg hx3.1
      have w1 : IntKind.i64.wrap (sumA (used.take i) + x.a) = sumA (used.take i) + x.a := w64 (by omega) (by omega)
      have w2 : IntKind.i64.wrap (x.a - x.b % 20) = x.a - x.b % 20 := w64 (by omega) (by omega)
      have w3 : IntKind.i64.wrap (x.a + x.c % 20) = x.a + x.c % 20 := w64 (by omega) (by omega)
      simp only [go_sem, Nat.reduceBEq, Nat.reduceEqDiff, Nat.reduceLT, Nat.reduceLeDiff, Nat.reduceAdd, Nat.reduceSub, Nat.reduceMul, reduceCtorEq, Int.reduceToNat, Int.reduceEq, Int.reduceLT, Int.reduceLE, Int.reduceNe, Int.reduceNeg , or_self, or_false, false_or , List.length_map, Bool.or_true, Bool.true_or, Bool.false_or, Bool.or_false, Int.cast_ofNat_Int, hix, B3.d, e1, w1]
      refine ADrw.treeG (fun k => k == 18) tt_ok (by kernel_rfl) (fun k => if k = 22 then some .W else some .S) (.ones [0, 1, 2, 3, 4, 5, 6, 7, 8, 9, 10, 11, 12, 13, 14, 15, 16, 17, 18, 19, 20, 21, 22, 23] .done) (by simp) (fun _ h => nomatch h) rfl rfl (by kernel_rfl) ?_
      simp only [go_sem, Nat.reduceBEq, Nat.reduceEqDiff, Nat.reduceLT, Nat.reduceLeDiff, Nat.reduceAdd, Nat.reduceSub, Nat.reduceMul, reduceCtorEq, Int.reduceToNat, Int.reduceEq, Int.reduceLT, Int.reduceLE, Int.reduceNe, Int.reduceNeg , or_self, or_false, false_or , List.length_map, Bool.or_true, Bool.true_or, Bool.false_or, Bool.or_false, Int.cast_ofNat_Int, hix, B3.d, e2, e3, m2, m3, w2, w3, remO_ne z20]
      refine (c26 (max 0 (x.a - x.b % 20)) (x.a + x.c % 20)).callS rfl rfl rfl rfl rfl rfl ?_
      have hln : (((used.take i).map usedS).map Sp.d).length = i := by simp; omega
      have hi1 : i + 1 ≤ 4294967296 := by omega
      simp only [go_sem, Nat.reduceBEq, Nat.reduceEqDiff, Nat.reduceLT, Nat.reduceLeDiff, Nat.reduceAdd, Nat.reduceSub, Nat.reduceMul, reduceCtorEq, Int.reduceToNat, Int.reduceEq, Int.reduceLT, Int.reduceLE, Int.reduceNe, Int.reduceNeg , or_self, or_false, false_or , List.length_map, Bool.or_true, Bool.true_or, Bool.false_or, Bool.or_false, Int.cast_ofNat_Int, hln, hlen, hi1, Sp.d, List.length_map]
      refine ⟨i + 1, ⟨hlt, hlt2⟩, by omega, ?_⟩
      exact ForgetTo.same' (by simp) (by simp [EWe, Env.look, hst, sumA, w64 (n := (i : Int) + 1) (by omega) (by omega)]) (by rw [hst]; simp [usedS, Sp.d])
    · 
      have hL : ∀ x ∈ used.take i, x.Ok := fun x hx => hu x (List.mem_of_mem_take hx)
      generalize used.take i = L at hub hlen hL
      have htk : ((L.map usedS).map Sp.d).take i = (L.map usedS).map Sp.d := List.take_of_length_le (by simp [hlen])
      have hsz := sized_sps (L.map usedS)
      have hle : i ≤ 4294967296 := by omega
      obtain ⟨s, t, k1, k2, k3, k4, k5, k6, k7⟩ := missed_law hL (by omega) hv0
      have b1 := hv1
      have b2 := hv2
      have b3 := hv3
      have b4 := hv4
      simp only [Byte] at b1 b2 b3 b4
      refine ADrw.treeG (fun k => k == 18) tt_ok (by kernel_rfl) (fun k => if k = 1 ∨ k = 4 then some .L else some .S) (.ones [0, 1, 2, 3, 4, 5, 6, 7] .done) (by simp) (fun _ h => nomatch h) rfl rfl (by kernel_rfl) ?_
      have w1 : IntKind.i64.wrap (sumA L + v.a) = sumA L + v.a := w64 (by omega) (by omega)
      have w2 : IntKind.i64.wrap (sumA L + v.a + v.b) = sumA L + v.a + v.b := w64 (by omega) (by omega)
      simp only [go_sem, Nat.reduceBEq, Nat.reduceEqDiff, Nat.reduceLT, Nat.reduceLeDiff, Nat.reduceAdd, Nat.reduceSub, Nat.reduceMul, reduceCtorEq, Int.reduceToNat, Int.reduceEq, Int.reduceLT, Int.reduceLE, Int.reduceNe, Int.reduceNeg , or_self, or_false, false_or , List.length_map, Bool.or_true, Bool.true_or, Bool.false_or, Bool.or_false, Int.cast_ofNat_Int, ea, eb, w1, w2]
      generalize hful : sumA L + v.a + v.b = full at k1 k2
      have hf : 0 ≤ full ∧ full ≤ 4000 := by omega
      have w3 : IntKind.i64.wrap (full - v.c % 30) = full - v.c % 30 := w64 (by omega) (by omega)
      have w4 : IntKind.i64.wrap (full + v.c / 30) = full + v.c / 30 := w64 (by omega) (by omega)
      have w5 : IntKind.i64.wrap (v.a - v.e % 16) = v.a - v.e % 16 := w64 (by omega) (by omega)
      have w6 : IntKind.i64.wrap (v.a + v.e / 16) = v.a + v.e / 16 := w64 (by omega) (by omega)
      have q1 : IntKind.i64.wrap (v.c / 30) = v.c / 30 := w64 (by omega) (by omega)
      have q2 : IntKind.i64.wrap (v.e / 16) = v.e / 16 := w64 (by omega) (by omega)
      refine ADrw.treeG (fun k => k == 18) tt_ok (by kernel_rfl) (fun k => if k = 2 ∨ k = 9 ∨ k = 16 ∨ k = 23 then some .L else if k = 30 ∨ k = 31 then some .W else if k = 28 ∨ k = 29 then some .A else some .S) (.ones [0, 1, 2, 3, 4, 5, 6, 7, 8, 9, 10, 11, 12, 13, 14, 15, 16, 17, 18, 19, 20, 21, 22, 23, 24, 25, 26, 27] (.two 28 (.ones [29, 30, 31] .done) 29 (.ones [28, 30, 31] .done))) (by simp) (fun _ h => nomatch h) rfl rfl (by kernel_rfl) ?_
      simp only [go_sem, Nat.reduceBEq, Nat.reduceEqDiff, Nat.reduceLT, Nat.reduceLeDiff, Nat.reduceAdd, Nat.reduceSub, Nat.reduceMul, reduceCtorEq, Int.reduceToNat, Int.reduceEq, Int.reduceLT, Int.reduceLE, Int.reduceNe, Int.reduceNeg , or_self, or_false, false_or , List.length_map, Bool.or_true, Bool.true_or, Bool.false_or, Bool.or_false, Int.cast_ofNat_Int, ec, ee, mc, me, qc, qe, q1, q2, w3, w4, w5, w6, remO_ne z30, remO_ne z16, quoO_ne z30, quoO_ne z16]
      have cA : PC prog 26 [.d (.int .i64 (max 0 (full - v.c % 30))), .d (.int .i64 (full + v.c / 30))] (.d (aS full v.c).d) := c26 _ _
      have cB : PC prog 26 [.d (.int .i64 (max 0 (v.a - v.e % 16))), .d (.int .i64 (v.a + v.e / 16))] (.d (bS v.a v.e).d) := c26 _ _
      refine cA.callS rfl rfl rfl rfl rfl rfl ?_
      simp only [go_sem, Nat.reduceBEq, Nat.reduceEqDiff, Nat.reduceLT, Nat.reduceLeDiff, Nat.reduceAdd, Nat.reduceSub, Nat.reduceMul, reduceCtorEq, Int.reduceToNat, Int.reduceEq, Int.reduceLT, Int.reduceLE, Int.reduceNe, Int.reduceNeg , or_self, or_false, false_or , List.length_map, Bool.or_true, Bool.true_or, Bool.false_or, Bool.or_false, Int.cast_ofNat_Int, ec, ee, mc, me, qc, qe, q1, q2, w3, w4, w5, w6, remO_ne z30, remO_ne z16, quoO_ne z30, quoO_ne z16, Sp.d]
      refine cB.callS rfl rfl rfl rfl rfl rfl ?_
      have wa1 : IntKind.i64.wrap ((aS full v.c).lo - 5) = (aS full v.c).lo - 5 := w64 (by simp only [aS]; omega) (by simp only [aS]; omega)
      have wa2 : IntKind.i64.wrap ((aS full v.c).hi + 5) = (aS full v.c).hi + 5 := w64 (by simp only [aS]; omega) (by simp only [aS]; omega)
      have wb1 : IntKind.i64.wrap ((bS v.a v.e).lo - 5) = (bS v.a v.e).lo - 5 := w64 (by simp only [bS]; omega) (by simp only [bS]; omega)
      have wb2 : IntKind.i64.wrap ((bS v.a v.e).hi + 5) = (bS v.a v.e).hi + 5 := w64 (by simp only [bS]; omega) (by simp only [bS]; omega)
      generalize aS full v.c = A at k1 k2 wa1 wa2
      generalize bS v.a v.e = B at k1 k2 wb1 wb2
      simp only [go_sem, Nat.reduceBEq, Nat.reduceEqDiff, Nat.reduceLT, Nat.reduceLeDiff, Nat.reduceAdd, Nat.reduceSub, Nat.reduceMul, reduceCtorEq, Int.reduceToNat, Int.reduceEq, Int.reduceLT, Int.reduceLE, Int.reduceNe, Int.reduceNeg , or_self, or_false, false_or , List.length_map, Bool.or_true, Bool.true_or, Bool.false_or, Bool.or_false, Int.cast_ofNat_Int, Sp.d]
      refine ⟨?_, ?_⟩
      all_goals
        refine ADrw.treeG (fun k => k == 18) tt_ok (by kernel_rfl) (fun k => if k = 0 ∨ k = 3 ∨ k = 4 then some .L else if k = 10 then some .W else if k = 9 then some .A else some .S) (.ones [0, 1, 2, 3, 4, 5, 6, 7, 8, 9, 10, 11] .done) (Nat.zero_le _) (fun _ h => nomatch h) rfl rfl (by kernel_rfl) ?_
        simp only [go_sem, Nat.reduceBEq, Nat.reduceEqDiff, Nat.reduceLT, Nat.reduceLeDiff, Nat.reduceAdd, Nat.reduceSub, Nat.reduceMul, reduceCtorEq, Int.reduceToNat, Int.reduceEq, Int.reduceLT, Int.reduceLE, Int.reduceNe, Int.reduceNeg , or_self, or_false, false_or , List.length_map, Bool.or_true, Bool.true_or, Bool.false_or, Bool.or_false, Int.cast_ofNat_Int, hlen, hle, hsz, htk, List.length_map, List.nil_append, Nat.zero_add]
        refine (c55 A (L.map usedS) B (by simp; omega)).callS rfl rfl rfl rfl rfl rfl ?_
        rw [k1]
        simp only [go_sem, Nat.reduceBEq, Nat.reduceEqDiff, Nat.reduceLT, Nat.reduceLeDiff, Nat.reduceAdd, Nat.reduceSub, Nat.reduceMul, reduceCtorEq, Int.reduceToNat, Int.reduceEq, Int.reduceLT, Int.reduceLE, Int.reduceNe, Int.reduceNeg , or_self, or_false, false_or , List.length_map, Bool.or_true, Bool.true_or, Bool.false_or, Bool.or_false, Int.cast_ofNat_Int, Sp.d]
        refine ADrw.treeG (fun k => k == 18) tt_ok (by kernel_rfl) (fun k => if k = 1 ∨ k = 5 ∨ k = 10 ∨ k = 12 ∨ k = 16 then some .L else if k = 24 then some .W else if k = 23 then some .A else some .S) (.ones [0, 1, 2, 3, 4, 5, 6, 7, 8, 9, 10, 11, 12, 13, 14, 15, 16, 17, 18, 19, 20, 21, 22, 23, 24, 25] .done) (Nat.zero_le _) (fun _ h => nomatch h) rfl rfl (by kernel_rfl) ?_
        simp only [go_sem, Nat.reduceBEq, Nat.reduceEqDiff, Nat.reduceLT, Nat.reduceLeDiff, Nat.reduceAdd, Nat.reduceSub, Nat.reduceMul, reduceCtorEq, Int.reduceToNat, Int.reduceEq, Int.reduceLT, Int.reduceLE, Int.reduceNe, Int.reduceNeg , or_self, or_false, false_or , List.length_map, Bool.or_true, Bool.true_or, Bool.false_or, Bool.or_false, Int.cast_ofNat_Int, wa1, wa2]
        refine (c26 (max 0 (A.lo - 5)) (A.hi + 5)).callS rfl rfl rfl rfl rfl rfl ?_
        simp only [go_sem, Nat.reduceBEq, Nat.reduceEqDiff, Nat.reduceLT, Nat.reduceLeDiff, Nat.reduceAdd, Nat.reduceSub, Nat.reduceMul, reduceCtorEq, Int.reduceToNat, Int.reduceEq, Int.reduceLT, Int.reduceLE, Int.reduceNe, Int.reduceNeg , or_self, or_false, false_or , List.length_map, Bool.or_true, Bool.true_or, Bool.false_or, Bool.or_false, Int.cast_ofNat_Int, hlen, hle, hsz, htk, List.length_map, List.nil_append, Nat.zero_add, wb1, wb2, Sp.d]
        refine (c26 (max 0 (B.lo - 5)) (B.hi + 5)).callS rfl rfl rfl rfl rfl rfl ?_
        simp only [go_sem, Nat.reduceBEq, Nat.reduceEqDiff, Nat.reduceLT, Nat.reduceLeDiff, Nat.reduceAdd, Nat.reduceSub, Nat.reduceMul, reduceCtorEq, Int.reduceToNat, Int.reduceEq, Int.reduceLT, Int.reduceLE, Int.reduceNe, Int.reduceNeg , or_self, or_false, false_or , List.length_map, Bool.or_true, Bool.true_or, Bool.false_or, Bool.or_false, Int.cast_ofNat_Int, Sp.d]
        refine (c55 (wider A) (L.map usedS) (wider B) (by simp; omega)).callS rfl rfl rfl rfl rfl rfl ?_
        rw [k2]
        simp only [go_sem, Nat.reduceBEq, Nat.reduceEqDiff, Nat.reduceLT, Nat.reduceLeDiff, Nat.reduceAdd, Nat.reduceSub, Nat.reduceMul, reduceCtorEq, Int.reduceToNat, Int.reduceEq, Int.reduceLT, Int.reduceLE, Int.reduceNe, Int.reduceNeg , or_self, or_false, false_or , List.length_map, Bool.or_true, Bool.true_or, Bool.false_or, Bool.or_false, Int.cast_ofNat_Int, Sp.d]
        refine (c62 v.b s).call rfl rfl rfl ?_
        have d1 : (decide (v.b ≥ s.lo) && decide (v.b ≤ s.hi)) = true := by simp; omega
        have d2 : decide (0 ≤ s.lo) = true := by simp; omega
        have d3 : (decide (s.lo ≥ t.lo) && decide (s.hi ≤ t.hi) && decide (s.lo ≤ s.hi)) = true := by simp; omega
        rw [d1]
        simp only [go_sem, Nat.reduceBEq, Nat.reduceEqDiff, Nat.reduceLT, Nat.reduceLeDiff, Nat.reduceAdd, Nat.reduceSub, Nat.reduceMul, reduceCtorEq, Int.reduceToNat, Int.reduceEq, Int.reduceLT, Int.reduceLE, Int.reduceNe, Int.reduceNeg , or_self, or_false, false_or , List.length_map, Bool.or_true, Bool.true_or, Bool.false_or, Bool.or_false, Int.cast_ofNat_Int, Sp.d, d2]
        refine (c69 s t).call rfl rfl rfl ?_
        rw [d3]
        simp only [go_sem, Nat.reduceBEq, Nat.reduceEqDiff, Nat.reduceLT, Nat.reduceLeDiff, Nat.reduceAdd, Nat.reduceSub, Nat.reduceMul, reduceCtorEq, Int.reduceToNat, Int.reduceEq, Int.reduceLT, Int.reduceLE, Int.reduceNe, Int.reduceNeg , or_self, or_false, false_or , List.length_map, Bool.or_true, Bool.true_or, Bool.false_or, Bool.or_false, Int.cast_ofNat_Int, Sp.d, d2]
        refine c17.call rfl rfl rfl ?_
        simp only [go_sem, Nat.reduceBEq, Nat.reduceEqDiff, Nat.reduceLT, Nat.reduceLeDiff, Nat.reduceAdd, Nat.reduceSub, Nat.reduceMul, reduceCtorEq, Int.reduceToNat, Int.reduceEq, Int.reduceLT, Int.reduceLE, Int.reduceNe, Int.reduceNeg , or_self, or_false, false_or , List.length_map, Bool.or_true, Bool.true_or, Bool.false_or, Bool.or_false, Int.cast_ofNat_Int, Sp.d, d2]
  · 
    have hL : ∀ x ∈ used.take i, x.Ok := fun x hx => hu x (List.mem_of_mem_take hx)
    generalize used.take i = L at hub hlen hL
    have htk : ((L.map usedS).map Sp.d).take i = (L.map usedS).map Sp.d := List.take_of_length_le (by simp [hlen])
    have hsz := sized_sps (L.map usedS)
    have hle : i ≤ 4294967296 := by omega
    obtain ⟨s, t, k1, k2, k3, k4, k5, k6, k7⟩ := missed_law hL (by omega) hv0
    have b1 := hv1
    have b2 := hv2
    have b3 := hv3
    have b4 := hv4
    simp only [Byte] at b1 b2 b3 b4
    refine ADrw.treeG (fun k => k == 18) tt_ok (by kernel_rfl) (fun k => if k = 1 ∨ k = 4 then some .L else some .S) (.ones [0, 1, 2, 3, 4, 5, 6, 7] .done) (by simp) (fun _ h => nomatch h) rfl rfl (by kernel_rfl) ?_
    have w1 : IntKind.i64.wrap (sumA L + v.a) = sumA L + v.a := w64 (by omega) (by omega)
    have w2 : IntKind.i64.wrap (sumA L + v.a + v.b) = sumA L + v.a + v.b := w64 (by omega) (by omega)
    simp only [go_sem, Nat.reduceBEq, Nat.reduceEqDiff, Nat.reduceLT, Nat.reduceLeDiff, Nat.reduceAdd, Nat.reduceSub, Nat.reduceMul, reduceCtorEq, Int.reduceToNat, Int.reduceEq, Int.reduceLT, Int.reduceLE, Int.reduceNe, Int.reduceNeg , or_self, or_false, false_or , List.length_map, Bool.or_true, Bool.true_or, Bool.false_or, Bool.or_false, Int.cast_ofNat_Int, ea, eb, w1, w2]
    generalize hful : sumA L + v.a + v.b = full at k1 k2
    have hf : 0 ≤ full ∧ full ≤ 4000 := by omega
    have w3 : IntKind.i64.wrap (full - v.c % 30) = full - v.c % 30 := w64 (by omega) (by omega)
    have w4 : IntKind.i64.wrap (full + v.c / 30) = full + v.c / 30 := w64 (by omega) (by omega)
    have w5 : IntKind.i64.wrap (v.a - v.e % 16) = v.a - v.e % 16 := w64 (by omega) (by omega)
    have w6 : IntKind.i64.wrap (v.a + v.e / 16) = v.a + v.e / 16 := w64 (by omega) (by omega)
    have q1 : IntKind.i64.wrap (v.c / 30) = v.c / 30 := w64 (by omega) (by omega)
    have q2 : IntKind.i64.wrap (v.e / 16) = v.e / 16 := w64 (by omega) (by omega)
    refine ADrw.treeG (fun k => k == 18) tt_ok (by kernel_rfl) (fun k => if k = 2 ∨ k = 9 ∨ k = 16 ∨ k = 23 then some .L else if k = 30 ∨ k = 31 then some .W else if k = 28 ∨ k = 29 then some .A else some .S) (.ones [0, 1, 2, 3, 4, 5, 6, 7, 8, 9, 10, 11, 12, 13, 14, 15, 16, 17, 18, 19, 20, 21, 22, 23, 24, 25, 26, 27] (.two 28 (.ones [29, 30, 31] .done) 29 (.ones [28, 30, 31] .done))) (by simp) (fun _ h => nomatch h) rfl rfl (by kernel_rfl) ?_
    simp only [go_sem, Nat.reduceBEq, Nat.reduceEqDiff, Nat.reduceLT, Nat.reduceLeDiff, Nat.reduceAdd, Nat.reduceSub, Nat.reduceMul, reduceCtorEq, Int.reduceToNat, Int.reduceEq, Int.reduceLT, Int.reduceLE, Int.reduceNe, Int.reduceNeg , or_self, or_false, false_or , List.length_map, Bool.or_true, Bool.true_or, Bool.false_or, Bool.or_false, Int.cast_ofNat_Int, ec, ee, mc, me, qc, qe, q1, q2, w3, w4, w5, w6, remO_ne z30, remO_ne z16, quoO_ne z30, quoO_ne z16]
    have cA : PC prog 26 [.d (.int .i64 (max 0 (full - v.c % 30))), .d (.int .i64 (full + v.c / 30))] (.d (aS full v.c).d) := c26 _ _
    have cB : PC prog 26 [.d (.int .i64 (max 0 (v.a - v.e % 16))), .d (.int .i64 (v.a + v.e / 16))] (.d (bS v.a v.e).d) := c26 _ _
    refine cA.callS rfl rfl rfl rfl rfl rfl ?_
    simp only [go_sem, Nat.reduceBEq, Nat.reduceEqDiff, Nat.reduceLT, Nat.reduceLeDiff, Nat.reduceAdd, Nat.reduceSub, Nat.reduceMul, reduceCtorEq, Int.reduceToNat, Int.reduceEq, Int.reduceLT, Int.reduceLE, Int.reduceNe, Int.reduceNeg , or_self, or_false, false_or , List.length_map, Bool.or_true, Bool.true_or, Bool.false_or, Bool.or_false, Int.cast_ofNat_Int, ec, ee, mc, me, qc, qe, q1, q2, w3, w4, w5, w6, remO_ne z30, remO_ne z16, quoO_ne z30, quoO_ne z16, Sp.d]
    refine cB.callS rfl rfl rfl rfl rfl rfl ?_
    have wa1 : IntKind.i64.wrap ((aS full v.c).lo - 5) = (aS full v.c).lo - 5 := w64 (by simp only [aS]; omega) (by simp only [aS]; omega)
    have wa2 : IntKind.i64.wrap ((aS full v.c).hi + 5) = (aS full v.c).hi + 5 := w64 (by simp only [aS]; omega) (by simp only [aS]; omega)
    have wb1 : IntKind.i64.wrap ((bS v.a v.e).lo - 5) = (bS v.a v.e).lo - 5 := w64 (by simp only [bS]; omega) (by simp only [bS]; omega)
    have wb2 : IntKind.i64.wrap ((bS v.a v.e).hi + 5) = (bS v.a v.e).hi + 5 := w64 (by simp only [bS]; omega) (by simp only [bS]; omega)
    generalize aS full v.c = A at k1 k2 wa1 wa2
    generalize bS v.a v.e = B at k1 k2 wb1 wb2
    simp only [go_sem, Nat.reduceBEq, Nat.reduceEqDiff, Nat.reduceLT, Nat.reduceLeDiff, Nat.reduceAdd, Nat.reduceSub, Nat.reduceMul, reduceCtorEq, Int.reduceToNat, Int.reduceEq, Int.reduceLT, Int.reduceLE, Int.reduceNe, Int.reduceNeg , or_self, or_false, false_or , List.length_map, Bool.or_true, Bool.true_or, Bool.false_or, Bool.or_false, Int.cast_ofNat_Int, Sp.d]
    refine ⟨?_, ?_⟩
    all_goals
      refine ADrw.treeG (fun k => k == 18) tt_ok (by kernel_rfl) (fun k => if k = 0 ∨ k = 3 ∨ k = 4 then some .L else if k = 10 then some .W else if k = 9 then some .A else some .S) (.ones [0, 1, 2, 3, 4, 5, 6, 7, 8, 9, 10, 11] .done) (Nat.zero_le _) (fun _ h => nomatch h) rfl rfl (by kernel_rfl) ?_
      simp only [go_sem, Nat.reduceBEq, Nat.reduceEqDiff, Nat.reduceLT, Nat.reduceLeDiff, Nat.reduceAdd, Nat.reduceSub, Nat.reduceMul, reduceCtorEq, Int.reduceToNat, Int.reduceEq, Int.reduceLT, Int.reduceLE, Int.reduceNe, Int.reduceNeg , or_self, or_false, false_or , List.length_map, Bool.or_true, Bool.true_or, Bool.false_or, Bool.or_false, Int.cast_ofNat_Int, hlen, hle, hsz, htk, List.length_map, List.nil_append, Nat.zero_add]
      refine (c55 A (L.map usedS) B (by simp; omega)).callS rfl rfl rfl rfl rfl rfl ?_
      rw [k1]
      simp only [go_sem, Nat.reduceBEq, Nat.reduceEqDiff, Nat.reduceLT, Nat.reduceLeDiff, Nat.reduceAdd, Nat.reduceSub, Nat.reduceMul, reduceCtorEq, Int.reduceToNat, Int.reduceEq, Int.reduceLT, Int.reduceLE, Int.reduceNe, Int.reduceNeg , or_self, or_false, false_or , List.length_map, Bool.or_true, Bool.true_or, Bool.false_or, Bool.or_false, Int.cast_ofNat_Int, Sp.d]
      refine ADrw.treeG (fun k => k == 18) tt_ok (by kernel_rfl) (fun k => if k = 1 ∨ k = 5 ∨ k = 10 ∨ k = 12 ∨ k = 16 then some .L else if k = 24 then some .W else if k = 23 then some .A else some .S) (.ones [0, 1, 2, 3, 4, 5, 6, 7, 8, 9, 10, 11, 12, 13, 14, 15, 16, 17, 18, 19, 20, 21, 22, 23, 24, 25] .done) (Nat.zero_le _) (fun _ h => nomatch h) rfl rfl (by kernel_rfl) ?_
      simp only [go_sem, Nat.reduceBEq, Nat.reduceEqDiff, Nat.reduceLT, Nat.reduceLeDiff, Nat.reduceAdd, Nat.reduceSub, Nat.reduceMul, reduceCtorEq, Int.reduceToNat, Int.reduceEq, Int.reduceLT, Int.reduceLE, Int.reduceNe, Int.reduceNeg , or_self, or_false, false_or , List.length_map, Bool.or_true, Bool.true_or, Bool.false_or, Bool.or_false, Int.cast_ofNat_Int, wa1, wa2]
      refine (c26 (max 0 (A.lo - 5)) (A.hi + 5)).callS rfl rfl rfl rfl rfl rfl ?_
      simp only [go_sem, Nat.reduceBEq, Nat.reduceEqDiff, Nat.reduceLT, Nat.reduceLeDiff, Nat.reduceAdd, Nat.reduceSub, Nat.reduceMul, reduceCtorEq, Int.reduceToNat, Int.reduceEq, Int.reduceLT, Int.reduceLE, Int.reduceNe, Int.reduceNeg , or_self, or_false, false_or , List.length_map, Bool.or_true, Bool.true_or, Bool.false_or, Bool.or_false, Int.cast_ofNat_Int, hlen, hle, hsz, htk, List.length_map, List.nil_append, Nat.zero_add, wb1, wb2, Sp.d]
      refine (c26 (max 0 (B.lo - 5)) (B.hi + 5)).callS rfl rfl rfl rfl rfl rfl ?_
      simp only [go_sem, Nat.reduceBEq, Nat.reduceEqDiff, Nat.reduceLT, Nat.reduceLeDiff, Nat.reduceAdd, Nat.reduceSub, Nat.reduceMul, reduceCtorEq, Int.reduceToNat, Int.reduceEq, Int.reduceLT, Int.reduceLE, Int.reduceNe, Int.reduceNeg , or_self, or_false, false_or , List.length_map, Bool.or_true, Bool.true_or, Bool.false_or, Bool.or_false, Int.cast_ofNat_Int, Sp.d]
      refine (c55 (wider A) (L.map usedS) (wider B) (by simp; omega)).callS rfl rfl rfl rfl rfl rfl ?_
      rw [k2]
      simp only [go_sem, Nat.reduceBEq, Nat.reduceEqDiff, Nat.reduceLT, Nat.reduceLeDiff, Nat.reduceAdd, Nat.reduceSub, Nat.reduceMul, reduceCtorEq, Int.reduceToNat, Int.reduceEq, Int.reduceLT, Int.reduceLE, Int.reduceNe, Int.reduceNeg , or_self, or_false, false_or , List.length_map, Bool.or_true, Bool.true_or, Bool.false_or, Bool.or_false, Int.cast_ofNat_Int, Sp.d]
      refine (c62 v.b s).call rfl rfl rfl ?_
      have d1 : (decide (v.b ≥ s.lo) && decide (v.b ≤ s.hi)) = true := by simp; omega
      have d2 : decide (0 ≤ s.lo) = true := by simp; omega
      have d3 : (decide (s.lo ≥ t.lo) && decide (s.hi ≤ t.hi) && decide (s.lo ≤ s.hi)) = true := by simp; omega
      rw [d1]
      simp only [go_sem, Nat.reduceBEq, Nat.reduceEqDiff, Nat.reduceLT, Nat.reduceLeDiff, Nat.reduceAdd, Nat.reduceSub, Nat.reduceMul, reduceCtorEq, Int.reduceToNat, Int.reduceEq, Int.reduceLT, Int.reduceLE, Int.reduceNe, Int.reduceNeg , or_self, or_false, false_or , List.length_map, Bool.or_true, Bool.true_or, Bool.false_or, Bool.or_false, Int.cast_ofNat_Int, Sp.d, d2]
      refine (c69 s t).call rfl rfl rfl ?_
      rw [d3]
      simp only [go_sem, Nat.reduceBEq, Nat.reduceEqDiff, Nat.reduceLT, Nat.reduceLeDiff, Nat.reduceAdd, Nat.reduceSub, Nat.reduceMul, reduceCtorEq, Int.reduceToNat, Int.reduceEq, Int.reduceLT, Int.reduceLE, Int.reduceNe, Int.reduceNeg , or_self, or_false, false_or , List.length_map, Bool.or_true, Bool.true_or, Bool.false_or, Bool.or_false, Int.cast_ofNat_Int, Sp.d, d2]
      refine c17.call rfl rfl rfl ?_
      simp only [go_sem, Nat.reduceBEq, Nat.reduceEqDiff, Nat.reduceLT, Nat.reduceLeDiff, Nat.reduceAdd, Nat.reduceSub, Nat.reduceMul, reduceCtorEq, Int.reduceToNat, Int.reduceEq, Int.reduceLT, Int.reduceLE, Int.reduceNe, Int.reduceNeg , or_self, or_false, false_or , List.length_map, Bool.or_true, Bool.true_or, Bool.false_or, Bool.or_false, Int.cast_ofNat_Int, Sp.d, d2]
end Go.Aw
end

section
set_option maxRecDepth 100000
namespace Go.Aw
open Go Go.Proofs

theorem has_u8 {f : Nat} {y : D} (h : HasT Try.prog (f + 1) 5 y) : ∃ n, y = .int .u8 n ∧ Byte n := by
  unfold HasT at h
  rw [Try.underlying5] at h
  obtain ⟨n, rfl, h⟩ := h
  refine ⟨n, rfl, ?_⟩
  simp [Lit.wf, IntKind.min, IntKind.max, IntKind.bits, IntKind.signed] at h
  simp only [Byte]; omega

theorem has_b3 {f : Nat} {y : D} (h : HasT Try.prog (f + 3) 97 y) : ∃ s : B3, y = s.d ∧ s.Ok := by
  unfold HasT at h
  rw [Try.underlying97] at h
  obtain ⟨l, rfl, h⟩ := h
  simp only [HasN] at h
  obtain ⟨y1, r1, rfl, h1, y2, r2, rfl, h2, y3, r3, rfl, h3, rfl⟩ := h
  obtain ⟨n1, rfl, b1⟩ := has_u8 h1
  obtain ⟨n2, rfl, b2⟩ := has_u8 h2
  obtain ⟨n3, rfl, b3⟩ := has_u8 h3
  exact ⟨⟨n1, n2, n3⟩, rfl, ⟨b1, b2, b3⟩⟩

theorem has_b3s {f : Nat} {y : D} (h : HasT Try.prog (f + 4) 124 y) : ∃ l : List B3, y = .sl (l.map B3.d) ∧ ∀ p ∈ l, p.Ok := by
  unfold HasT at h
  rw [Try.underlying124] at h
  obtain ⟨l, rfl, _, hl⟩ := h
  obtain ⟨ss, rfl⟩ := has_list (enc := fun n : {n : B3 // n.Ok} => n.1.d) (fun y hy => by obtain ⟨n, rfl, hn⟩ := has_b3 hy; exact ⟨⟨n, hn⟩, rfl⟩) l hl
  refine ⟨ss.map Subtype.val, by simp, fun n hn => ?_⟩
  obtain ⟨x, _, rfl⟩ := List.mem_map.1 hn
  exact x.2

theorem has_b4 {f : Nat} {y : D} (h : HasT Try.prog (f + 3) 114 y) : ∃ s : B4, y = s.d ∧ s.Ok := by
  unfold HasT at h
  rw [Try.underlying114] at h
  obtain ⟨l, rfl, h⟩ := h
  simp only [HasN] at h
  obtain ⟨y1, r1, rfl, h1, y2, r2, rfl, h2, y3, r3, rfl, h3, y4, r4, rfl, h4, rfl⟩ := h
  obtain ⟨n1, rfl, b1⟩ := has_u8 h1
  obtain ⟨n2, rfl, b2⟩ := has_u8 h2
  obtain ⟨n3, rfl, b3⟩ := has_u8 h3
  obtain ⟨n4, rfl, b4⟩ := has_u8 h4
  exact ⟨⟨n1, n2, n3, n4⟩, rfl, ⟨b1, b2, b3, b4⟩⟩
end Go.Aw
end
