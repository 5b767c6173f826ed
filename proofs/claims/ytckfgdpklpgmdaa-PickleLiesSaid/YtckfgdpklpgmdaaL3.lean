/- The law of the strengths. Arguments of the program's types. The reference: how plates come out. The reference: all ways in which a plate comes out. The law of the ways. The reference: for how long a plate may lie; the law of it. The law of the hours. Bytes as arguments; the law of what is missing, without the reference. Bytes as arguments of the law. A bath of bytes, with a truth. Steps of bytes; how plates truly come out. Steps of bytes. The law of all truths. Vats and pairs of bytes as arguments. How long it lies, without the reference. The law of the hours, without the reference. -/
import Derived.Test.YtckfgdpklpgmdaaL2
set_option linter.unusedSimpArgs false
set_option linter.unusedVariables false

section
set_option maxRecDepth 100000
namespace Go.Aw
open Go Go.Proofs.Try

theorem fellF_nn {b : Bath} (hok : b.Ok) : ∀ l : List Int, 0 ≤ fellF b l
  | [] => by simp [fellF]
  | p :: r => by
    have hp := hok.pl p
    simp only [Plate.Ok] at hp
    have := fellF_nn hok r
    simp only [fellF, List.map_cons, List.sum_cons] at this ⊢
    omega

/-- Plate by plate, or all at once. -/
theorem weak_aft {b : Bath} (hok : b.Ok) : ∀ (l : List Int) (s : Int), 0 ≤ s → weakF b l s = aft (fellF b l) s
  | [], s, hs => by simp [weakF, fellF, aft]; omega
  | p :: r, s, hs => by
    have hp := hok.pl p
    simp only [Plate.Ok] at hp
    have hn := fellF_nn hok r
    have h1 : weakF b (p :: r) s = weakF b r (max 0 (s - (b.pl p).takes)) := rfl
    have h2 : fellF b (p :: r) = (b.pl p).takes + fellF b r := by simp [fellF]
    rw [h1, weak_aft hok r _ (by omega), h2]
    simp only [aft]
    omega

theorem ones_len (l : List Int) : (ones l).length = l.length := by simp [ones]

theorem c3 (b : Bath) (l : List Int) : PC prog 3 [.d b.d, .d (.sl (l.map (.int .i64)))] (.d (.bool true)) := by
  refine PC.run (fun k => k == 54) tt_ok (fn := f3) (rs := [.tmp 4]) rfl rfl rfl rfl rfl rfl rfl ?_
  simp only [go_sem, Nat.reduceBEq, Nat.reduceEqDiff, Nat.reduceLT, Nat.reduceLeDiff, Nat.reduceAdd, Nat.reduceSub, Nat.reduceMul, reduceCtorEq, Int.reduceToNat, Int.reduceEq, Int.reduceLT, Int.reduceLE, Int.reduceNe, Int.reduceNeg, Bath.d]
  refine Br_split (fun h1 => ?_) (fun h1 => ?_) <;> simp only [go_sem, Nat.reduceBEq, Nat.reduceEqDiff, Nat.reduceLT, Nat.reduceLeDiff, Nat.reduceAdd, Nat.reduceSub, Nat.reduceMul, reduceCtorEq, Int.reduceToNat, Int.reduceEq, Int.reduceLT, Int.reduceLE, Int.reduceNe, Int.reduceNeg, h1]
  · refine c17.call rfl rfl rfl ?_
    simp only [go_sem, Nat.reduceBEq, Nat.reduceEqDiff, Nat.reduceLT, Nat.reduceLeDiff, Nat.reduceAdd, Nat.reduceSub, Nat.reduceMul, reduceCtorEq, Int.reduceToNat, Int.reduceEq, Int.reduceLT, Int.reduceLE, Int.reduceNe, Int.reduceNeg, h1]
  refine Br_split (fun h2 => ?_) (fun h2 => ?_) <;> simp only [go_sem, Nat.reduceBEq, Nat.reduceEqDiff, Nat.reduceLT, Nat.reduceLeDiff, Nat.reduceAdd, Nat.reduceSub, Nat.reduceMul, reduceCtorEq, Int.reduceToNat, Int.reduceEq, Int.reduceLT, Int.reduceLE, Int.reduceNe, Int.reduceNeg, h1, h2]
  · refine c17.call rfl rfl rfl ?_
    simp only [go_sem, Nat.reduceBEq, Nat.reduceEqDiff, Nat.reduceLT, Nat.reduceLeDiff, Nat.reduceAdd, Nat.reduceSub, Nat.reduceMul, reduceCtorEq, Int.reduceToNat, Int.reduceEq, Int.reduceLT, Int.reduceLE, Int.reduceNe, Int.reduceNeg, h1, h2]
  have hb : b.plates.length ≤ 20 := by simp only [decide_eq_false_iff_not] at h1; omega
  have hl : l.length ≤ 20 := by simp only [decide_eq_false_iff_not] at h2; omega
  refine (c18 b (by omega)).call rfl rfl rfl ?_
  have hle : l.length ≤ 4294967296 := by omega
  have hsz : sized 1 (l.map (D.int .i64)) = true := by simp [sized, dcells]
  simp only [go_sem, Nat.reduceBEq, Nat.reduceEqDiff, Nat.reduceLT, Nat.reduceLeDiff, Nat.reduceAdd, Nat.reduceSub, Nat.reduceMul, reduceCtorEq, Int.reduceToNat, Int.reduceEq, Int.reduceLT, Int.reduceLE, Int.reduceNe, Int.reduceNeg, h1, h2, Bath.d, hle, hsz, List.length_map, List.nil_append, Nat.zero_add]
  refine (c19 b (by omega)).call rfl rfl rfl ?_
  simp only [go_sem, Nat.reduceBEq, Nat.reduceEqDiff, Nat.reduceLT, Nat.reduceLeDiff, Nat.reduceAdd, Nat.reduceSub, Nat.reduceMul, reduceCtorEq, Int.reduceToNat, Int.reduceEq, Int.reduceLT, Int.reduceLE, Int.reduceNe, Int.reduceNeg, h1, h2]
  refine (c20 b l (by omega) (by omega)).call rfl rfl rfl ?_
  simp only [go_sem, Nat.reduceBEq, Nat.reduceEqDiff, Nat.reduceLT, Nat.reduceLeDiff, Nat.reduceAdd, Nat.reduceSub, Nat.reduceMul, reduceCtorEq, Int.reduceToNat, Int.reduceEq, Int.reduceLT, Int.reduceLE, Int.reduceNe, Int.reduceNeg, h1, h2]
  refine (c21 b (by omega)).call rfl rfl rfl ?_
  simp only [go_sem, Nat.reduceBEq, Nat.reduceEqDiff, Nat.reduceLT, Nat.reduceLeDiff, Nat.reduceAdd, Nat.reduceSub, Nat.reduceMul, reduceCtorEq, Int.reduceToNat, Int.reduceEq, Int.reduceLT, Int.reduceLE, Int.reduceNe, Int.reduceNeg, h1, h2]
  refine (c22 b b (by omega) (by omega)).call rfl rfl rfl ?_
  have hd0 : ∀ {α : Type} [DecidableEq α] (l : α), decide (l = l) = true := fun l => by simp
  simp only [go_sem, Nat.reduceBEq, Nat.reduceEqDiff, Nat.reduceLT, Nat.reduceLeDiff, Nat.reduceAdd, Nat.reduceSub, Nat.reduceMul, reduceCtorEq, Int.reduceToNat, Int.reduceEq, Int.reduceLT, Int.reduceLE, Int.reduceNe, Int.reduceNeg, h1, h2, hd0]
  refine (c23 l l (by omega) (by omega)).call rfl rfl rfl ?_
  simp only [go_sem, Nat.reduceBEq, Nat.reduceEqDiff, Nat.reduceLT, Nat.reduceLeDiff, Nat.reduceAdd, Nat.reduceSub, Nat.reduceMul, reduceCtorEq, Int.reduceToNat, Int.reduceEq, Int.reduceLT, Int.reduceLE, Int.reduceNe, Int.reduceNeg, h1, h2, hd0]
  refine ALoop.by (S := Nat) (fun i => [(12, .d (.int .i64 i)), (11, .ref 2 i 0 i), (10, .d (.int .i64 (checkP b))), (9, .d (.int .i64 (strengthsP b l).2)), (8, .d (.sl ((strengthsP b l).1.map Sp.d))), (2, .ptr 0 0), (1, .d (.sl (l.map (.int .i64))))])
    (fun i => [.cells [.d (.int .i64 b.str.lo), .d (.int .i64 b.str.hi), .d (.sl (b.plates.map Plate.d))], .cells [.d (.int .i64 b.str.lo), .d (.int .i64 b.str.hi), .d (.sl (b.plates.map Plate.d))], .arr 2 false ((ones (l.take i)).map Step.d)]) (fun i => l.length - i) (fun i => i ≤ l.length) 0 (by simp) (fun _ h => nomatch h) (Nat.zero_le _) ?_ ?_
  · exact ForgetTo.same' (by simp) (by simp [EWe, Env.look]) (by simp [ones])
  rintro i hi hn
  refine AWP.run (fun k => k == 54) tt_ok (fun _ h => nomatch h) (by simp) rfl ?_
  simp only [go_sem, Nat.reduceBEq, Nat.reduceEqDiff, Nat.reduceLT, Nat.reduceLeDiff, Nat.reduceAdd, Nat.reduceSub, Nat.reduceMul, reduceCtorEq, Int.reduceToNat, Int.reduceEq, Int.reduceLT, Int.reduceLE, Int.reduceNe, Int.reduceNeg]
  refine Br_split (fun hd => ?_) (fun hd => ?_) <;> simp only [go_sem, Nat.reduceBEq, Nat.reduceEqDiff, Nat.reduceLT, Nat.reduceLeDiff, Nat.reduceAdd, Nat.reduceSub, Nat.reduceMul, reduceCtorEq, Int.reduceToNat, Int.reduceEq, Int.reduceLT, Int.reduceLE, Int.reduceNe, Int.reduceNeg, hd]
  · have hlt : i < l.length := by simpa using hd
    have hix : idx? (l.map (D.int .i64)) (i : Int) = some (.int .i64 l[i]) := by simp [idx?, List.getElem?_eq_getElem hlt]
    have hst : (ones (l.take (i + 1))).map Step.d = (ones (l.take i)).map Step.d ++ [(Step.mk l[i] 1).d] := by
      rw [List.take_add_one, List.getElem?_eq_getElem hlt]; simp only [ones, List.map_append, Option.toList_some, List.map_cons, List.map_nil]
    have hln : ((ones (l.take i)).map Step.d).length = i := by simp [ones]; omega
    have hln2 : (ones (l.take i)).length = i := by simp [ones]; omega
    have hi1 : i + 1 ≤ 4294967296 := by omega
    have hi95 : i ≤ 4294967295 := by omega
    generalize l[i] = x at hix hst
    simp only [go_sem, Nat.reduceBEq, Nat.reduceEqDiff, Nat.reduceLT, Nat.reduceLeDiff, Nat.reduceAdd, Nat.reduceSub, Nat.reduceMul, reduceCtorEq, Int.reduceToNat, Int.reduceEq, Int.reduceLT, Int.reduceLE, Int.reduceNe, Int.reduceNeg, hix]
    refine (c24 x 1).call rfl rfl rfl ?_
    simp only [go_sem, Nat.reduceBEq, Nat.reduceEqDiff, Nat.reduceLT, Nat.reduceLeDiff, Nat.reduceAdd, Nat.reduceSub, Nat.reduceMul, reduceCtorEq, Int.reduceToNat, Int.reduceEq, Int.reduceLT, Int.reduceLE, Int.reduceNe, Int.reduceNeg, hln, hln2, hi1, hi95, Step.d]
    refine ⟨i + 1, hlt, by omega, ?_⟩
    exact ForgetTo.same' (by simp) (by simp [EWe, Env.look, w64 (n := (i : Int) + 1) (by omega) (by omega)]) (by rw [hst]; rfl)
  have hie : i = l.length := by simp at hd; omega
  subst hie
  rw [List.take_length]
  have htk : ((ones l).map Step.d).take l.length = (ones l).map Step.d := List.take_of_length_le (by simp [ones])
  have hon := ones_len l
  refine Br_split (fun h0 => ?_) (fun h0 => ?_) <;> simp only [go_sem, Nat.reduceBEq, Nat.reduceEqDiff, Nat.reduceLT, Nat.reduceLeDiff, Nat.reduceAdd, Nat.reduceSub, Nat.reduceMul, reduceCtorEq, Int.reduceToNat, Int.reduceEq, Int.reduceLT, Int.reduceLE, Int.reduceNe, Int.reduceNeg, h0]
  · have hc0 : checkP b = 0 := by simpa using h0
    have hok := checkP_iff.1 hc0
    have hok' := hok
    obtain ⟨s1, s2, s3, _, _⟩ := hok'
    refine (c25 b (ones l) (by omega) (by simp [ones]; omega)).callL rfl (by simp [pubVs, pubV, dz, Bath.d, htk, hon]) rfl ?_
    simp only [go_sem, Nat.reduceBEq, Nat.reduceEqDiff, Nat.reduceLT, Nat.reduceLeDiff, Nat.reduceAdd, Nat.reduceSub, Nat.reduceMul, reduceCtorEq, Int.reduceToNat, Int.reduceEq, Int.reduceLT, Int.reduceLE, Int.reduceNe, Int.reduceNeg, h0]
    refine Br_split (fun h3 => ?_) (fun h3 => ?_) <;> simp only [go_sem, Nat.reduceBEq, Nat.reduceEqDiff, Nat.reduceLT, Nat.reduceLeDiff, Nat.reduceAdd, Nat.reduceSub, Nat.reduceMul, reduceCtorEq, Int.reduceToNat, Int.reduceEq, Int.reduceLT, Int.reduceLE, Int.reduceNe, Int.reduceNeg, h0, h3]
    · have h3' : ¬ stepsOk b.plates.length 0 (ones l) = true := by simpa using h3
      have hsp : strengthsP b l = ([], 4) := by simp [strengthsP, hc0, h3']
      simp only [go_sem, Nat.reduceBEq, Nat.reduceEqDiff, Nat.reduceLT, Nat.reduceLeDiff, Nat.reduceAdd, Nat.reduceSub, Nat.reduceMul, reduceCtorEq, Int.reduceToNat, Int.reduceEq, Int.reduceLT, Int.reduceLE, Int.reduceNe, Int.reduceNeg, h0, h3, hsp, List.map_nil, List.length_nil]
      refine c17.call rfl rfl rfl ?_
      simp only [go_sem, Nat.reduceBEq, Nat.reduceEqDiff, Nat.reduceLT, Nat.reduceLeDiff, Nat.reduceAdd, Nat.reduceSub, Nat.reduceMul, reduceCtorEq, Int.reduceToNat, Int.reduceEq, Int.reduceLT, Int.reduceLE, Int.reduceNe, Int.reduceNeg, h0, h3, hsp]
    · have h3' : stepsOk b.plates.length 0 (ones l) = true := by simpa using h3
      have hsp : strengthsP b l = (strengthsL b l (l.length + 1), 0) := by simp [strengthsP, hc0, h3']
      have hmem : ∀ p ∈ l, 0 ≤ p ∧ p < b.plates.length := fun p hp => (stepsOk_mem h3' ⟨p, 1⟩ (List.mem_map.2 ⟨p, hp, rfl⟩)).1
      simp only [go_sem, Nat.reduceBEq, Nat.reduceEqDiff, Nat.reduceLT, Nat.reduceLeDiff, Nat.reduceAdd, Nat.reduceSub, Nat.reduceMul, reduceCtorEq, Int.reduceToNat, Int.reduceEq, Int.reduceLT, Int.reduceLE, Int.reduceNe, Int.reduceNeg, h0, h3, hc0, hsp, strengthsL_len]
      have hw : IntKind.i64.wrap ((l.length : Int) + 1) = ((l.length + 1 : Nat) : Int) := by rw [w64 (by omega) (by omega)]; omega
      rw [hw]
      simp only [go_sem, Nat.reduceBEq, Nat.reduceEqDiff, Nat.reduceLT, Nat.reduceLeDiff, Nat.reduceAdd, Nat.reduceSub, Nat.reduceMul, reduceCtorEq, Int.reduceToNat, Int.reduceEq, Int.reduceLT, Int.reduceLE, Int.reduceNe, Int.reduceNeg, hd0]
      refine ALoop.by (S := Nat) (fun i => [(13, .d (.int .i64 i)), (8, .d (.sl ((strengthsL b l (l.length + 1)).map Sp.d))), (2, .ptr 0 0), (1, .d (.sl (l.map (.int .i64))))])
        (fun i => [.cells [.d (.int .i64 b.str.lo), .d (.int .i64 b.str.hi), .d (.sl (b.plates.map Plate.d))]]) (fun i => l.length + 1 - i) (fun i => i ≤ l.length + 1) 0 (by simp) (fun _ h => nomatch h) (Nat.zero_le _) ?_ ?_
      · refine ForgetTo.drop (H0 := [_]) (Y := [_, _]) (Nat.zero_le _) rfl (by simp [BBs, BB, VBs, VB]) ?_
        simp [EWp, Env.look, pubV]
      rintro i hi2 hn2
      refine AWP.run (fun k => k == 54) tt_ok (fun _ h => nomatch h) (by simp) rfl ?_
      simp only [go_sem, Nat.reduceBEq, Nat.reduceEqDiff, Nat.reduceLT, Nat.reduceLeDiff, Nat.reduceAdd, Nat.reduceSub, Nat.reduceMul, reduceCtorEq, Int.reduceToNat, Int.reduceEq, Int.reduceLT, Int.reduceLE, Int.reduceNe, Int.reduceNeg]
      refine Br_split (fun he => ?_) (fun he => ?_) <;> simp only [go_sem, Nat.reduceBEq, Nat.reduceEqDiff, Nat.reduceLT, Nat.reduceLeDiff, Nat.reduceAdd, Nat.reduceSub, Nat.reduceMul, reduceCtorEq, Int.reduceToNat, Int.reduceEq, Int.reduceLT, Int.reduceLE, Int.reduceNe, Int.reduceNeg, he]
      · have hle2 : i ≤ l.length := by simp only [decide_eq_true_eq] at he; omega
        have hix : idx? ((strengthsL b l (l.length + 1)).map Sp.d) (i : Int) = some (aftS (fellF b (l.take i)) b.str).d := by
          rw [idx_nat, List.getElem?_map, strengthsL, List.getElem?_map, List.getElem?_range (by omega)]; rfl
        have hw1 := weak_aft hok (l.take i) b.str.lo (by omega)
        have hw2 := weak_aft hok (l.take i) b.str.hi (by omega)
        have hmt : ∀ p ∈ l.take i, 0 ≤ p ∧ p < b.plates.length := fun p hp => hmem p (List.mem_of_mem_take hp)
        have c1 : (0 : Int) ≤ (i : Int) := by omega
        have c2 : (i : Int) ≤ (l.length : Int) := by omega
        refine ADrw.treeG (fun k => k == 54) tt_ok (by kernel_rfl) (fun k => if k = 4 ∨ k = 10 ∨ k = 12 ∨ k = 18 then some .L else some .S) (.ones [0, 1, 2, 3, 4, 5, 6, 7, 8, 9, 10, 11, 12, 13, 14, 15, 16, 17, 18, 19, 20, 21] .done) (by simp) (fun _ h => nomatch h) rfl rfl (by kernel_rfl) ?_
        have hsz1 := hsz
        have hlen1 : (l.map (D.int .i64)).length = l.length := by simp
        have c0 : 0 ≤ i := Nat.zero_le _
        simp only [go_sem, Nat.reduceBEq, Nat.reduceEqDiff, Nat.reduceLT, Nat.reduceLeDiff, Nat.reduceAdd, Nat.reduceSub, Nat.reduceMul, reduceCtorEq, Int.reduceToNat, Int.reduceEq, Int.reduceLT, Int.reduceLE, Int.reduceNe, Int.reduceNeg, hix, Sp.d, c1, c0, hle2, Int.toNat_natCast, hsz1, hlen1, if_true, Nat.zero_le, true_and, and_self, and_true, List.drop_zero]
        refine (c27 hok (l.take i) b.str.lo (by simp; omega) (by omega) hmt).callS (by simp [Bath.d, dz, List.map_take]) rfl rfl rfl rfl rfl ?_
        rw [hw1]
        simp only [go_sem, Nat.reduceBEq, Nat.reduceEqDiff, Nat.reduceLT, Nat.reduceLeDiff, Nat.reduceAdd, Nat.reduceSub, Nat.reduceMul, reduceCtorEq, Int.reduceToNat, Int.reduceEq, Int.reduceLT, Int.reduceLE, Int.reduceNe, Int.reduceNeg, hix, Sp.d, c1, c0, hle2, Int.toNat_natCast, hsz1, hlen1, if_true, Nat.zero_le, true_and, and_self, and_true, List.drop_zero]
        refine (c27 hok (l.take i) b.str.hi (by simp; omega) (by omega) hmt).callS (by simp [Bath.d, dz, List.map_take]) rfl rfl rfl rfl rfl ?_
        rw [hw2]
        simp only [go_sem, Nat.reduceBEq, Nat.reduceEqDiff, Nat.reduceLT, Nat.reduceLeDiff, Nat.reduceAdd, Nat.reduceSub, Nat.reduceMul, reduceCtorEq, Int.reduceToNat, Int.reduceEq, Int.reduceLT, Int.reduceLE, Int.reduceNe, Int.reduceNeg, hix, Sp.d, c1, c0, hle2]
        refine (c26 (aft (fellF b (l.take i)) b.str.lo) (aft (fellF b (l.take i)) b.str.hi)).callS rfl rfl rfl rfl rfl rfl ?_
        simp only [go_sem, Nat.reduceBEq, Nat.reduceEqDiff, Nat.reduceLT, Nat.reduceLeDiff, Nat.reduceAdd, Nat.reduceSub, Nat.reduceMul, reduceCtorEq, Int.reduceToNat, Int.reduceEq, Int.reduceLT, Int.reduceLE, Int.reduceNe, Int.reduceNeg, hix, Sp.d, c1, c0, hle2, aftS, hd0]
        refine ⟨i + 1, by omega, by omega, ?_⟩
        exact ForgetTo.same' (by simp) (by simp [EWe, Env.look, aftS, w64 (n := (i : Int) + 1) (by omega) (by omega)]) rfl
      · refine c17.call rfl rfl rfl ?_
        simp only [go_sem, Nat.reduceBEq, Nat.reduceEqDiff, Nat.reduceLT, Nat.reduceLeDiff, Nat.reduceAdd, Nat.reduceSub, Nat.reduceMul, reduceCtorEq, Int.reduceToNat, Int.reduceEq, Int.reduceLT, Int.reduceLE, Int.reduceNe, Int.reduceNeg, he]
  · have hc0 : ¬ checkP b = 0 := by simpa using h0
    have hsp : strengthsP b l = ([], checkP b) := by simp [strengthsP, hc0]
    simp only [go_sem, Nat.reduceBEq, Nat.reduceEqDiff, Nat.reduceLT, Nat.reduceLeDiff, Nat.reduceAdd, Nat.reduceSub, Nat.reduceMul, reduceCtorEq, Int.reduceToNat, Int.reduceEq, Int.reduceLT, Int.reduceLE, Int.reduceNe, Int.reduceNeg, h0, hsp, List.map_nil, List.length_nil, hd0]
    refine c17.call rfl rfl rfl ?_
    simp only [go_sem, Nat.reduceBEq, Nat.reduceEqDiff, Nat.reduceLT, Nat.reduceLeDiff, Nat.reduceAdd, Nat.reduceSub, Nat.reduceMul, reduceCtorEq, Int.reduceToNat, Int.reduceEq, Int.reduceLT, Int.reduceLE, Int.reduceNe, Int.reduceNeg, h0, hsp]
end Go.Aw
end

section
set_option maxRecDepth 100000
namespace Go.Aw
open Go Go.Proofs

theorem has_int {f : Nat} {y : D} (h : HasT Try.prog (f + 1) 3 y) : ∃ n, y = .int .i64 n ∧ (Lit.int .i64 n).wf = true := by
  unfold HasT at h
  rw [Try.underlying3] at h
  exact h

theorem has_sp {f : Nat} {y : D} (h : HasT Try.prog (f + 2) 23 y) : ∃ s : Sp, y = s.d := by
  unfold HasT at h
  rw [Try.underlying23] at h
  obtain ⟨l, rfl, h⟩ := h
  simp only [HasFs] at h
  obtain ⟨y1, r1, rfl, h1, y2, r2, rfl, h2, rfl⟩ := h
  obtain ⟨n1, rfl, _⟩ := has_int h1
  obtain ⟨n2, rfl, _⟩ := has_int h2
  exact ⟨⟨n1, n2⟩, rfl⟩

theorem has_list {α : Type} {enc : α → D} {p : D → Prop} (he : ∀ y, p y → ∃ s, y = enc s) : ∀ l : List D, (∀ y ∈ l, p y) → ∃ ss : List α, l = ss.map enc
  | [], _ => ⟨[], rfl⟩
  | y :: r, h => by
    obtain ⟨s, rfl⟩ := he y (h y (by simp))
    obtain ⟨ss, rfl⟩ := has_list he r fun z hz => h z (List.mem_cons_of_mem _ hz)
    exact ⟨s :: ss, rfl⟩

theorem has_ints {f : Nat} {y : D} (h : HasT Try.prog (f + 2) 27 y) : ∃ l : List Int, y = .sl (l.map (.int .i64)) := by
  unfold HasT at h
  rw [Try.underlying27] at h
  obtain ⟨l, rfl, h1, hl⟩ := h
  obtain ⟨ss, rfl⟩ := has_list (fun y hy => by obtain ⟨n, rfl, hn⟩ := has_int hy; exact ⟨n, rfl⟩) l hl
  exact ⟨ss, rfl⟩

theorem has_plate {f : Nat} {y : D} (h : HasT Try.prog (f + 3) 117 y) : ∃ s : Plate, y = s.d := by
  unfold HasT at h
  rw [Try.underlying117] at h
  obtain ⟨l, rfl, h⟩ := h
  simp only [HasFs] at h
  obtain ⟨y1, r1, rfl, h1, y2, r2, rfl, h2, y3, r3, rfl, h3, rfl⟩ := h
  obtain ⟨n1, rfl⟩ := has_sp h1
  obtain ⟨n2, rfl, _⟩ := has_int h2
  obtain ⟨n3, rfl, _⟩ := has_int h3
  exact ⟨⟨n1, n2, n3⟩, rfl⟩

theorem has_bath {f : Nat} {y : D} (h : HasT Try.prog (f + 5) 26 y) : ∃ s : Bath, y = s.d := by
  unfold HasT at h
  rw [Try.underlying26] at h
  obtain ⟨l, rfl, h⟩ := h
  simp only [HasFs] at h
  obtain ⟨y1, r1, rfl, h1, y2, r2, rfl, h2, rfl⟩ := h
  obtain ⟨n1, rfl⟩ := has_sp h1
  unfold HasT at h2
  rw [Try.underlying24] at h2
  obtain ⟨l2, rfl, _, k2⟩ := h2
  obtain ⟨es, rfl⟩ := has_list (fun y hy => has_plate hy) l2 k2
  exact ⟨⟨n1, es⟩, rfl⟩

theorem has_step {f : Nat} {y : D} (h : HasT Try.prog (f + 2) 39 y) : ∃ s : Step, y = s.d := by
  unfold HasT at h
  rw [Try.underlying39] at h
  obtain ⟨l, rfl, h⟩ := h
  simp only [HasFs] at h
  obtain ⟨y1, r1, rfl, h1, y2, r2, rfl, h2, rfl⟩ := h
  obtain ⟨n1, rfl, _⟩ := has_int h1
  obtain ⟨n2, rfl, _⟩ := has_int h2
  exact ⟨⟨n1, n2⟩, rfl⟩

theorem has_steps {f : Nat} {y : D} (h : HasT Try.prog (f + 3) 37 y) : ∃ l : List Step, y = .sl (l.map Step.d) := by
  unfold HasT at h
  rw [Try.underlying37] at h
  obtain ⟨l, rfl, h1, hl⟩ := h
  obtain ⟨ss, rfl⟩ := has_list (fun y hy => has_step hy) l hl
  exact ⟨ss, rfl⟩
end Go.Aw
end

section
set_option maxRecDepth 100000
namespace Go.Aw
open Go Go.Proofs.Try

theorem c80 (p : Plate) (rust str hours : Int) (hp : p.Ok) (hr : 0 ≤ rust ∧ rust ≤ 600) (hs : 0 ≤ str ∧ str ≤ 40) (hh : 0 ≤ hours ∧ hours ≤ 24) : PC prog 80 [.d p.d, .d (.int .i64 rust), .d (.int .i64 str), .d (.int .i64 hours)] (.d (.int .i64 (howP p rust (str * hours)))) := by
  refine PC.run (fun _ => false) tt_ok (fn := f80) (rs := [.tmp 8]) rfl rfl rfl rfl rfl rfl rfl ?_
  simp only [Plate.Ok] at hp
  have hmul : 0 ≤ str * hours ∧ str * hours ≤ 960 := by
    refine ⟨Int.mul_nonneg hs.1 hh.1, ?_⟩
    have := Int.mul_le_mul hs.2 hh.2 hh.1 (by omega : (0 : Int) ≤ 40)
    omega
  have hw : IntKind.i64.wrap (str * hours) = str * hours := w64 (by omega) (by omega)
  have hw2 : IntKind.i64.wrap (rust + p.thin) = rust + p.thin := w64 (by omega) (by omega)
  simp only [go_sem, Nat.reduceBEq, Nat.reduceEqDiff, Nat.reduceLT, Nat.reduceLeDiff, Nat.reduceAdd, Nat.reduceSub, Nat.reduceMul, reduceCtorEq, Int.reduceToNat, Int.reduceEq, Int.reduceLT, Int.reduceLE, Int.reduceNe, Int.reduceNeg, Plate.d, hw]
  generalize str * hours = loses
  refine Br_split (fun h1 => ?_) (fun h1 => ?_) <;> simp only [go_sem, Nat.reduceBEq, Nat.reduceEqDiff, Nat.reduceLT, Nat.reduceLeDiff, Nat.reduceAdd, Nat.reduceSub, Nat.reduceMul, reduceCtorEq, Int.reduceToNat, Int.reduceEq, Int.reduceLT, Int.reduceLE, Int.reduceNe, Int.reduceNeg, h1, hw2]
  · have h1' : loses < rust := by simpa using h1
    simp [howP, h1']
  · have h1' : ¬ loses < rust := by simpa using h1
    refine Br_split (fun h2 => ?_) (fun h2 => ?_) <;> simp only [go_sem, Nat.reduceBEq, Nat.reduceEqDiff, Nat.reduceLT, Nat.reduceLeDiff, Nat.reduceAdd, Nat.reduceSub, Nat.reduceMul, reduceCtorEq, Int.reduceToNat, Int.reduceEq, Int.reduceLT, Int.reduceLE, Int.reduceNe, Int.reduceNeg, h2]
    · have h2' : loses > rust + p.thin := by simpa using h2
      simp [howP, h1', h2']
    · have h2' : ¬ loses > rust + p.thin := by simpa using h2
      simp [howP, h1', h2']

theorem c32 (l : List Step) (hl : l.length ≤ 1000) : PC prog 32 [.d (.sl (l.map Step.d))] (.d (.sl ((platesOf l).map (.int .i64)))) := by
  refine PC.run (fun k => k == 5) tt_ok (fn := f32) (rs := [.tmp 2]) rfl rfl rfl rfl rfl rfl rfl ?_
  simp only [go_sem, Nat.reduceBEq, Nat.reduceEqDiff, Nat.reduceLT, Nat.reduceLeDiff, Nat.reduceAdd, Nat.reduceSub, Nat.reduceMul, reduceCtorEq, Int.reduceToNat, Int.reduceEq, Int.reduceLT, Int.reduceLE, Int.reduceNe, Int.reduceNeg]
  refine ALoop.by (S := Nat) (fun i => [(4, .d (.int .i64 i)), (3, .ref 0 i 0 i), (0, .d (.sl (l.map Step.d)))]) (fun i => [.arr 1 false ((platesOf (l.take i)).map (.int .i64))]) (fun i => l.length - i) (fun i => i ≤ l.length) 0 (by simp) (fun _ h => nomatch h) (Nat.zero_le _) ?_ ?_
  · exact ForgetTo.same' (by simp) (by simp [EWe, Env.look]) (by simp [platesOf])
  rintro i hi hn
  refine AWP.run (fun k => k == 5) tt_ok (fun _ h => nomatch h) (by simp) rfl ?_
  simp only [go_sem, Nat.reduceBEq, Nat.reduceEqDiff, Nat.reduceLT, Nat.reduceLeDiff, Nat.reduceAdd, Nat.reduceSub, Nat.reduceMul, reduceCtorEq, Int.reduceToNat, Int.reduceEq, Int.reduceLT, Int.reduceLE, Int.reduceNe, Int.reduceNeg]
  refine Br_split (fun hd => ?_) (fun hd => ?_) <;> simp only [go_sem, Nat.reduceBEq, Nat.reduceEqDiff, Nat.reduceLT, Nat.reduceLeDiff, Nat.reduceAdd, Nat.reduceSub, Nat.reduceMul, reduceCtorEq, Int.reduceToNat, Int.reduceEq, Int.reduceLT, Int.reduceLE, Int.reduceNe, Int.reduceNeg, hd]
  · have hlt : i < l.length := by simpa using hd
    have hix : idx? (l.map Step.d) (i : Int) = some (l[i]).d := by simp [idx?, List.getElem?_eq_getElem hlt]
    have hst : (platesOf (l.take (i + 1))).map (D.int .i64) = (platesOf (l.take i)).map (D.int .i64) ++ [.int .i64 l[i].plate] := by
      rw [List.take_add_one, List.getElem?_eq_getElem hlt]; simp only [platesOf, List.map_append, Option.toList_some, List.map_cons, List.map_nil]
    have hln : ((platesOf (l.take i)).map (D.int .i64)).length = i := by simp [platesOf]; omega
    have hln2 : (platesOf (l.take i)).length = i := by simp [platesOf]; omega
    have hi1 : i + 1 ≤ 4294967296 := by omega
    generalize l[i] = x at hix hst
    simp only [go_sem, Nat.reduceBEq, Nat.reduceEqDiff, Nat.reduceLT, Nat.reduceLeDiff, Nat.reduceAdd, Nat.reduceSub, Nat.reduceMul, reduceCtorEq, Int.reduceToNat, Int.reduceEq, Int.reduceLT, Int.reduceLE, Int.reduceNe, Int.reduceNeg, hix, hln, hln2, hi1, Step.d]
    refine ⟨i + 1, hlt, by omega, ?_⟩
    exact ForgetTo.same' (by simp) (by simp [EWe, Env.look, w64 (n := (i : Int) + 1) (by omega) (by omega)]) (by rw [hst])
  · have hie : i = l.length := by simp at hd; omega
    subst hie
    rw [List.take_length]
    have hln : (platesOf l).length = l.length := by simp [platesOf]
    have htk : ((platesOf l).map (D.int .i64)).take l.length = (platesOf l).map (D.int .i64) := List.take_of_length_le (by simp [platesOf])
    simp only [go_sem, Nat.reduceBEq, Nat.reduceEqDiff, Nat.reduceLT, Nat.reduceLeDiff, Nat.reduceAdd, Nat.reduceSub, Nat.reduceMul, reduceCtorEq, Int.reduceToNat, Int.reduceEq, Int.reduceLT, Int.reduceLE, Int.reduceNe, Int.reduceNeg, hln, htk]
end Go.Aw
end

section
set_option maxRecDepth 100000
namespace Go.Aw
open Go Go.Proofs.Try

/-- How many integers a span has. -/
def nR (p : Plate) : Nat := (p.rust.hi + 1 - p.rust.lo).toNat

/-- Some strengths and rusts by which a plate comes out so. -/
def rowW (p : Plate) (loses : Int) (j : Nat) (h : Int) : Bool := (List.range j).any fun j' => decide (howP p (p.rust.lo + (j' : Int)) loses = h)

def strW (b : Bath) (before : List Int) (p : Plate) (hours : Int) (i : Nat) (h : Int) : Bool := (List.range i).any fun i' => rowW p (weakF b before (b.str.lo + (i' : Int)) * hours) (nR p) h

def nS (b : Bath) : Nat := (b.str.hi + 1 - b.str.lo).toNat

def waysR (b : Bath) (before : List Int) (p : Plate) (hours : Int) : List Int := [1, 2, 3].filter fun h => strW b before p hours (nS b) h

theorem rowW_succ (p : Plate) (loses : Int) (j : Nat) (h : Int) : rowW p loses (j + 1) h = (rowW p loses j h || decide (howP p (p.rust.lo + j) loses = h)) := by
  simp [rowW, List.range_succ, List.any_append]

theorem strW_succ (b : Bath) (before : List Int) (p : Plate) (hours : Int) (i : Nat) (h : Int) : strW b before p hours (i + 1) h = (strW b before p hours i h || rowW p (weakF b before (b.str.lo + i) * hours) (nR p) h) := by
  simp [strW, List.range_succ, List.any_append]

def canB (c : Int → Bool) : Blk := .cells [.d (.bool false), .d (.bool (c 1)), .d (.bool (c 2)), .d (.bool (c 3))]

def pltB (p : Plate) : Blk := .cells [.d (.int .i64 p.rust.lo), .d (.int .i64 p.rust.hi), .d (.int .i64 p.takes), .d (.int .i64 p.thin)]

def bthB (b : Bath) : Blk := .cells [.d (.int .i64 b.str.lo), .d (.int .i64 b.str.hi), .d (.sl (b.plates.map Plate.d))]

/-- The heap of Ways; the two blocks may lie either way. -/
def hpW (b : Bath) (p : Plate) (o : Bool) (c : Int → Bool) : Heap := if o = true then [bthB b, canB c, pltB p] else [bthB b, pltB p, canB c]

def outW (c : Int → Bool) (i : Nat) : List Int := ([1, 2, 3].take i).filter c

theorem outW_len (c : Int → Bool) (i : Nat) : (outW c i).length ≤ 3 := by
  have h1 := List.length_filter_le c (([1, 2, 3] : List Int).take i)
  have h2 := List.length_take_le' i ([1, 2, 3] : List Int)
  simp only [outW]
  simp only [List.length_cons, List.length_nil] at h2
  omega

theorem outW_succ (c : Int → Bool) : ∀ i : Nat, i < 3 → outW c (i + 1) = outW c i ++ (if c ((i : Int) + 1) = true then [(i : Int) + 1] else [])
  | 0, _ => by simp [outW, List.filter_cons]
  | 1, _ => by simp [outW, List.filter_cons]; split <;> rfl
  | 2, _ => by simp [outW, List.filter_cons]; split <;> split <;> rfl

theorem c31 {b : Bath} (hok : b.Ok) (before : List Int) (plate hours : Int) (hl : before.length ≤ 1000) (hm : ∀ p ∈ before, 0 ≤ p ∧ p < b.plates.length) (hp : 0 ≤ plate ∧ plate < b.plates.length) (hh : 1 ≤ hours ∧ hours ≤ 24) :
    PC prog 31 [.d b.d, .d (.sl (before.map (.int .i64))), .d (.int .i64 plate), .d (.int .i64 hours)] (.d (.sl ((waysR b before (b.pl plate) hours).map (.int .i64)))) := by
  have hat := Bath.at (b := b) hp
  have hpl := hok.pl plate
  generalize b.pl plate = p at hat hpl
  have hpl' := hpl
  simp only [Plate.Ok] at hpl'
  obtain ⟨s1, s2, s3, _, _⟩ := id hok
  refine PC.of_body tt_ok (fn := f31) (c := bodyOf f31) (rs := [.tmp 8]) rfl rfl rfl rfl rfl rfl ?_
  refine AWP.stepS (S := Bool) 2 (fun o => [(10, .ptr (if o = true then 2 else 1) 0), (9, .ptr (if o = true then 1 else 2) 0), (4, .ptr 0 0), (3, .d (.int .i64 hours)), (1, .d (.sl (before.map (.int .i64))))])
    (fun o => hpW b p o fun _ => false) (fun _ => True) (fun k => k == 52) tt_ok (fun _ h => nomatch h) (Nat.zero_le _) rfl ?_ ?_
  · simp only [go_sem, Nat.reduceBEq, Nat.reduceEqDiff, Nat.reduceLT, Nat.reduceLeDiff, Nat.reduceAdd, Nat.reduceSub, Nat.reduceMul, reduceCtorEq, Int.reduceToNat, Int.reduceEq, Int.reduceLT, Int.reduceLE, Int.reduceNe, Int.reduceNeg, Bath.d]
    refine ADrw.treeG (fun k => k == 52) tt_ok (by kernel_rfl) (fun k => if k = 2 then some .L else if k = 8 ∨ k = 9 then some .W else if k = 6 ∨ k = 7 then some .A else some .S)
      (.ones [0, 1, 3] (.three 2 (.ones [4, 5] (.two 6 (.ones [7, 8, 9] .done) 7 (.ones [6, 8, 9] .done))) 6 (.two 2 (.ones [4, 5, 7, 8, 9] .done) 7 (.two 2 (.ones [4, 5, 8, 9] .done) 8 (.ones [2, 4, 5, 9] .done))) 7 (.two 2 (.ones [4, 5, 6, 8, 9] .done) 6 (.two 2 (.ones [4, 5, 8, 9] .done) 8 (.ones [2, 4, 5, 9] .done)))))
      (Nat.zero_le _) (fun _ h => nomatch h) rfl rfl (by kernel_rfl) ?_
    simp only [go_sem, Nat.reduceBEq, Nat.reduceEqDiff, Nat.reduceLT, Nat.reduceLeDiff, Nat.reduceAdd, Nat.reduceSub, Nat.reduceMul, reduceCtorEq, Int.reduceToNat, Int.reduceEq, Int.reduceLT, Int.reduceLE, Int.reduceNe, Int.reduceNeg, hat, Plate.d]
    repeat' refine And.intro ?_ ?_
    all_goals first
      | (refine ⟨true, ForgetTo.same' ?_ ?_ ?_⟩ <;> simp [EWe, Env.look, hpW, bthB, canB, pltB]; done)
      | (refine ⟨false, ForgetTo.same' ?_ ?_ ?_⟩ <;> simp [EWe, Env.look, hpW, bthB, canB, pltB]; done)
  rintro o - hn0
  have hnr : p.rust.lo + (nR p : Int) = p.rust.hi + 1 := by simp only [nR]; omega
  have hns : b.str.lo + (nS b : Int) = b.str.hi + 1 := by simp only [nS]; omega
  have hf0 : ∀ x : Bool, (x || false) = x := fun x => by simp
  cases o
  · refine AWP.runS (fun k => k == 52) tt_ok (fun _ h => nomatch h) (Nat.zero_le _) rfl ?_
    simp only [go_sem, Nat.reduceBEq, Nat.reduceEqDiff, Nat.reduceLT, Nat.reduceLeDiff, Nat.reduceAdd, Nat.reduceSub, Nat.reduceMul, reduceCtorEq, Int.reduceToNat, Int.reduceEq, Int.reduceLT, Int.reduceLE, Int.reduceNe, Int.reduceNeg, hpW, bthB, canB, pltB, Bool.false_eq_true, if_false, if_true]
    refine ALoop.by (S := Nat) (fun i => [(11, .d (.int .i64 (b.str.lo + i))), (10, .ptr 1 0), (9, .ptr 2 0), (4, .ptr 0 0), (3, .d (.int .i64 hours)), (1, .d (.sl (before.map (.int .i64))))])
      (fun i => hpW b p false (strW b before p hours i)) (fun i => nS b - i) (fun i => i ≤ nS b) 0 (Nat.zero_le _) (fun _ h => nomatch h) (Nat.zero_le _) ?_ ?_
    · exact ForgetTo.same' (by simp [hpW]) (by simp [EWe, Env.look]) (by simp [hpW, bthB, canB, pltB, strW])
    rintro i hi hn
    refine AWP.run (fun k => k == 52) tt_ok (fun _ h => nomatch h) (Nat.zero_le _) rfl ?_
    simp only [go_sem, Nat.reduceBEq, Nat.reduceEqDiff, Nat.reduceLT, Nat.reduceLeDiff, Nat.reduceAdd, Nat.reduceSub, Nat.reduceMul, reduceCtorEq, Int.reduceToNat, Int.reduceEq, Int.reduceLT, Int.reduceLE, Int.reduceNe, Int.reduceNeg, hpW, bthB, canB, pltB, Bool.false_eq_true, if_false, if_true]
    refine Br_split (fun hd => ?_) (fun hd => ?_) <;> simp only [go_sem, Nat.reduceBEq, Nat.reduceEqDiff, Nat.reduceLT, Nat.reduceLeDiff, Nat.reduceAdd, Nat.reduceSub, Nat.reduceMul, reduceCtorEq, Int.reduceToNat, Int.reduceEq, Int.reduceLT, Int.reduceLE, Int.reduceNe, Int.reduceNeg, hd]
    · have hlt : i < nS b := by simp only [decide_eq_true_eq] at hd; omega
      have hwb := weakF_bnd hok before (b.str.lo + i) (by omega) (by omega)
      have hsx : IntKind.i64.wrap (b.str.lo + i + 1) = b.str.lo + ((i + 1 : Nat) : Int) := by rw [w64 (by omega) (by omega)]; omega
      have hss := strW_succ b before p hours i
      refine (c27 hok before (b.str.lo + i) (by omega) (by omega) hm).call rfl rfl rfl ?_
      generalize weakF b before (b.str.lo + i) = now at hwb hss
      generalize strW b before p hours i = c at hss
      simp only [go_sem, Nat.reduceBEq, Nat.reduceEqDiff, Nat.reduceLT, Nat.reduceLeDiff, Nat.reduceAdd, Nat.reduceSub, Nat.reduceMul, reduceCtorEq, Int.reduceToNat, Int.reduceEq, Int.reduceLT, Int.reduceLE, Int.reduceNe, Int.reduceNeg]
      refine ALoop.by (S := Nat) (fun j => [(13, .d (.int .i64 (p.rust.lo + j))), (12, .d (.int .i64 now)), (11, .d (.int .i64 (b.str.lo + i))), (10, .ptr 1 0), (9, .ptr 2 0), (4, .ptr 0 0), (3, .d (.int .i64 hours)), (1, .d (.sl (before.map (.int .i64))))])
        (fun j => hpW b p false fun h => (c h || rowW p (now * hours) j h)) (fun j => nR p - j) (fun j => j ≤ nR p) 0 (Nat.zero_le _) (fun _ h => nomatch h) (Nat.zero_le _) ?_ ?_
      · exact ForgetTo.same' (by simp [hpW]) (by simp [EWe, Env.look]) (by simp [hpW, bthB, canB, pltB, rowW])
      rintro j hj hnj
      refine AWP.run (fun k => k == 52) tt_ok (fun _ h => nomatch h) (Nat.zero_le _) rfl ?_
      simp only [go_sem, Nat.reduceBEq, Nat.reduceEqDiff, Nat.reduceLT, Nat.reduceLeDiff, Nat.reduceAdd, Nat.reduceSub, Nat.reduceMul, reduceCtorEq, Int.reduceToNat, Int.reduceEq, Int.reduceLT, Int.reduceLE, Int.reduceNe, Int.reduceNeg, hpW, bthB, canB, pltB, Bool.false_eq_true, if_false, if_true]
      refine Br_split (fun he => ?_) (fun he => ?_) <;> simp only [go_sem, Nat.reduceBEq, Nat.reduceEqDiff, Nat.reduceLT, Nat.reduceLeDiff, Nat.reduceAdd, Nat.reduceSub, Nat.reduceMul, reduceCtorEq, Int.reduceToNat, Int.reduceEq, Int.reduceLT, Int.reduceLE, Int.reduceNe, Int.reduceNeg, he]
      · have hlt2 : j < nR p := by simp only [decide_eq_true_eq] at he; omega
        have hrx : IntKind.i64.wrap (p.rust.lo + j + 1) = p.rust.lo + ((j + 1 : Nat) : Int) := by rw [w64 (by omega) (by omega)]; omega
        have hrs := rowW_succ p (now * hours) j
        have hin := howP_in p (p.rust.lo + j) (now * hours)
        simp only [go_sem, Nat.reduceBEq, Nat.reduceEqDiff, Nat.reduceLT, Nat.reduceLeDiff, Nat.reduceAdd, Nat.reduceSub, Nat.reduceMul, reduceCtorEq, Int.reduceToNat, Int.reduceEq, Int.reduceLT, Int.reduceLE, Int.reduceNe, Int.reduceNeg]
        refine (c80 p (p.rust.lo + j) now hours hpl (by omega) (by omega) (by omega)).call rfl rfl rfl ?_
        generalize rowW p (now * hours) j = r at hrs
        generalize howP p (p.rust.lo + j) (now * hours) = v at hrs hin
        rcases hin with rfl | rfl | rfl
        all_goals
          simp only [go_sem, Nat.reduceBEq, Nat.reduceEqDiff, Nat.reduceLT, Nat.reduceLeDiff, Nat.reduceAdd, Nat.reduceSub, Nat.reduceMul, reduceCtorEq, Int.reduceToNat, Int.reduceEq, Int.reduceLT, Int.reduceLE, Int.reduceNe, Int.reduceNeg]
          refine ⟨j + 1, hlt2, by omega, ?_⟩
          exact ForgetTo.same' (Nat.zero_le _) (by simp [EWe, Env.look, hrx]) (by simp [hpW, bthB, canB, pltB, hrs])
      · have hje : j = nR p := by simp only [decide_eq_false_iff_not] at he; omega
        subst hje
        refine ⟨i + 1, hlt, by omega, ?_⟩
        exact ForgetTo.same' (Nat.zero_le _) (by simp [EWe, Env.look, hsx]) (by simp [hpW, bthB, canB, pltB, hss])
    · have hie : i = nS b := by simp only [decide_eq_false_iff_not] at hd; omega
      subst hie
      have hwr : waysR b before p hours = [1, 2, 3].filter fun h => strW b before p hours (nS b) h := rfl
      rw [hwr]
      generalize strW b before p hours (nS b) = c
      simp only [go_sem, Nat.reduceBEq, Nat.reduceEqDiff, Nat.reduceLT, Nat.reduceLeDiff, Nat.reduceAdd, Nat.reduceSub, Nat.reduceMul, reduceCtorEq, Int.reduceToNat, Int.reduceEq, Int.reduceLT, Int.reduceLE, Int.reduceNe, Int.reduceNeg]
      refine ALoop.by (S := Nat) (fun i => [(15, .d (.int .i64 ((i : Int) + 1))), (14, .ref 3 (outW c i).length 0 (outW c i).length), (9, .ptr 2 0)])
        (fun i => hpW b p false c ++ [.arr 1 false ((outW c i).map (.int .i64))]) (fun i => 3 - i) (fun i => i ≤ 3) 0 (Nat.zero_le _) (fun _ h => nomatch h) (Nat.zero_le _) ?_ ?_
      · exact ForgetTo.same' (Nat.zero_le _) (by simp [EWe, Env.look, outW]) (by simp [hpW, bthB, canB, pltB, outW])
      rintro i hi3 hni
      refine AWP.run (fun k => k == 52) tt_ok (fun _ h => nomatch h) (Nat.zero_le _) rfl ?_
      simp only [go_sem, Nat.reduceBEq, Nat.reduceEqDiff, Nat.reduceLT, Nat.reduceLeDiff, Nat.reduceAdd, Nat.reduceSub, Nat.reduceMul, reduceCtorEq, Int.reduceToNat, Int.reduceEq, Int.reduceLT, Int.reduceLE, Int.reduceNe, Int.reduceNeg, hpW, bthB, canB, pltB, Bool.false_eq_true, if_false, if_true]
      refine Br_split (fun he => ?_) (fun he => ?_) <;> simp only [go_sem, Nat.reduceBEq, Nat.reduceEqDiff, Nat.reduceLT, Nat.reduceLeDiff, Nat.reduceAdd, Nat.reduceSub, Nat.reduceMul, reduceCtorEq, Int.reduceToNat, Int.reduceEq, Int.reduceLT, Int.reduceLE, Int.reduceNe, Int.reduceNeg, he]
      · have hlt2 : (i : Int) + 1 = 1 ∨ (i : Int) + 1 = 2 ∨ (i : Int) + 1 = 3 := by simp only [decide_eq_true_eq] at he; omega
        have hol := outW_len c i
        have hol2 : (outW c i).length + 1 ≤ 4294967296 := by omega
        have hos := outW_succ c i (by omega)
        rcases hlt2 with hz | hz | hz
        all_goals
          rw [hz] at hos
          simp only [go_sem, Nat.reduceBEq, Nat.reduceEqDiff, Nat.reduceLT, Nat.reduceLeDiff, Nat.reduceAdd, Nat.reduceSub, Nat.reduceMul, reduceCtorEq, Int.reduceToNat, Int.reduceEq, Int.reduceLT, Int.reduceLE, Int.reduceNe, Int.reduceNeg, Int.reduceAdd, hz]
          refine Br_split (fun hg => ?_) (fun hg => ?_) <;> simp only [go_sem, Nat.reduceBEq, Nat.reduceEqDiff, Nat.reduceLT, Nat.reduceLeDiff, Nat.reduceAdd, Nat.reduceSub, Nat.reduceMul, reduceCtorEq, Int.reduceToNat, Int.reduceEq, Int.reduceLT, Int.reduceLE, Int.reduceNe, Int.reduceNeg, Int.reduceAdd, hg, hol2, List.length_map, hz]
          · refine ⟨i + 1, by omega, by omega, ForgetTo.same' (Nat.zero_le _) ?_ ?_⟩
            · simp [EWe, Env.look, hos, hg, wrap_i2, wrap_i3, wrap_i4, hz]
            · simp [hpW, bthB, canB, pltB, hos, hg]
          · refine ⟨i + 1, by omega, by omega, ForgetTo.same' (Nat.zero_le _) ?_ ?_⟩
            · simp [EWe, Env.look, hos, hg, wrap_i2, wrap_i3, wrap_i4, hz]
            · simp [hpW, bthB, canB, pltB, hos, hg]
      · have hie : i = 3 := by simp only [decide_eq_false_iff_not] at he; omega
        subst hie
        have htk : ((outW c 3).map (D.int .i64)).take (outW c 3).length = (outW c 3).map (D.int .i64) := List.take_of_length_le (by simp)
        simp only [go_sem, Nat.reduceBEq, Nat.reduceEqDiff, Nat.reduceLT, Nat.reduceLeDiff, Nat.reduceAdd, Nat.reduceSub, Nat.reduceMul, reduceCtorEq, Int.reduceToNat, Int.reduceEq, Int.reduceLT, Int.reduceLE, Int.reduceNe, Int.reduceNeg, htk, List.length_map]
        rfl

  · refine AWP.runS (fun k => k == 52) tt_ok (fun _ h => nomatch h) (Nat.zero_le _) rfl ?_
    simp only [go_sem, Nat.reduceBEq, Nat.reduceEqDiff, Nat.reduceLT, Nat.reduceLeDiff, Nat.reduceAdd, Nat.reduceSub, Nat.reduceMul, reduceCtorEq, Int.reduceToNat, Int.reduceEq, Int.reduceLT, Int.reduceLE, Int.reduceNe, Int.reduceNeg, hpW, bthB, canB, pltB, Bool.false_eq_true, if_false, if_true]
    refine ALoop.by (S := Nat) (fun i => [(11, .d (.int .i64 (b.str.lo + i))), (10, .ptr 2 0), (9, .ptr 1 0), (4, .ptr 0 0), (3, .d (.int .i64 hours)), (1, .d (.sl (before.map (.int .i64))))])
      (fun i => hpW b p true (strW b before p hours i)) (fun i => nS b - i) (fun i => i ≤ nS b) 0 (Nat.zero_le _) (fun _ h => nomatch h) (Nat.zero_le _) ?_ ?_
    · exact ForgetTo.same' (by simp [hpW]) (by simp [EWe, Env.look]) (by simp [hpW, bthB, canB, pltB, strW])
    rintro i hi hn
    refine AWP.run (fun k => k == 52) tt_ok (fun _ h => nomatch h) (Nat.zero_le _) rfl ?_
    simp only [go_sem, Nat.reduceBEq, Nat.reduceEqDiff, Nat.reduceLT, Nat.reduceLeDiff, Nat.reduceAdd, Nat.reduceSub, Nat.reduceMul, reduceCtorEq, Int.reduceToNat, Int.reduceEq, Int.reduceLT, Int.reduceLE, Int.reduceNe, Int.reduceNeg, hpW, bthB, canB, pltB, Bool.false_eq_true, if_false, if_true]
    refine Br_split (fun hd => ?_) (fun hd => ?_) <;> simp only [go_sem, Nat.reduceBEq, Nat.reduceEqDiff, Nat.reduceLT, Nat.reduceLeDiff, Nat.reduceAdd, Nat.reduceSub, Nat.reduceMul, reduceCtorEq, Int.reduceToNat, Int.reduceEq, Int.reduceLT, Int.reduceLE, Int.reduceNe, Int.reduceNeg, hd]
    · have hlt : i < nS b := by simp only [decide_eq_true_eq] at hd; omega
      have hwb := weakF_bnd hok before (b.str.lo + i) (by omega) (by omega)
      have hsx : IntKind.i64.wrap (b.str.lo + i + 1) = b.str.lo + ((i + 1 : Nat) : Int) := by rw [w64 (by omega) (by omega)]; omega
      have hss := strW_succ b before p hours i
      refine (c27 hok before (b.str.lo + i) (by omega) (by omega) hm).call rfl rfl rfl ?_
      generalize weakF b before (b.str.lo + i) = now at hwb hss
      generalize strW b before p hours i = c at hss
      simp only [go_sem, Nat.reduceBEq, Nat.reduceEqDiff, Nat.reduceLT, Nat.reduceLeDiff, Nat.reduceAdd, Nat.reduceSub, Nat.reduceMul, reduceCtorEq, Int.reduceToNat, Int.reduceEq, Int.reduceLT, Int.reduceLE, Int.reduceNe, Int.reduceNeg]
      refine ALoop.by (S := Nat) (fun j => [(13, .d (.int .i64 (p.rust.lo + j))), (12, .d (.int .i64 now)), (11, .d (.int .i64 (b.str.lo + i))), (10, .ptr 2 0), (9, .ptr 1 0), (4, .ptr 0 0), (3, .d (.int .i64 hours)), (1, .d (.sl (before.map (.int .i64))))])
        (fun j => hpW b p true fun h => (c h || rowW p (now * hours) j h)) (fun j => nR p - j) (fun j => j ≤ nR p) 0 (Nat.zero_le _) (fun _ h => nomatch h) (Nat.zero_le _) ?_ ?_
      · exact ForgetTo.same' (by simp [hpW]) (by simp [EWe, Env.look]) (by simp [hpW, bthB, canB, pltB, rowW])
      rintro j hj hnj
      refine AWP.run (fun k => k == 52) tt_ok (fun _ h => nomatch h) (Nat.zero_le _) rfl ?_
      simp only [go_sem, Nat.reduceBEq, Nat.reduceEqDiff, Nat.reduceLT, Nat.reduceLeDiff, Nat.reduceAdd, Nat.reduceSub, Nat.reduceMul, reduceCtorEq, Int.reduceToNat, Int.reduceEq, Int.reduceLT, Int.reduceLE, Int.reduceNe, Int.reduceNeg, hpW, bthB, canB, pltB, Bool.false_eq_true, if_false, if_true]
      refine Br_split (fun he => ?_) (fun he => ?_) <;> simp only [go_sem, Nat.reduceBEq, Nat.reduceEqDiff, Nat.reduceLT, Nat.reduceLeDiff, Nat.reduceAdd, Nat.reduceSub, Nat.reduceMul, reduceCtorEq, Int.reduceToNat, Int.reduceEq, Int.reduceLT, Int.reduceLE, Int.reduceNe, Int.reduceNeg, he]
      · have hlt2 : j < nR p := by simp only [decide_eq_true_eq] at he; omega
        have hrx : IntKind.i64.wrap (p.rust.lo + j + 1) = p.rust.lo + ((j + 1 : Nat) : Int) := by rw [w64 (by omega) (by omega)]; omega
        have hrs := rowW_succ p (now * hours) j
        have hin := howP_in p (p.rust.lo + j) (now * hours)
        simp only [go_sem, Nat.reduceBEq, Nat.reduceEqDiff, Nat.reduceLT, Nat.reduceLeDiff, Nat.reduceAdd, Nat.reduceSub, Nat.reduceMul, reduceCtorEq, Int.reduceToNat, Int.reduceEq, Int.reduceLT, Int.reduceLE, Int.reduceNe, Int.reduceNeg]
        refine (c80 p (p.rust.lo + j) now hours hpl (by omega) (by omega) (by omega)).call rfl rfl rfl ?_
        generalize rowW p (now * hours) j = r at hrs
        generalize howP p (p.rust.lo + j) (now * hours) = v at hrs hin
        rcases hin with rfl | rfl | rfl
        all_goals
          simp only [go_sem, Nat.reduceBEq, Nat.reduceEqDiff, Nat.reduceLT, Nat.reduceLeDiff, Nat.reduceAdd, Nat.reduceSub, Nat.reduceMul, reduceCtorEq, Int.reduceToNat, Int.reduceEq, Int.reduceLT, Int.reduceLE, Int.reduceNe, Int.reduceNeg]
          refine ⟨j + 1, hlt2, by omega, ?_⟩
          exact ForgetTo.same' (Nat.zero_le _) (by simp [EWe, Env.look, hrx]) (by simp [hpW, bthB, canB, pltB, hrs])
      · have hje : j = nR p := by simp only [decide_eq_false_iff_not] at he; omega
        subst hje
        refine ⟨i + 1, hlt, by omega, ?_⟩
        exact ForgetTo.same' (Nat.zero_le _) (by simp [EWe, Env.look, hsx]) (by simp [hpW, bthB, canB, pltB, hss])
    · have hie : i = nS b := by simp only [decide_eq_false_iff_not] at hd; omega
      subst hie
      have hwr : waysR b before p hours = [1, 2, 3].filter fun h => strW b before p hours (nS b) h := rfl
      rw [hwr]
      generalize strW b before p hours (nS b) = c
      simp only [go_sem, Nat.reduceBEq, Nat.reduceEqDiff, Nat.reduceLT, Nat.reduceLeDiff, Nat.reduceAdd, Nat.reduceSub, Nat.reduceMul, reduceCtorEq, Int.reduceToNat, Int.reduceEq, Int.reduceLT, Int.reduceLE, Int.reduceNe, Int.reduceNeg]
      refine ALoop.by (S := Nat) (fun i => [(15, .d (.int .i64 ((i : Int) + 1))), (14, .ref 3 (outW c i).length 0 (outW c i).length), (9, .ptr 1 0)])
        (fun i => hpW b p true c ++ [.arr 1 false ((outW c i).map (.int .i64))]) (fun i => 3 - i) (fun i => i ≤ 3) 0 (Nat.zero_le _) (fun _ h => nomatch h) (Nat.zero_le _) ?_ ?_
      · exact ForgetTo.same' (Nat.zero_le _) (by simp [EWe, Env.look, outW]) (by simp [hpW, bthB, canB, pltB, outW])
      rintro i hi3 hni
      refine AWP.run (fun k => k == 52) tt_ok (fun _ h => nomatch h) (Nat.zero_le _) rfl ?_
      simp only [go_sem, Nat.reduceBEq, Nat.reduceEqDiff, Nat.reduceLT, Nat.reduceLeDiff, Nat.reduceAdd, Nat.reduceSub, Nat.reduceMul, reduceCtorEq, Int.reduceToNat, Int.reduceEq, Int.reduceLT, Int.reduceLE, Int.reduceNe, Int.reduceNeg, hpW, bthB, canB, pltB, Bool.false_eq_true, if_false, if_true]
      refine Br_split (fun he => ?_) (fun he => ?_) <;> simp only [go_sem, Nat.reduceBEq, Nat.reduceEqDiff, Nat.reduceLT, Nat.reduceLeDiff, Nat.reduceAdd, Nat.reduceSub, Nat.reduceMul, reduceCtorEq, Int.reduceToNat, Int.reduceEq, Int.reduceLT, Int.reduceLE, Int.reduceNe, Int.reduceNeg, he]
      · have hlt2 : (i : Int) + 1 = 1 ∨ (i : Int) + 1 = 2 ∨ (i : Int) + 1 = 3 := by simp only [decide_eq_true_eq] at he; omega
        have hol := outW_len c i
        have hol2 : (outW c i).length + 1 ≤ 4294967296 := by omega
        have hos := outW_succ c i (by omega)
        rcases hlt2 with hz | hz | hz
        all_goals
          rw [hz] at hos
          simp only [go_sem, Nat.reduceBEq, Nat.reduceEqDiff, Nat.reduceLT, Nat.reduceLeDiff, Nat.reduceAdd, Nat.reduceSub, Nat.reduceMul, reduceCtorEq, Int.reduceToNat, Int.reduceEq, Int.reduceLT, Int.reduceLE, Int.reduceNe, Int.reduceNeg, Int.reduceAdd, hz]
          refine Br_split (fun hg => ?_) (fun hg => ?_) <;> simp only [go_sem, Nat.reduceBEq, Nat.reduceEqDiff, Nat.reduceLT, Nat.reduceLeDiff, Nat.reduceAdd, Nat.reduceSub, Nat.reduceMul, reduceCtorEq, Int.reduceToNat, Int.reduceEq, Int.reduceLT, Int.reduceLE, Int.reduceNe, Int.reduceNeg, Int.reduceAdd, hg, hol2, List.length_map, hz]
          · refine ⟨i + 1, by omega, by omega, ForgetTo.same' (Nat.zero_le _) ?_ ?_⟩
            · simp [EWe, Env.look, hos, hg, wrap_i2, wrap_i3, wrap_i4, hz]
            · simp [hpW, bthB, canB, pltB, hos, hg]
          · refine ⟨i + 1, by omega, by omega, ForgetTo.same' (Nat.zero_le _) ?_ ?_⟩
            · simp [EWe, Env.look, hos, hg, wrap_i2, wrap_i3, wrap_i4, hz]
            · simp [hpW, bthB, canB, pltB, hos, hg]
      · have hie : i = 3 := by simp only [decide_eq_false_iff_not] at he; omega
        subst hie
        have htk : ((outW c 3).map (D.int .i64)).take (outW c 3).length = (outW c 3).map (D.int .i64) := List.take_of_length_le (by simp)
        simp only [go_sem, Nat.reduceBEq, Nat.reduceEqDiff, Nat.reduceLT, Nat.reduceLeDiff, Nat.reduceAdd, Nat.reduceSub, Nat.reduceMul, reduceCtorEq, Int.reduceToNat, Int.reduceEq, Int.reduceLT, Int.reduceLE, Int.reduceNe, Int.reduceNeg, htk, List.length_map]
        rfl
end Go.Aw
end

section
set_option maxRecDepth 100000
namespace Go.Aw
open Go Go.Proofs.Try

theorem stepM_mem (p : Plate) (M : List Int) (loses h : Int) : h ∈ stepM p M loses ↔ h ∈ M ∨ h = howP p p.rust.lo loses ∨ h = howP p p.rust.hi loses ∨ (loses ≥ p.rust.lo ∧ loses ≤ p.rust.hi + p.thin ∧ h = 2) := by
  unfold stepM
  split
  · rename_i hc
    simp only [Bool.and_eq_true, decide_eq_true_eq] at hc
    rw [insM_mem, insM_mem, insM_mem]
    constructor
    · rintro (((h | h) | h) | h)
      · exact .inl h
      · exact .inr (.inl h)
      · exact .inr (.inr (.inl h))
      · exact .inr (.inr (.inr ⟨hc.1, hc.2, h⟩))
    · rintro (h | h | h | h)
      · exact .inl (.inl (.inl h))
      · exact .inl (.inl (.inr h))
      · exact .inl (.inr h)
      · exact .inr h.2.2
  · rename_i hc
    simp only [Bool.and_eq_true, decide_eq_true_eq] at hc
    rw [insM_mem, insM_mem]
    constructor
    · rintro ((h | h) | h)
      · exact .inl h
      · exact .inr (.inl h)
      · exact .inr (.inr (.inl h))
    · rintro (h | h | h | h)
      · exact .inl (.inl h)
      · exact .inl (.inr h)
      · exact .inr h
      · exact absurd ⟨h.1, h.2.1⟩ hc

theorem rowW_iff {p : Plate} (hp : p.Ok) (loses h : Int) : rowW p loses (nR p) h = true ↔ h = howP p p.rust.lo loses ∨ h = howP p p.rust.hi loses ∨ (loses ≥ p.rust.lo ∧ loses ≤ p.rust.hi + p.thin ∧ h = 2) := by
  simp only [Plate.Ok] at hp
  simp only [rowW, List.any_eq_true, List.mem_range, decide_eq_true_eq]
  have hnr : p.rust.lo + (nR p : Int) = p.rust.hi + 1 := by simp only [nR]; omega
  constructor
  · rintro ⟨j, hj, rfl⟩
    unfold howP
    repeat' split
    all_goals omega
  · have mk : ∀ r : Int, p.rust.lo ≤ r → r ≤ p.rust.hi → h = howP p r loses → ∃ j : Nat, j < nR p ∧ howP p (p.rust.lo + j) loses = h := fun r h1 h2 h3 =>
      ⟨(r - p.rust.lo).toNat, by omega, by rw [show p.rust.lo + ((r - p.rust.lo).toNat : Int) = r by omega, h3]⟩
    rintro (h1 | h1 | ⟨h1, h2, h3⟩)
    · exact mk p.rust.lo (by omega) (by omega) h1
    · exact mk p.rust.hi (by omega) (by omega) h1
    · refine mk (min p.rust.hi loses) (by omega) (by omega) ?_
      rw [h3]
      unfold howP
      repeat' split
      all_goals omega

theorem canM_mem (b : Bath) (x : Step) (fell h : Int) : ∀ n, h ∈ canM b x fell n ↔ ∃ i, i < n ∧ (h = howP (b.pl x.plate) (b.pl x.plate).rust.lo (losesAt b x fell i) ∨ h = howP (b.pl x.plate) (b.pl x.plate).rust.hi (losesAt b x fell i) ∨ (losesAt b x fell i ≥ (b.pl x.plate).rust.lo ∧ losesAt b x fell i ≤ (b.pl x.plate).rust.hi + (b.pl x.plate).thin ∧ h = 2))
  | 0 => by simp [canM]
  | n + 1 => by
    rw [canM_succ, stepM_mem, canM_mem b x fell h n]
    constructor
    · rintro (⟨i, hi, hh⟩ | hh)
      · exact ⟨i, by omega, hh⟩
      · exact ⟨n, by omega, hh⟩
    · rintro ⟨i, hi, hh⟩
      by_cases h2 : i = n
      · subst h2; exact .inr hh
      · exact .inl ⟨i, by omega, hh⟩

theorem ways_eq {b : Bath} (hok : b.Ok) (before : List Int) (x : Step) : waysL b x (fellF b before) = waysR b before (b.pl x.plate) x.hours := by
  have hn : nStr b = nS b := by simp only [nStr, nS]; congr 1; omega
  unfold waysL waysR
  congr 1
  funext h
  rw [hn, Bool.eq_iff_iff, List.contains_iff_mem, canM_mem]
  simp only [strW, List.any_eq_true, List.mem_range]
  have hb := hok.1
  constructor
  · rintro ⟨i, hi, hh⟩
    refine ⟨i, hi, ?_⟩
    rw [weak_aft hok before _ (by omega)]
    exact (rowW_iff (hok.pl x.plate) _ _).2 hh
  · rintro ⟨i, hi, hh⟩
    refine ⟨i, hi, ?_⟩
    rw [weak_aft hok before _ (by omega)] at hh
    exact (rowW_iff (hok.pl x.plate) _ _).1 hh
theorem c4 (b : Bath) (l : List Step) : PC prog 4 [.d b.d, .d (.sl (l.map Step.d))] (.d (.bool true)) := by
  refine PC.run (fun _ => false) tt_ok (fn := f4) (rs := [.tmp 4]) rfl rfl rfl rfl rfl rfl rfl ?_
  simp only [go_sem, Nat.reduceBEq, Nat.reduceEqDiff, Nat.reduceLT, Nat.reduceLeDiff, Nat.reduceAdd, Nat.reduceSub, Nat.reduceMul, reduceCtorEq, Int.reduceToNat, Int.reduceEq, Int.reduceLT, Int.reduceLE, Int.reduceNe, Int.reduceNeg, Bath.d]
  refine Br_split (fun h1 => ?_) (fun h1 => ?_) <;> simp only [go_sem, Nat.reduceBEq, Nat.reduceEqDiff, Nat.reduceLT, Nat.reduceLeDiff, Nat.reduceAdd, Nat.reduceSub, Nat.reduceMul, reduceCtorEq, Int.reduceToNat, Int.reduceEq, Int.reduceLT, Int.reduceLE, Int.reduceNe, Int.reduceNeg, h1]
  · refine c17.call rfl rfl rfl ?_
    simp only [go_sem, Nat.reduceBEq, Nat.reduceEqDiff, Nat.reduceLT, Nat.reduceLeDiff, Nat.reduceAdd, Nat.reduceSub, Nat.reduceMul, reduceCtorEq, Int.reduceToNat, Int.reduceEq, Int.reduceLT, Int.reduceLE, Int.reduceNe, Int.reduceNeg, h1]
  refine Br_split (fun h2 => ?_) (fun h2 => ?_) <;> simp only [go_sem, Nat.reduceBEq, Nat.reduceEqDiff, Nat.reduceLT, Nat.reduceLeDiff, Nat.reduceAdd, Nat.reduceSub, Nat.reduceMul, reduceCtorEq, Int.reduceToNat, Int.reduceEq, Int.reduceLT, Int.reduceLE, Int.reduceNe, Int.reduceNeg, h1, h2]
  · refine c17.call rfl rfl rfl ?_
    simp only [go_sem, Nat.reduceBEq, Nat.reduceEqDiff, Nat.reduceLT, Nat.reduceLeDiff, Nat.reduceAdd, Nat.reduceSub, Nat.reduceMul, reduceCtorEq, Int.reduceToNat, Int.reduceEq, Int.reduceLT, Int.reduceLE, Int.reduceNe, Int.reduceNeg, h1, h2]
  have hb : b.plates.length ≤ 20 := by simp only [decide_eq_false_iff_not] at h1; omega
  have hl : l.length ≤ 20 := by simp only [decide_eq_false_iff_not] at h2; omega
  refine (c18 b (by omega)).call rfl rfl rfl ?_
  have hle : l.length ≤ 4294967296 := by omega
  have hsz := sized_steps l
  simp only [go_sem, Nat.reduceBEq, Nat.reduceEqDiff, Nat.reduceLT, Nat.reduceLeDiff, Nat.reduceAdd, Nat.reduceSub, Nat.reduceMul, reduceCtorEq, Int.reduceToNat, Int.reduceEq, Int.reduceLT, Int.reduceLE, Int.reduceNe, Int.reduceNeg, h1, h2, Bath.d, hle, hsz, List.length_map, List.nil_append, Nat.zero_add]
  refine (c28 b l (by omega) (by omega)).call rfl rfl rfl ?_
  simp only [go_sem, Nat.reduceBEq, Nat.reduceEqDiff, Nat.reduceLT, Nat.reduceLeDiff, Nat.reduceAdd, Nat.reduceSub, Nat.reduceMul, reduceCtorEq, Int.reduceToNat, Int.reduceEq, Int.reduceLT, Int.reduceLE, Int.reduceNe, Int.reduceNeg, h1, h2]
  refine (c22 b b (by omega) (by omega)).call rfl rfl rfl ?_
  have hd0 : ∀ {α : Type} [DecidableEq α] (l : α), decide (l = l) = true := fun l => by simp
  simp only [go_sem, Nat.reduceBEq, Nat.reduceEqDiff, Nat.reduceLT, Nat.reduceLeDiff, Nat.reduceAdd, Nat.reduceSub, Nat.reduceMul, reduceCtorEq, Int.reduceToNat, Int.reduceEq, Int.reduceLT, Int.reduceLE, Int.reduceNe, Int.reduceNeg, h1, h2, hd0]
  refine (c29 l l (by omega) (by omega)).call rfl rfl rfl ?_
  simp only [go_sem, Nat.reduceBEq, Nat.reduceEqDiff, Nat.reduceLT, Nat.reduceLeDiff, Nat.reduceAdd, Nat.reduceSub, Nat.reduceMul, reduceCtorEq, Int.reduceToNat, Int.reduceEq, Int.reduceLT, Int.reduceLE, Int.reduceNe, Int.reduceNeg, h1, h2, hd0]
  refine (c21 b (by omega)).call rfl rfl rfl ?_
  simp only [go_sem, Nat.reduceBEq, Nat.reduceEqDiff, Nat.reduceLT, Nat.reduceLeDiff, Nat.reduceAdd, Nat.reduceSub, Nat.reduceMul, reduceCtorEq, Int.reduceToNat, Int.reduceEq, Int.reduceLT, Int.reduceLE, Int.reduceNe, Int.reduceNeg, h1, h2]
  refine Br_split (fun h0 => ?_) (fun h0 => ?_) <;> simp only [go_sem, Nat.reduceBEq, Nat.reduceEqDiff, Nat.reduceLT, Nat.reduceLeDiff, Nat.reduceAdd, Nat.reduceSub, Nat.reduceMul, reduceCtorEq, Int.reduceToNat, Int.reduceEq, Int.reduceLT, Int.reduceLE, Int.reduceNe, Int.reduceNeg, h0]
  · have hc0 : checkP b = 0 := by simpa using h0
    have hok := checkP_iff.1 hc0
    refine (c25 b l (by omega) (by omega)).call rfl rfl rfl ?_
    simp only [go_sem, Nat.reduceBEq, Nat.reduceEqDiff, Nat.reduceLT, Nat.reduceLeDiff, Nat.reduceAdd, Nat.reduceSub, Nat.reduceMul, reduceCtorEq, Int.reduceToNat, Int.reduceEq, Int.reduceLT, Int.reduceLE, Int.reduceNe, Int.reduceNeg, h0]
    refine Br_split (fun h3 => ?_) (fun h3 => ?_) <;> simp only [go_sem, Nat.reduceBEq, Nat.reduceEqDiff, Nat.reduceLT, Nat.reduceLeDiff, Nat.reduceAdd, Nat.reduceSub, Nat.reduceMul, reduceCtorEq, Int.reduceToNat, Int.reduceEq, Int.reduceLT, Int.reduceLE, Int.reduceNe, Int.reduceNeg, h0, h3]
    · have h3' : ¬ stepsOk b.plates.length 0 l = true := by simpa using h3
      have hsp : outP b l = ([], 4) := by simp [outP, hc0, h3']
      simp only [go_sem, Nat.reduceBEq, Nat.reduceEqDiff, Nat.reduceLT, Nat.reduceLeDiff, Nat.reduceAdd, Nat.reduceSub, Nat.reduceMul, reduceCtorEq, Int.reduceToNat, Int.reduceEq, Int.reduceLT, Int.reduceLE, Int.reduceNe, Int.reduceNeg, h0, h3, hsp, List.map_nil, List.length_nil]
      refine c17.call rfl rfl rfl ?_
      simp only [go_sem, Nat.reduceBEq, Nat.reduceEqDiff, Nat.reduceLT, Nat.reduceLeDiff, Nat.reduceAdd, Nat.reduceSub, Nat.reduceMul, reduceCtorEq, Int.reduceToNat, Int.reduceEq, Int.reduceLT, Int.reduceLE, Int.reduceNe, Int.reduceNeg, h0, h3, hsp]
    · have h3' : stepsOk b.plates.length 0 l = true := by simpa using h3
      have hsp : outP b l = (outL b l l.length, 0) := by simp [outP, hc0, h3']
      have hmem := stepsOk_mem h3'
      simp only [go_sem, Nat.reduceBEq, Nat.reduceEqDiff, Nat.reduceLT, Nat.reduceLeDiff, Nat.reduceAdd, Nat.reduceSub, Nat.reduceMul, reduceCtorEq, Int.reduceToNat, Int.reduceEq, Int.reduceLT, Int.reduceLE, Int.reduceNe, Int.reduceNeg, h0, h3, hc0, hsp, outL_len, hd0]
      refine ALoop.by (S := Nat) (fun i => [(10, .d (.int .i64 i)), (7, .d (.sl ((outL b l l.length).map intsD))), (2, .ptr 0 0), (1, .d (.sl (l.map Step.d)))])
        (fun i => [bthB b]) (fun i => l.length - i) (fun i => i ≤ l.length) 0 (by simp) (fun _ h => nomatch h) (Nat.zero_le _) ?_ ?_
      · refine ForgetTo.drop (H0 := [_]) (Y := [_]) (Nat.zero_le _) rfl (by simp [BBs, BB, VBs, VB, bthB]) ?_
        simp [EWp, Env.look, pubV]
      rintro i hi2 hn2
      refine AWP.run (fun _ => false) tt_ok (fun _ h => nomatch h) (by simp) rfl ?_
      simp only [go_sem, Nat.reduceBEq, Nat.reduceEqDiff, Nat.reduceLT, Nat.reduceLeDiff, Nat.reduceAdd, Nat.reduceSub, Nat.reduceMul, reduceCtorEq, Int.reduceToNat, Int.reduceEq, Int.reduceLT, Int.reduceLE, Int.reduceNe, Int.reduceNeg, bthB]
      refine Br_split (fun he => ?_) (fun he => ?_) <;> simp only [go_sem, Nat.reduceBEq, Nat.reduceEqDiff, Nat.reduceLT, Nat.reduceLeDiff, Nat.reduceAdd, Nat.reduceSub, Nat.reduceMul, reduceCtorEq, Int.reduceToNat, Int.reduceEq, Int.reduceLT, Int.reduceLE, Int.reduceNe, Int.reduceNeg, he]
      · have hlt : i < l.length := by simpa using he
        have hgx : l[i]? = some l[i] := List.getElem?_eq_getElem hlt
        have hgd : l.getD i ⟨0, 0⟩ = l[i] := by rw [List.getD_eq_getElem?_getD, hgx]; rfl
        have hix : idx? ((outL b l l.length).map intsD) (i : Int) = some (intsD (waysL b l[i] (fellF b ((platesOf l).take i)))) := by
          rw [idx_nat, List.getElem?_map, outL, List.getElem?_map, List.getElem?_range hlt]; simp only [Option.map_some, hgd]
        have hiy : idx? (l.map Step.d) (i : Int) = some (l[i]).d := by simp [idx?, List.getElem?_eq_getElem hlt]
        have hpt : platesOf (l.take i) = (platesOf l).take i := by simp [platesOf, List.map_take]
        have hwe := ways_eq hok ((platesOf l).take i) l[i]
        rw [hwe] at hix
        obtain ⟨m1, m2⟩ := hmem _ (List.getElem_mem hlt)
        have hmt : ∀ p ∈ (platesOf l).take i, 0 ≤ p ∧ p < b.plates.length := fun p hp => by
          obtain ⟨x, hx, rfl⟩ := List.mem_map.1 (List.mem_of_mem_take hp)
          exact (hmem x hx).1
        generalize l[i] = x at hix hiy m1 m2
        have hsz2 : sized 2 (l.map Step.d) = true := sized_steps l
        have hlen1 : (l.map Step.d).length = l.length := by simp
        have c1 : (0 : Int) ≤ (i : Int) := by omega
        have c0 : 0 ≤ i := Nat.zero_le _
        refine ADrw.treeG (fun _ => false) tt_ok (by kernel_rfl) (fun k => if k = 4 then some .L else some .S) (.ones [0, 1, 2, 3, 4, 5, 6, 7, 8, 9, 10, 11, 12, 13, 14, 15, 16, 17, 18, 19, 20, 21] .done) (by simp) (fun _ h => nomatch h) rfl rfl (by kernel_rfl) ?_
        simp only [go_sem, Nat.reduceBEq, Nat.reduceEqDiff, Nat.reduceLT, Nat.reduceLeDiff, Nat.reduceAdd, Nat.reduceSub, Nat.reduceMul, reduceCtorEq, Int.reduceToNat, Int.reduceEq, Int.reduceLT, Int.reduceLE, Int.reduceNe, Int.reduceNeg, hix, hiy, intsD, Step.d, c1, c0, hi2, Int.toNat_natCast, hsz2, hlen1, if_true, Nat.zero_le, true_and, and_self, and_true, List.drop_zero]
        refine (c32 (l.take i) (by simp; omega)).callS (by simp [dz, List.map_take]) rfl rfl rfl rfl rfl ?_
        rw [hpt]
        simp only [go_sem, Nat.reduceBEq, Nat.reduceEqDiff, Nat.reduceLT, Nat.reduceLeDiff, Nat.reduceAdd, Nat.reduceSub, Nat.reduceMul, reduceCtorEq, Int.reduceToNat, Int.reduceEq, Int.reduceLT, Int.reduceLE, Int.reduceNe, Int.reduceNeg, hix, hiy, intsD, Step.d, c1, c0]
        have hpl : (platesOf l).length = l.length := by simp [platesOf]
        refine (c31 hok ((platesOf l).take i) x.plate x.hours (by simp [hpl]; omega) hmt m1 m2).callS rfl rfl rfl rfl rfl rfl ?_
        simp only [go_sem, Nat.reduceBEq, Nat.reduceEqDiff, Nat.reduceLT, Nat.reduceLeDiff, Nat.reduceAdd, Nat.reduceSub, Nat.reduceMul, reduceCtorEq, Int.reduceToNat, Int.reduceEq, Int.reduceLT, Int.reduceLE, Int.reduceNe, Int.reduceNeg, hix, hiy, intsD, Step.d, c1, c0]
        have hw3 : (waysR b ((platesOf l).take i) (b.pl x.plate) x.hours).length ≤ 3 := outW_len _ 3
        refine (c30 (waysR b ((platesOf l).take i) (b.pl x.plate) x.hours) (waysR b ((platesOf l).take i) (b.pl x.plate) x.hours) (by omega) (by omega)).callS rfl rfl rfl rfl rfl rfl ?_
        simp only [go_sem, Nat.reduceBEq, Nat.reduceEqDiff, Nat.reduceLT, Nat.reduceLeDiff, Nat.reduceAdd, Nat.reduceSub, Nat.reduceMul, reduceCtorEq, Int.reduceToNat, Int.reduceEq, Int.reduceLT, Int.reduceLE, Int.reduceNe, Int.reduceNeg, hd0, hix, hiy, intsD, Step.d, c1, c0]
        refine ⟨i + 1, hlt, by omega, ?_⟩
        exact ForgetTo.same' (by simp) (by simp [EWe, Env.look, w64 (n := (i : Int) + 1) (by omega) (by omega)]) rfl
      · refine c17.call rfl rfl rfl ?_
        simp only [go_sem, Nat.reduceBEq, Nat.reduceEqDiff, Nat.reduceLT, Nat.reduceLeDiff, Nat.reduceAdd, Nat.reduceSub, Nat.reduceMul, reduceCtorEq, Int.reduceToNat, Int.reduceEq, Int.reduceLT, Int.reduceLE, Int.reduceNe, Int.reduceNeg, he]
  · have hc0 : ¬ checkP b = 0 := by simpa using h0
    have hsp : outP b l = ([], checkP b) := by simp [outP, hc0]
    simp only [go_sem, Nat.reduceBEq, Nat.reduceEqDiff, Nat.reduceLT, Nat.reduceLeDiff, Nat.reduceAdd, Nat.reduceSub, Nat.reduceMul, reduceCtorEq, Int.reduceToNat, Int.reduceEq, Int.reduceLT, Int.reduceLE, Int.reduceNe, Int.reduceNeg, h0, hsp, List.map_nil, List.length_nil, hd0]
    refine c17.call rfl rfl rfl ?_
    simp only [go_sem, Nat.reduceBEq, Nat.reduceEqDiff, Nat.reduceLT, Nat.reduceLeDiff, Nat.reduceAdd, Nat.reduceSub, Nat.reduceMul, reduceCtorEq, Int.reduceToNat, Int.reduceEq, Int.reduceLT, Int.reduceLE, Int.reduceNe, Int.reduceNeg, h0, hsp]
end Go.Aw
end

section
set_option maxRecDepth 100000
namespace Go.Aw
open Go Go.Proofs.Try

def hourStep (P : Int → Bool) (s : Sp) (n : Nat) : Sp := if P ((n : Int) + 1) = true then (if s.lo = 0 then ⟨(n : Int) + 1, (n : Int) + 1⟩ else ⟨s.lo, (n : Int) + 1⟩) else s

def hourUp (P : Int → Bool) (n : Nat) : Sp := (List.range n).foldl (hourStep P) ⟨0, 0⟩

theorem hourUp_succ (P : Int → Bool) (n : Nat) : hourUp P (n + 1) = hourStep P (hourUp P n) n := by
  rw [hourUp, List.range_succ, List.foldl_append]; rfl

def isGood (b : Bath) (before : List Int) (p : Plate) (h : Int) : Bool := decide (waysR b before p h = [2])

def hoursR (b : Bath) (before : List Int) (p : Plate) : Sp := hourUp (isGood b before p) 24

theorem c36 {b : Bath} (hok : b.Ok) (before : List Int) (plate : Int) (hl : before.length ≤ 1000) (hm : ∀ p ∈ before, 0 ≤ p ∧ p < b.plates.length) (hp : 0 ≤ plate ∧ plate < b.plates.length) :
    PC prog 36 [.d b.d, .d (.sl (before.map (.int .i64))), .d (.int .i64 plate)] (.d (hoursR b before (b.pl plate)).d) := by
  refine PC.run (fun _ => false) tt_ok (fn := f36) (rs := [.cell 6 23]) rfl rfl rfl rfl rfl rfl rfl ?_
  simp only [go_sem, Nat.reduceBEq, Nat.reduceEqDiff, Nat.reduceLT, Nat.reduceLeDiff, Nat.reduceAdd, Nat.reduceSub, Nat.reduceMul, reduceCtorEq, Int.reduceToNat, Int.reduceEq, Int.reduceLT, Int.reduceLE, Int.reduceNe, Int.reduceNeg, Bath.d]
  refine ALoop.by (S := Nat) (fun i => [(8, .d (.int .i64 ((i : Int) + 1))), (7, .ptr 2 0), (6, .ptr 1 0), (3, .ptr 0 0), (2, .d (.int .i64 plate)), (1, .d (.sl (before.map (.int .i64))))])
    (fun i => [bthB b, .cells [.d (.int .i64 0), .d (.int .i64 0)], .cells [.d (.int .i64 (hourUp (isGood b before (b.pl plate)) i).lo), .d (.int .i64 (hourUp (isGood b before (b.pl plate)) i).hi)]]) (fun i => 24 - i) (fun i => i ≤ 24) 0 (by simp) (fun _ h => nomatch h) (Nat.zero_le _) ?_ ?_
  · exact ForgetTo.same' (by simp) (by simp [EWe, Env.look]) (by simp [bthB, hourUp])
  rintro i hi hn
  refine AWP.run (fun _ => false) tt_ok (fun _ h => nomatch h) (by simp) rfl ?_
  simp only [go_sem, Nat.reduceBEq, Nat.reduceEqDiff, Nat.reduceLT, Nat.reduceLeDiff, Nat.reduceAdd, Nat.reduceSub, Nat.reduceMul, reduceCtorEq, Int.reduceToNat, Int.reduceEq, Int.reduceLT, Int.reduceLE, Int.reduceNe, Int.reduceNeg, bthB]
  refine Br_split (fun hd => ?_) (fun hd => ?_) <;> simp only [go_sem, Nat.reduceBEq, Nat.reduceEqDiff, Nat.reduceLT, Nat.reduceLeDiff, Nat.reduceAdd, Nat.reduceSub, Nat.reduceMul, reduceCtorEq, Int.reduceToNat, Int.reduceEq, Int.reduceLT, Int.reduceLE, Int.reduceNe, Int.reduceNeg, hd]
  · have hlt : i < 24 := by simp only [decide_eq_true_eq] at hd; omega
    have hst := hourUp_succ (isGood b before (b.pl plate)) i
    have hnx : IntKind.i64.wrap ((i : Int) + 1 + 1) = ((i + 1 : Nat) : Int) + 1 := by rw [w64 (by omega) (by omega)]; omega
    refine (c31 hok before plate ((i : Int) + 1) hl hm hp (by omega)).call rfl rfl rfl ?_
    have hg : isGood b before (b.pl plate) ((i : Int) + 1) = decide (waysR b before (b.pl plate) ((i : Int) + 1) = [2]) := rfl
    generalize waysR b before (b.pl plate) ((i : Int) + 1) = ws at hg
    simp only [hourStep, hg] at hst
    generalize hourUp (isGood b before (b.pl plate)) i = s at hst
    have skip : ws ≠ [2] → hourUp (isGood b before (b.pl plate)) (i + 1) = s := fun h => by rw [hst, if_neg (by simpa using h)]
    by_cases hw1 : ws.length = 1
    · obtain ⟨a, rfl⟩ := List.length_eq_one_iff.1 hw1
      simp only [go_sem, Nat.reduceBEq, Nat.reduceEqDiff, Nat.reduceLT, Nat.reduceLeDiff, Nat.reduceAdd, Nat.reduceSub, Nat.reduceMul, reduceCtorEq, Int.reduceToNat, Int.reduceEq, Int.reduceLT, Int.reduceLE, Int.reduceNe, Int.reduceNeg, List.map_cons, List.map_nil, List.length_cons, List.length_nil]
      refine Br_split (fun h1 => ?_) (fun h1 => ?_) <;> simp only [go_sem, Nat.reduceBEq, Nat.reduceEqDiff, Nat.reduceLT, Nat.reduceLeDiff, Nat.reduceAdd, Nat.reduceSub, Nat.reduceMul, reduceCtorEq, Int.reduceToNat, Int.reduceEq, Int.reduceLT, Int.reduceLE, Int.reduceNe, Int.reduceNeg, h1]
      · have ha : a = 2 := by simpa using h1
        rw [if_pos (by simp [ha])] at hst
        refine Br_split (fun h2 => ?_) (fun h2 => ?_) <;> simp only [go_sem, Nat.reduceBEq, Nat.reduceEqDiff, Nat.reduceLT, Nat.reduceLeDiff, Nat.reduceAdd, Nat.reduceSub, Nat.reduceMul, reduceCtorEq, Int.reduceToNat, Int.reduceEq, Int.reduceLT, Int.reduceLE, Int.reduceNe, Int.reduceNeg, h2]
        · have h2' : s.lo = 0 := by simpa using h2
          rw [if_pos h2'] at hst
          refine ⟨i + 1, hlt, by omega, ?_⟩
          exact ForgetTo.same' (by simp) (by simp [EWe, Env.look, hnx]) (by rw [hst])
        · have h2' : ¬ s.lo = 0 := by simpa using h2
          rw [if_neg h2'] at hst
          refine ⟨i + 1, hlt, by omega, ?_⟩
          exact ForgetTo.same' (by simp) (by simp [EWe, Env.look, hnx]) (by rw [hst])
      · have ha : ¬ a = 2 := by simpa using h1
        have hsk := skip (by simp [ha])
        refine ⟨i + 1, hlt, by omega, ?_⟩
        exact ForgetTo.same' (by simp) (by simp [EWe, Env.look, hnx]) (by rw [hsk])
    · have hsk := skip (fun e => hw1 (by rw [e]; rfl))
      have hne : decide ((ws.length : Int) = 1) = false := by simp; omega
      simp only [go_sem, Nat.reduceBEq, Nat.reduceEqDiff, Nat.reduceLT, Nat.reduceLeDiff, Nat.reduceAdd, Nat.reduceSub, Nat.reduceMul, reduceCtorEq, Int.reduceToNat, Int.reduceEq, Int.reduceLT, Int.reduceLE, Int.reduceNe, Int.reduceNeg, List.length_map, hne]
      refine ⟨i + 1, hlt, by omega, ?_⟩
      exact ForgetTo.same' (by simp) (by simp [EWe, Env.look, hnx]) (by rw [hsk])
  · have hie : i = 24 := by simp only [decide_eq_false_iff_not] at hd; omega
    subst hie
    simp [hoursR, Sp.d]

/-! ### The law -/

theorem hourUp_iv {P : Int → Bool} {L H : Int} (hL : 1 ≤ L) (hP : ∀ h : Int, 1 ≤ h → h ≤ 24 → (P h = true ↔ L ≤ h ∧ h ≤ H)) : ∀ n : Nat, n ≤ 24 → hourUp P n = if L ≤ min (n : Int) H then ⟨L, min (n : Int) H⟩ else ⟨0, 0⟩
  | 0, _ => by
    rw [if_neg (by omega)]
    rfl
  | n + 1, hn => by
    rw [hourUp_succ, hourUp_iv hL hP n (by omega), hourStep]
    have h1 := hP ((n : Int) + 1) (by omega) (by omega)
    by_cases hp : P ((n : Int) + 1) = true
    · rw [if_pos hp]
      obtain ⟨h2, h3⟩ := h1.1 hp
      have h6 : L ≤ min ((n + 1 : Nat) : Int) H := by omega
      rw [if_pos h6]
      by_cases h4 : L ≤ min (n : Int) H
      · simp only [if_pos h4]
        rw [if_neg (by omega)]
        simp; omega
      · simp only [if_neg h4, if_true]
        simp; omega
    · rw [if_neg hp]
      have h5 : ¬ (L ≤ (n : Int) + 1 ∧ (n : Int) + 1 ≤ H) := fun h => hp (h1.2 h)
      by_cases h4 : L ≤ min (n : Int) H
      · rw [if_pos h4, if_pos (by omega)]
        simp; omega
      · rw [if_neg h4, if_neg (by omega)]

theorem filter_two (c : Int → Bool) : [1, 2, 3].filter c = [2] ↔ c 1 = false ∧ c 2 = true ∧ c 3 = false := by
  cases h1 : c 1 <;> cases h2 : c 2 <;> cases h3 : c 3 <;> simp [List.filter_cons, h1, h2, h3]

theorem howP_two {p : Plate} {rust loses : Int} : howP p rust loses = 2 ↔ rust ≤ loses ∧ loses ≤ rust + p.thin := by
  unfold howP
  repeat' split
  all_goals omega

theorem good_iff {b : Bath} (hok : b.Ok) (before : List Int) (q : Int) {h : Int} (hh : 1 ≤ h) :
    isGood b before (b.pl q) h = true ↔ (b.pl q).rust.hi ≤ (aftS (fellF b before) b.str).lo * h ∧ (aftS (fellF b before) b.str).hi * h ≤ (b.pl q).rust.lo + (b.pl q).thin := by
  have hp := hok.pl q
  generalize b.pl q = p at hp
  have hp' := hp
  simp only [Plate.Ok] at hp'
  obtain ⟨s1, s2, s3, _, _⟩ := id hok
  have hns : b.str.lo + (nS b : Int) = b.str.hi + 1 := by simp only [nS]; omega
  have hfn := fellF_nn hok before
  simp only [isGood, decide_eq_true_eq, waysR, filter_two]
  have hW : ∀ x : Int, strW b before p h (nS b) x = true ↔ ∃ i : Nat, i < nS b ∧ (x = howP p p.rust.lo (aft (fellF b before) (b.str.lo + i) * h) ∨ x = howP p p.rust.hi (aft (fellF b before) (b.str.lo + i) * h) ∨ (aft (fellF b before) (b.str.lo + i) * h ≥ p.rust.lo ∧ aft (fellF b before) (b.str.lo + i) * h ≤ p.rust.hi + p.thin ∧ x = 2)) := fun x => by
    simp only [strW, List.any_eq_true, List.mem_range]
    constructor
    · rintro ⟨i, hi, hx⟩
      rw [weak_aft hok before _ (by omega)] at hx
      exact ⟨i, hi, (rowW_iff hp _ _).1 hx⟩
    · rintro ⟨i, hi, hx⟩
      refine ⟨i, hi, ?_⟩
      rw [weak_aft hok before _ (by omega)]
      exact (rowW_iff hp _ _).2 hx
  have hN : ∀ x : Int, strW b before p h (nS b) x = false ↔ ¬ (strW b before p h (nS b) x = true) := fun x => by simp
  rw [hN 1, hN 3, hW 1, hW 2, hW 3]
  simp only [aftS]
  generalize fellF b before = F at hfn
  have mono : ∀ i : Nat, i < nS b → aft F b.str.lo * h ≤ aft F (b.str.lo + i) * h ∧ aft F (b.str.lo + i) * h ≤ aft F b.str.hi * h := fun i hi =>
    ⟨Int.mul_le_mul_of_nonneg_right (by simp only [aft]; omega) (by omega), Int.mul_le_mul_of_nonneg_right (by simp only [aft]; omega) (by omega)⟩
  constructor
  · rintro ⟨n1, _, n3⟩
    have key : ∀ i : Nat, i < nS b → p.rust.hi ≤ aft F (b.str.lo + i) * h ∧ aft F (b.str.lo + i) * h ≤ p.rust.lo + p.thin := fun i hi => by
      have k1 := howP_in p p.rust.lo (aft F (b.str.lo + i) * h)
      have k2 := howP_in p p.rust.hi (aft F (b.str.lo + i) * h)
      have e1 : howP p p.rust.lo (aft F (b.str.lo + i) * h) = 2 := by
        rcases k1 with k | k | k
        · exact absurd ⟨i, hi, .inl k.symm⟩ n1
        · exact k
        · exact absurd ⟨i, hi, .inl k.symm⟩ n3
      have e2 : howP p p.rust.hi (aft F (b.str.lo + i) * h) = 2 := by
        rcases k2 with k | k | k
        · exact absurd ⟨i, hi, .inr (.inl k.symm)⟩ n1
        · exact k
        · exact absurd ⟨i, hi, .inr (.inl k.symm)⟩ n3
      exact ⟨(howP_two.1 e2).1, (howP_two.1 e1).2⟩
    have a0 := key 0 (by omega)
    have a1 := key (nS b - 1) (by omega)
    rw [show b.str.lo + ((0 : Nat) : Int) = b.str.lo by omega] at a0
    rw [show b.str.lo + ((nS b - 1 : Nat) : Int) = b.str.hi by omega] at a1
    exact ⟨a0.1, a1.2⟩
  · rintro ⟨g1, g2⟩
    have key : ∀ i : Nat, i < nS b → howP p p.rust.lo (aft F (b.str.lo + i) * h) = 2 ∧ howP p p.rust.hi (aft F (b.str.lo + i) * h) = 2 := fun i hi => by
      have := mono i hi
      exact ⟨howP_two.2 (by omega), howP_two.2 (by omega)⟩
    refine ⟨?_, ⟨0, by omega, .inl (key 0 (by omega)).1.symm⟩, ?_⟩
    · rintro ⟨i, hi, hx⟩
      obtain ⟨e1, e2⟩ := key i hi
      omega
    · rintro ⟨i, hi, hx⟩
      obtain ⟨e1, e2⟩ := key i hi
      omega

theorem hours_up {P : Int → Bool} {A B : Int} {p : Plate} (hp : p.Ok) (hA : 0 ≤ A ∧ A ≤ B) (hg : ∀ h : Int, 1 ≤ h → (P h = true ↔ p.rust.hi ≤ A * h ∧ B * h ≤ p.rust.lo + p.thin)) :
    hourUp P 24 = if A ≤ 0 ∧ 0 < p.rust.hi then ⟨0, 0⟩ else if (if 0 < A then max 1 ((p.rust.hi + A - 1).tdiv A) else 1) ≤ (if 0 < B then min 24 ((p.rust.lo + p.thin).tdiv B) else 24) then
      ⟨if 0 < A then max 1 ((p.rust.hi + A - 1).tdiv A) else 1, if 0 < B then min 24 ((p.rust.lo + p.thin).tdiv B) else 24⟩ else ⟨0, 0⟩ := by
  simp only [Plate.Ok] at hp
  by_cases h0 : A ≤ 0 ∧ 0 < p.rust.hi
  · rw [if_pos h0, hourUp_iv (L := 25) (H := 24) (by omega) (fun h hh _ => by
      rw [hg h hh, show A = 0 by omega]
      constructor
      · rintro ⟨k, _⟩; simp at k; omega
      · omega) 24 (Nat.le_refl _)]
    rfl
  · rw [if_neg h0]
    have hlo : ∀ h : Int, 1 ≤ h → (p.rust.hi ≤ A * h ↔ (if 0 < A then max 1 ((p.rust.hi + A - 1).tdiv A) else 1) ≤ h) := fun h hh => by
      by_cases hA0 : 0 < A
      · rw [if_pos hA0, Int.tdiv_eq_ediv_of_nonneg (by omega)]
        have := Int.ediv_lt_iff_lt_mul (a := p.rust.hi + A - 1) (b := h + 1) hA0
        rw [Int.add_mul, Int.mul_comm h A] at this
        omega
      · rw [if_neg hA0, show A = 0 by omega]
        simp; omega
    have hhi : ∀ h : Int, 1 ≤ h → h ≤ 24 → (B * h ≤ p.rust.lo + p.thin ↔ h ≤ (if 0 < B then min 24 ((p.rust.lo + p.thin).tdiv B) else 24)) := fun h hh h24 => by
      by_cases hB0 : 0 < B
      · rw [if_pos hB0, Int.tdiv_eq_ediv_of_nonneg (by omega)]
        have := Int.le_ediv_iff_mul_le (a := h) (b := p.rust.lo + p.thin) hB0
        rw [Int.mul_comm h B] at this
        omega
      · rw [if_neg hB0, show B = 0 by omega]
        simp; omega
    have hL1 : 1 ≤ (if 0 < A then max 1 ((p.rust.hi + A - 1).tdiv A) else 1) := by split <;> omega
    have hH24 : (if 0 < B then min 24 ((p.rust.lo + p.thin).tdiv B) else 24) ≤ 24 := by split <;> omega
    generalize (if 0 < A then max 1 ((p.rust.hi + A - 1).tdiv A) else 1) = L at hlo hL1
    generalize (if 0 < B then min 24 ((p.rust.lo + p.thin).tdiv B) else 24) = H at hhi hH24
    rw [hourUp_iv (L := L) (H := H) hL1 (fun h hh h24 => by rw [hg h hh, hlo h hh, hhi h hh h24]) 24 (Nat.le_refl _)]
    rw [show min ((24 : Nat) : Int) H = H by omega]

theorem hours_eq {b : Bath} (hok : b.Ok) (before : List Int) (q : Int) : hoursR b before (b.pl q) = if (hoursW b q (fellF b before)).2 = true then (hoursW b q (fellF b before)).1 else ⟨0, 0⟩ := by
  obtain ⟨s1, s2, s3, _, _⟩ := id hok
  have hA : 0 ≤ (aftS (fellF b before) b.str).lo ∧ (aftS (fellF b before) b.str).lo ≤ (aftS (fellF b before) b.str).hi := by simp only [aftS, aft]; omega
  rw [hoursR, hours_up (hok.pl q) hA (fun h hh => good_iff hok before q hh)]
  unfold hoursW hourLo hourHi
  split
  · simp
  · simp only [decide_eq_true_eq]
end Go.Aw
end

section
set_option maxRecDepth 100000
namespace Go.Aw
open Go Go.Proofs.Try

def doneF (d : Nat) (l : List Step) : Nat := l.foldl (fun d x => d ||| 2 ^ x.plate.toNat) d

theorem stepsOk_append (np : Nat) : ∀ (l r : List Step) (d : Nat), stepsOk np d (l ++ r) = (stepsOk np d l && stepsOk np (doneF d l) r)
  | [], r, d => by simp [stepsOk, doneF]
  | x :: l, r, d => by
    simp only [List.cons_append, stepsOk]
    split
    · simp
    · rw [stepsOk_append np l r]; rfl

theorem doneF_bit : ∀ (l : List Step) (d q : Nat), (doneF d l).testBit q = (d.testBit q || decide (q ∈ l.map fun x => x.plate.toNat))
  | [], d, q => by simp [doneF]
  | x :: l, d, q => by
    have : doneF d (x :: l) = doneF (d ||| 2 ^ x.plate.toNat) l := rfl
    rw [this, doneF_bit l, Nat.testBit_or, Nat.testBit_two_pow, Bool.eq_iff_iff]
    simp only [Bool.or_eq_true, decide_eq_true_eq, List.map_cons, List.mem_cons]
    have : x.plate.toNat = q ↔ q = x.plate.toNat := eq_comm
    rw [this, or_assoc]

theorem stepsOk_more {np : Nat} {l : List Step} (h : stepsOk np 0 l = true) (plate : Int) : stepsOk np 0 (l ++ [⟨plate, 1⟩]) = (within 0 ((np : Int) - 1) [plate] && !decide (plate ∈ platesOf l)) := by
  rw [stepsOk_append, h, Bool.true_and]
  simp only [stepsOk, stepBad, doneF_bit, Nat.zero_testBit, Bool.false_or]
  have h1 : within 1 24 [(1 : Int)] = true := by decide
  rw [h1]
  cases hw : within 0 ((np : Int) - 1) [plate] with
  | false => simp
  | true =>
    have hp := within_one.1 hw
    have : plate.toNat ∈ (l.map fun x => x.plate.toNat) ↔ plate ∈ platesOf l := by
      simp only [platesOf, List.mem_map]
      constructor
      · rintro ⟨x, hx, he⟩
        have := (stepsOk_mem h x hx).1
        exact ⟨x, hx, by omega⟩
      · rintro ⟨x, hx, he⟩
        exact ⟨x, hx, by rw [he]⟩
    rw [decide_eq_decide.2 this]
    cases decide (plate ∈ platesOf l) <;> simp

theorem c5 (b : Bath) (l : List Step) (plate : Int) : PC prog 5 [.d b.d, .d (.sl (l.map Step.d)), .d (.int .i64 plate)] (.d (.bool true)) := by
  refine PC.run (fun _ => false) tt_ok (fn := f5) (rs := [.tmp 6]) rfl rfl rfl rfl rfl rfl rfl ?_
  simp only [go_sem, Nat.reduceBEq, Nat.reduceEqDiff, Nat.reduceLT, Nat.reduceLeDiff, Nat.reduceAdd, Nat.reduceSub, Nat.reduceMul, reduceCtorEq, Int.reduceToNat, Int.reduceEq, Int.reduceLT, Int.reduceLE, Int.reduceNe, Int.reduceNeg, Bath.d]
  refine Br_split (fun h1 => ?_) (fun h1 => ?_) <;> simp only [go_sem, Nat.reduceBEq, Nat.reduceEqDiff, Nat.reduceLT, Nat.reduceLeDiff, Nat.reduceAdd, Nat.reduceSub, Nat.reduceMul, reduceCtorEq, Int.reduceToNat, Int.reduceEq, Int.reduceLT, Int.reduceLE, Int.reduceNe, Int.reduceNeg, h1]
  · refine c17.call rfl rfl rfl ?_
    simp only [go_sem, Nat.reduceBEq, Nat.reduceEqDiff, Nat.reduceLT, Nat.reduceLeDiff, Nat.reduceAdd, Nat.reduceSub, Nat.reduceMul, reduceCtorEq, Int.reduceToNat, Int.reduceEq, Int.reduceLT, Int.reduceLE, Int.reduceNe, Int.reduceNeg, h1]
  refine Br_split (fun h2 => ?_) (fun h2 => ?_) <;> simp only [go_sem, Nat.reduceBEq, Nat.reduceEqDiff, Nat.reduceLT, Nat.reduceLeDiff, Nat.reduceAdd, Nat.reduceSub, Nat.reduceMul, reduceCtorEq, Int.reduceToNat, Int.reduceEq, Int.reduceLT, Int.reduceLE, Int.reduceNe, Int.reduceNeg, h1, h2]
  · refine c17.call rfl rfl rfl ?_
    simp only [go_sem, Nat.reduceBEq, Nat.reduceEqDiff, Nat.reduceLT, Nat.reduceLeDiff, Nat.reduceAdd, Nat.reduceSub, Nat.reduceMul, reduceCtorEq, Int.reduceToNat, Int.reduceEq, Int.reduceLT, Int.reduceLE, Int.reduceNe, Int.reduceNeg, h1, h2]
  have hb : b.plates.length ≤ 20 := by simp only [decide_eq_false_iff_not] at h1; omega
  have hl : l.length ≤ 20 := by simp only [decide_eq_false_iff_not] at h2; omega
  refine (c18 b (by omega)).call rfl rfl rfl ?_
  have hle : l.length ≤ 4294967296 := by omega
  have hsz := sized_steps l
  simp only [go_sem, Nat.reduceBEq, Nat.reduceEqDiff, Nat.reduceLT, Nat.reduceLeDiff, Nat.reduceAdd, Nat.reduceSub, Nat.reduceMul, reduceCtorEq, Int.reduceToNat, Int.reduceEq, Int.reduceLT, Int.reduceLE, Int.reduceNe, Int.reduceNeg, h1, h2, Bath.d, hle, hsz, List.length_map, List.nil_append, Nat.zero_add]
  refine (c33 b l plate (by omega) (by omega)).call rfl rfl rfl ?_
  simp only [go_sem, Nat.reduceBEq, Nat.reduceEqDiff, Nat.reduceLT, Nat.reduceLeDiff, Nat.reduceAdd, Nat.reduceSub, Nat.reduceMul, reduceCtorEq, Int.reduceToNat, Int.reduceEq, Int.reduceLT, Int.reduceLE, Int.reduceNe, Int.reduceNeg, h1, h2, Sp.d]
  refine (c22 b b (by omega) (by omega)).call rfl rfl rfl ?_
  have hd0 : ∀ {α : Type} [DecidableEq α] (l : α), decide (l = l) = true := fun l => by simp
  simp only [go_sem, Nat.reduceBEq, Nat.reduceEqDiff, Nat.reduceLT, Nat.reduceLeDiff, Nat.reduceAdd, Nat.reduceSub, Nat.reduceMul, reduceCtorEq, Int.reduceToNat, Int.reduceEq, Int.reduceLT, Int.reduceLE, Int.reduceNe, Int.reduceNeg, h1, h2, hd0]
  refine (c29 l l (by omega) (by omega)).call rfl rfl rfl ?_
  simp only [go_sem, Nat.reduceBEq, Nat.reduceEqDiff, Nat.reduceLT, Nat.reduceLeDiff, Nat.reduceAdd, Nat.reduceSub, Nat.reduceMul, reduceCtorEq, Int.reduceToNat, Int.reduceEq, Int.reduceLT, Int.reduceLE, Int.reduceNe, Int.reduceNeg, h1, h2, hd0]
  refine (c21 b (by omega)).call rfl rfl rfl ?_
  simp only [go_sem, Nat.reduceBEq, Nat.reduceEqDiff, Nat.reduceLT, Nat.reduceLeDiff, Nat.reduceAdd, Nat.reduceSub, Nat.reduceMul, reduceCtorEq, Int.reduceToNat, Int.reduceEq, Int.reduceLT, Int.reduceLE, Int.reduceNe, Int.reduceNeg, h1, h2]
  refine Br_split (fun h0 => ?_) (fun h0 => ?_) <;> simp only [go_sem, Nat.reduceBEq, Nat.reduceEqDiff, Nat.reduceLT, Nat.reduceLeDiff, Nat.reduceAdd, Nat.reduceSub, Nat.reduceMul, reduceCtorEq, Int.reduceToNat, Int.reduceEq, Int.reduceLT, Int.reduceLE, Int.reduceNe, Int.reduceNeg, h0]
  · have hc0 : checkP b = 0 := by simpa using h0
    have hok := checkP_iff.1 hc0
    refine (c25 b l (by omega) (by omega)).call rfl rfl rfl ?_
    simp only [go_sem, Nat.reduceBEq, Nat.reduceEqDiff, Nat.reduceLT, Nat.reduceLeDiff, Nat.reduceAdd, Nat.reduceSub, Nat.reduceMul, reduceCtorEq, Int.reduceToNat, Int.reduceEq, Int.reduceLT, Int.reduceLE, Int.reduceNe, Int.reduceNeg, h0]
    refine Br_split (fun h3 => ?_) (fun h3 => ?_) <;> simp only [go_sem, Nat.reduceBEq, Nat.reduceEqDiff, Nat.reduceLT, Nat.reduceLeDiff, Nat.reduceAdd, Nat.reduceSub, Nat.reduceMul, reduceCtorEq, Int.reduceToNat, Int.reduceEq, Int.reduceLT, Int.reduceLE, Int.reduceNe, Int.reduceNeg, h0, h3]
    · have h3' : ¬ stepsOk b.plates.length 0 l = true := by simpa using h3
      have hsp : hoursP b l plate = (⟨0, 0⟩, 4) := by simp [hoursP, hc0, h3']
      simp only [go_sem, Nat.reduceBEq, Nat.reduceEqDiff, Nat.reduceLT, Nat.reduceLeDiff, Nat.reduceAdd, Nat.reduceSub, Nat.reduceMul, reduceCtorEq, Int.reduceToNat, Int.reduceEq, Int.reduceLT, Int.reduceLE, Int.reduceNe, Int.reduceNeg, h0, h3, hsp]
      refine ADrw.treeG (fun _ => false) tt_ok (by kernel_rfl) (fun k => if k = 4 then some .L else some .S) (.ones [0, 1, 2, 3, 4, 5, 6, 7, 8, 9, 10, 11] .done) (by simp) (fun _ h => nomatch h) rfl rfl (by kernel_rfl) ?_
      simp only [go_sem, Nat.reduceBEq, Nat.reduceEqDiff, Nat.reduceLT, Nat.reduceLeDiff, Nat.reduceAdd, Nat.reduceSub, Nat.reduceMul, reduceCtorEq, Int.reduceToNat, Int.reduceEq, Int.reduceLT, Int.reduceLE, Int.reduceNe, Int.reduceNeg, hd0, h0, h3, hsp]
      refine (c26 0 0).callS rfl rfl rfl rfl rfl rfl ?_
      simp only [go_sem, Nat.reduceBEq, Nat.reduceEqDiff, Nat.reduceLT, Nat.reduceLeDiff, Nat.reduceAdd, Nat.reduceSub, Nat.reduceMul, reduceCtorEq, Int.reduceToNat, Int.reduceEq, Int.reduceLT, Int.reduceLE, Int.reduceNe, Int.reduceNeg, hd0, Sp.d, h0, h3, hsp]
      refine c17.callS rfl rfl rfl rfl rfl rfl ?_
      simp only [go_sem, Nat.reduceBEq, Nat.reduceEqDiff, Nat.reduceLT, Nat.reduceLeDiff, Nat.reduceAdd, Nat.reduceSub, Nat.reduceMul, reduceCtorEq, Int.reduceToNat, Int.reduceEq, Int.reduceLT, Int.reduceLE, Int.reduceNe, Int.reduceNeg, hd0, h0, h3, hsp]
    · have h3' : stepsOk b.plates.length 0 l = true := by simpa using h3
      have hsm := stepsOk_more h3' plate
      have hmem := stepsOk_mem h3'
      have hmp : ∀ p ∈ platesOf l, 0 ≤ p ∧ p < b.plates.length := fun p hp => by
        obtain ⟨x, hx, rfl⟩ := List.mem_map.1 hp
        exact (hmem x hx).1
      have hpl : (platesOf l).length = l.length := by simp [platesOf]
      have hp1 : IntKind.i64.wrap ((b.plates.length : Int) - 1) = (b.plates.length : Int) - 1 := w64 (by omega) (by omega)
      simp only [go_sem, Nat.reduceBEq, Nat.reduceEqDiff, Nat.reduceLT, Nat.reduceLeDiff, Nat.reduceAdd, Nat.reduceSub, Nat.reduceMul, reduceCtorEq, Int.reduceToNat, Int.reduceEq, Int.reduceLT, Int.reduceLE, Int.reduceNe, Int.reduceNeg, h0, h3, hc0, hd0, hp1]
      refine (c34 plate 0 ((b.plates.length : Int) - 1)).call rfl rfl rfl ?_
      rw [in_iff]
      simp only [go_sem, Nat.reduceBEq, Nat.reduceEqDiff, Nat.reduceLT, Nat.reduceLeDiff, Nat.reduceAdd, Nat.reduceSub, Nat.reduceMul, reduceCtorEq, Int.reduceToNat, Int.reduceEq, Int.reduceLT, Int.reduceLE, Int.reduceNe, Int.reduceNeg, h0, h3, hd0]
      refine Br_split (fun h4 => ?_) (fun h4 => ?_) <;> simp only [go_sem, Nat.reduceBEq, Nat.reduceEqDiff, Nat.reduceLT, Nat.reduceLeDiff, Nat.reduceAdd, Nat.reduceSub, Nat.reduceMul, reduceCtorEq, Int.reduceToNat, Int.reduceEq, Int.reduceLT, Int.reduceLE, Int.reduceNe, Int.reduceNeg, h0, h3, h4, hd0]
      · have h4' : within 0 ((b.plates.length : Int) - 1) [plate] = false := by simpa using h4
        have hsp : hoursP b l plate = (⟨0, 0⟩, 7) := by simp [hoursP, hc0, h3', hsm, h4']
        simp only [go_sem, Nat.reduceBEq, Nat.reduceEqDiff, Nat.reduceLT, Nat.reduceLeDiff, Nat.reduceAdd, Nat.reduceSub, Nat.reduceMul, reduceCtorEq, Int.reduceToNat, Int.reduceEq, Int.reduceLT, Int.reduceLE, Int.reduceNe, Int.reduceNeg, h0, h3, hsp]
        refine ADrw.treeG (fun _ => false) tt_ok (by kernel_rfl) (fun k => if k = 4 then some .L else some .S) (.ones [0, 1, 2, 3, 4, 5, 6, 7, 8, 9, 10, 11] .done) (by simp) (fun _ h => nomatch h) rfl rfl (by kernel_rfl) ?_
        simp only [go_sem, Nat.reduceBEq, Nat.reduceEqDiff, Nat.reduceLT, Nat.reduceLeDiff, Nat.reduceAdd, Nat.reduceSub, Nat.reduceMul, reduceCtorEq, Int.reduceToNat, Int.reduceEq, Int.reduceLT, Int.reduceLE, Int.reduceNe, Int.reduceNeg, hd0, h0, h3, h4, hsp]
        refine (c26 0 0).callS rfl rfl rfl rfl rfl rfl ?_
        simp only [go_sem, Nat.reduceBEq, Nat.reduceEqDiff, Nat.reduceLT, Nat.reduceLeDiff, Nat.reduceAdd, Nat.reduceSub, Nat.reduceMul, reduceCtorEq, Int.reduceToNat, Int.reduceEq, Int.reduceLT, Int.reduceLE, Int.reduceNe, Int.reduceNeg, hd0, Sp.d, h0, h3, h4, hsp]
        refine c17.callS rfl rfl rfl rfl rfl rfl ?_
        simp only [go_sem, Nat.reduceBEq, Nat.reduceEqDiff, Nat.reduceLT, Nat.reduceLeDiff, Nat.reduceAdd, Nat.reduceSub, Nat.reduceMul, reduceCtorEq, Int.reduceToNat, Int.reduceEq, Int.reduceLT, Int.reduceLE, Int.reduceNe, Int.reduceNeg, hd0, h0, h3, h4, hsp]
      · have h4' : within 0 ((b.plates.length : Int) - 1) [plate] = true := by simpa using h4
        have hp0 : 0 ≤ plate ∧ plate < b.plates.length := by have := within_one.1 h4'; omega
        refine (c32 l (by omega)).call rfl rfl rfl ?_
        simp only [go_sem, Nat.reduceBEq, Nat.reduceEqDiff, Nat.reduceLT, Nat.reduceLeDiff, Nat.reduceAdd, Nat.reduceSub, Nat.reduceMul, reduceCtorEq, Int.reduceToNat, Int.reduceEq, Int.reduceLT, Int.reduceLE, Int.reduceNe, Int.reduceNeg, h0, h3, h4, hd0]
        refine (c35 (platesOf l) plate (by omega)).call rfl rfl rfl ?_
        simp only [go_sem, Nat.reduceBEq, Nat.reduceEqDiff, Nat.reduceLT, Nat.reduceLeDiff, Nat.reduceAdd, Nat.reduceSub, Nat.reduceMul, reduceCtorEq, Int.reduceToNat, Int.reduceEq, Int.reduceLT, Int.reduceLE, Int.reduceNe, Int.reduceNeg, h0, h3, h4, hd0]
        refine Br_split (fun h5 => ?_) (fun h5 => ?_) <;> simp only [go_sem, Nat.reduceBEq, Nat.reduceEqDiff, Nat.reduceLT, Nat.reduceLeDiff, Nat.reduceAdd, Nat.reduceSub, Nat.reduceMul, reduceCtorEq, Int.reduceToNat, Int.reduceEq, Int.reduceLT, Int.reduceLE, Int.reduceNe, Int.reduceNeg, h0, h3, h4, h5, hd0]
        · have hsp : hoursP b l plate = (⟨0, 0⟩, 7) := by rw [h4', h5] at hsm; simp [hoursP, hc0, h3', hsm]
          simp only [go_sem, Nat.reduceBEq, Nat.reduceEqDiff, Nat.reduceLT, Nat.reduceLeDiff, Nat.reduceAdd, Nat.reduceSub, Nat.reduceMul, reduceCtorEq, Int.reduceToNat, Int.reduceEq, Int.reduceLT, Int.reduceLE, Int.reduceNe, Int.reduceNeg, h0, h3, hsp]
          refine ADrw.treeG (fun _ => false) tt_ok (by kernel_rfl) (fun k => if k = 4 then some .L else some .S) (.ones [0, 1, 2, 3, 4, 5, 6, 7, 8, 9, 10, 11] .done) (by simp) (fun _ h => nomatch h) rfl rfl (by kernel_rfl) ?_
          simp only [go_sem, Nat.reduceBEq, Nat.reduceEqDiff, Nat.reduceLT, Nat.reduceLeDiff, Nat.reduceAdd, Nat.reduceSub, Nat.reduceMul, reduceCtorEq, Int.reduceToNat, Int.reduceEq, Int.reduceLT, Int.reduceLE, Int.reduceNe, Int.reduceNeg, hd0, h0, h3, h4, h5, hsp]
          refine (c26 0 0).callS rfl rfl rfl rfl rfl rfl ?_
          simp only [go_sem, Nat.reduceBEq, Nat.reduceEqDiff, Nat.reduceLT, Nat.reduceLeDiff, Nat.reduceAdd, Nat.reduceSub, Nat.reduceMul, reduceCtorEq, Int.reduceToNat, Int.reduceEq, Int.reduceLT, Int.reduceLE, Int.reduceNe, Int.reduceNeg, hd0, Sp.d, h0, h3, h4, h5, hsp]
          refine c17.callS rfl rfl rfl rfl rfl rfl ?_
          simp only [go_sem, Nat.reduceBEq, Nat.reduceEqDiff, Nat.reduceLT, Nat.reduceLeDiff, Nat.reduceAdd, Nat.reduceSub, Nat.reduceMul, reduceCtorEq, Int.reduceToNat, Int.reduceEq, Int.reduceLT, Int.reduceLE, Int.reduceNe, Int.reduceNeg, hd0, h0, h3, h4, h5, hsp]
        · have hsp : hoursP b l plate = if (hoursW b plate (fellF b (platesOf l))).2 = true then ((hoursW b plate (fellF b (platesOf l))).1, 0) else (⟨0, 0⟩, 9) := by rw [h4', h5] at hsm; simp [hoursP, hc0, h3', hsm]
          have hhe := hours_eq hok (platesOf l) plate
          have hlo := fun h => (hoursW_lo (p := plate) (fell := fellF b (platesOf l)) hok h).1
          refine ADrw.treeG (fun _ => false) tt_ok (by kernel_rfl) (fun k => if k = 0 then some .L else if k = 6 then some .W else if k = 5 then some .A else some .S) (.ones [0, 1, 2, 3, 4, 5, 6] .done) (by simp) (fun _ h => nomatch h) rfl rfl (by kernel_rfl) ?_
          simp only [go_sem, Nat.reduceBEq, Nat.reduceEqDiff, Nat.reduceLT, Nat.reduceLeDiff, Nat.reduceAdd, Nat.reduceSub, Nat.reduceMul, reduceCtorEq, Int.reduceToNat, Int.reduceEq, Int.reduceLT, Int.reduceLE, Int.reduceNe, Int.reduceNeg, h0, h3, h4, h5, hd0]
          refine (c32 l (by omega)).callS rfl rfl rfl rfl rfl rfl ?_
          simp only [go_sem, Nat.reduceBEq, Nat.reduceEqDiff, Nat.reduceLT, Nat.reduceLeDiff, Nat.reduceAdd, Nat.reduceSub, Nat.reduceMul, reduceCtorEq, Int.reduceToNat, Int.reduceEq, Int.reduceLT, Int.reduceLE, Int.reduceNe, Int.reduceNeg, h0, h3, h4, h5, hd0]
          refine (c36 hok (platesOf l) plate (by omega) hmp hp0).callS rfl rfl rfl rfl rfl rfl ?_
          rw [hhe]
          by_cases hw : (hoursW b plate (fellF b (platesOf l))).2 = true
          · rw [if_pos hw] at hsp ⊢
            have hlo' := hlo hw
            rw [hsp]
            generalize (hoursW b plate (fellF b (platesOf l))).1 = due at hlo'
            have hlod : decide (0 < due.lo) = true := by simp; omega
            simp only [go_sem, Nat.reduceBEq, Nat.reduceEqDiff, Nat.reduceLT, Nat.reduceLeDiff, Nat.reduceAdd, Nat.reduceSub, Nat.reduceMul, reduceCtorEq, Int.reduceToNat, Int.reduceEq, Int.reduceLT, Int.reduceLE, Int.reduceNe, Int.reduceNeg, h0, h3, h4, h5, hd0, Sp.d, hlod]
            refine c17.call rfl rfl rfl ?_
            simp only [go_sem, Nat.reduceBEq, Nat.reduceEqDiff, Nat.reduceLT, Nat.reduceLeDiff, Nat.reduceAdd, Nat.reduceSub, Nat.reduceMul, reduceCtorEq, Int.reduceToNat, Int.reduceEq, Int.reduceLT, Int.reduceLE, Int.reduceNe, Int.reduceNeg, h0, h3, h4, h5, hd0, Sp.d, hlod]
          · rw [if_neg hw] at hsp ⊢
            simp only [go_sem, Nat.reduceBEq, Nat.reduceEqDiff, Nat.reduceLT, Nat.reduceLeDiff, Nat.reduceAdd, Nat.reduceSub, Nat.reduceMul, reduceCtorEq, Int.reduceToNat, Int.reduceEq, Int.reduceLT, Int.reduceLE, Int.reduceNe, Int.reduceNeg, h0, h3, h4, h5, hd0, Sp.d, hsp]
            refine ADrw.treeG (fun _ => false) tt_ok (by kernel_rfl) (fun k => if k = 4 then some .L else some .S) (.ones [0, 1, 2, 3, 4, 5, 6, 7, 8, 9, 10, 11] .done) (by simp) (fun _ h => nomatch h) rfl rfl (by kernel_rfl) ?_
            simp only [go_sem, Nat.reduceBEq, Nat.reduceEqDiff, Nat.reduceLT, Nat.reduceLeDiff, Nat.reduceAdd, Nat.reduceSub, Nat.reduceMul, reduceCtorEq, Int.reduceToNat, Int.reduceEq, Int.reduceLT, Int.reduceLE, Int.reduceNe, Int.reduceNeg, hd0, h0, h3, h4, h5, hsp]
            refine (c26 0 0).callS rfl rfl rfl rfl rfl rfl ?_
            simp only [go_sem, Nat.reduceBEq, Nat.reduceEqDiff, Nat.reduceLT, Nat.reduceLeDiff, Nat.reduceAdd, Nat.reduceSub, Nat.reduceMul, reduceCtorEq, Int.reduceToNat, Int.reduceEq, Int.reduceLT, Int.reduceLE, Int.reduceNe, Int.reduceNeg, hd0, Sp.d, h0, h3, h4, h5, hsp]
            refine c17.callS rfl rfl rfl rfl rfl rfl ?_
            simp only [go_sem, Nat.reduceBEq, Nat.reduceEqDiff, Nat.reduceLT, Nat.reduceLeDiff, Nat.reduceAdd, Nat.reduceSub, Nat.reduceMul, reduceCtorEq, Int.reduceToNat, Int.reduceEq, Int.reduceLT, Int.reduceLE, Int.reduceNe, Int.reduceNeg, hd0, h0, h3, h4, h5, hsp]
  · have hc0 : ¬ checkP b = 0 := by simpa using h0
    have hsp : hoursP b l plate = (⟨0, 0⟩, checkP b) := by simp [hoursP, hc0]
    simp only [go_sem, Nat.reduceBEq, Nat.reduceEqDiff, Nat.reduceLT, Nat.reduceLeDiff, Nat.reduceAdd, Nat.reduceSub, Nat.reduceMul, reduceCtorEq, Int.reduceToNat, Int.reduceEq, Int.reduceLT, Int.reduceLE, Int.reduceNe, Int.reduceNeg, h0, hsp, hd0]
    refine ADrw.treeG (fun _ => false) tt_ok (by kernel_rfl) (fun k => if k = 4 then some .L else some .S) (.ones [0, 1, 2, 3, 4, 5, 6, 7, 8, 9, 10, 11] .done) (by simp) (fun _ h => nomatch h) rfl rfl (by kernel_rfl) ?_
    simp only [go_sem, Nat.reduceBEq, Nat.reduceEqDiff, Nat.reduceLT, Nat.reduceLeDiff, Nat.reduceAdd, Nat.reduceSub, Nat.reduceMul, reduceCtorEq, Int.reduceToNat, Int.reduceEq, Int.reduceLT, Int.reduceLE, Int.reduceNe, Int.reduceNeg, hd0, h0, hsp]
    refine (c26 0 0).callS rfl rfl rfl rfl rfl rfl ?_
    simp only [go_sem, Nat.reduceBEq, Nat.reduceEqDiff, Nat.reduceLT, Nat.reduceLeDiff, Nat.reduceAdd, Nat.reduceSub, Nat.reduceMul, reduceCtorEq, Int.reduceToNat, Int.reduceEq, Int.reduceLT, Int.reduceLE, Int.reduceNe, Int.reduceNeg, hd0, Sp.d, h0, hsp]
    refine c17.callS rfl rfl rfl rfl rfl rfl ?_
    simp only [go_sem, Nat.reduceBEq, Nat.reduceEqDiff, Nat.reduceLT, Nat.reduceLeDiff, Nat.reduceAdd, Nat.reduceSub, Nat.reduceMul, reduceCtorEq, Int.reduceToNat, Int.reduceEq, Int.reduceLT, Int.reduceLE, Int.reduceNe, Int.reduceNeg, hd0, h0, hsp]
end Go.Aw
end

section
set_option maxRecDepth 100000
namespace Go.Aw
open Go Go.Proofs.Try

def Byte (n : Int) : Prop := 0 ≤ n ∧ n < 256

/-- Three bytes; four bytes. -/
structure B3 where
  a : Int
  b : Int
  c : Int
deriving DecidableEq

structure B4 where
  a : Int
  b : Int
  c : Int
  e : Int
deriving DecidableEq

def B3.d (s : B3) : D := .agg [.int .u8 s.a, .int .u8 s.b, .int .u8 s.c]
def B4.d (s : B4) : D := .agg [.int .u8 s.a, .int .u8 s.b, .int .u8 s.c, .int .u8 s.e]

structure B3.Ok (s : B3) : Prop where
  a : Byte s.a
  b : Byte s.b
  c : Byte s.c

structure B4.Ok (s : B4) : Prop where
  a : Byte s.a
  b : Byte s.b
  c : Byte s.c
  e : Byte s.e

theorem byte_conv {n : Int} (h : Byte n) : wr n = n := by simp only [Byte] at h; exact w64 (by omega) (by omega)

theorem c62 (n : Int) (s : Sp) : PC prog 62 [.d (.int .i64 n), .d s.d] (.d (.bool (decide (n ≥ s.lo) && decide (n ≤ s.hi)))) := by
  refine PC.run (fun _ => false) tt_ok (fn := f62) (rs := [.tmp 4]) rfl rfl rfl rfl rfl rfl rfl ?_
  simp only [go_sem, Nat.reduceBEq, Nat.reduceEqDiff, Nat.reduceLT, Nat.reduceLeDiff, Nat.reduceAdd, Nat.reduceSub, Nat.reduceMul, reduceCtorEq, Int.reduceToNat, Int.reduceEq, Int.reduceLT, Int.reduceLE, Int.reduceNe, Int.reduceNeg, Sp.d]
  refine Br_split (fun h => ?_) (fun h => ?_) <;> simp only [go_sem, Nat.reduceBEq, Nat.reduceEqDiff, Nat.reduceLT, Nat.reduceLeDiff, Nat.reduceAdd, Nat.reduceSub, Nat.reduceMul, reduceCtorEq, Int.reduceToNat, Int.reduceEq, Int.reduceLT, Int.reduceLE, Int.reduceNe, Int.reduceNeg, h]

theorem c69 (a b : Sp) : PC prog 69 [.d a.d, .d b.d] (.d (.bool (decide (a.lo ≥ b.lo) && decide (a.hi ≤ b.hi) && decide (a.lo ≤ a.hi)))) := by
  refine PC.run (fun _ => false) tt_ok (fn := f69) (rs := [.tmp 4]) rfl rfl rfl rfl rfl rfl rfl ?_
  simp only [go_sem, Nat.reduceBEq, Nat.reduceEqDiff, Nat.reduceLT, Nat.reduceLeDiff, Nat.reduceAdd, Nat.reduceSub, Nat.reduceMul, reduceCtorEq, Int.reduceToNat, Int.reduceEq, Int.reduceLT, Int.reduceLE, Int.reduceNe, Int.reduceNeg, Sp.d]
  refine Br_split (fun h => ?_) (fun h => ?_) <;> simp only [go_sem, Nat.reduceBEq, Nat.reduceEqDiff, Nat.reduceLT, Nat.reduceLeDiff, Nat.reduceAdd, Nat.reduceSub, Nat.reduceMul, reduceCtorEq, Int.reduceToNat, Int.reduceEq, Int.reduceLT, Int.reduceLE, Int.reduceNe, Int.reduceNeg, h]
  refine Br_split (fun h2 => ?_) (fun h2 => ?_) <;> simp only [go_sem, Nat.reduceBEq, Nat.reduceEqDiff, Nat.reduceLT, Nat.reduceLeDiff, Nat.reduceAdd, Nat.reduceSub, Nat.reduceMul, reduceCtorEq, Int.reduceToNat, Int.reduceEq, Int.reduceLT, Int.reduceLE, Int.reduceNe, Int.reduceNeg, h, h2]

/-- What is known of what was used. -/
def usedS (x : B3) : Sp := ⟨max 0 (x.a - x.b % 20), x.a + x.c % 20⟩

def sumA (l : List B3) : Int := (l.map B3.a).sum

theorem sumA_bnd : ∀ l : List B3, (∀ x ∈ l, x.Ok) → 0 ≤ sumA l ∧ sumA l ≤ 255 * l.length
  | [], _ => by simp [sumA]
  | x :: r, h => by
    have h1 := (h x List.mem_cons_self).a
    have h2 := sumA_bnd r (fun y hy => h y (List.mem_cons_of_mem _ hy))
    simp only [Byte] at h1
    simp only [sumA, List.map_cons, List.sum_cons, List.length_cons] at h2 ⊢
    omega

theorem miss_sum : ∀ (l : List Sp) (m : Sp), l.foldl missStep m = ⟨m.lo - (l.map Sp.hi).sum, m.hi - (l.map Sp.lo).sum⟩
  | [], m => by simp
  | s :: r, m => by
    rw [List.foldl_cons, miss_sum r]
    simp only [missStep, List.map_cons, List.sum_cons, Sp.mk.injEq]
    omega

theorem used_sum : ∀ l : List B3, (∀ x ∈ l, x.Ok) → sumA l ≤ ((l.map usedS).map Sp.hi).sum ∧ ((l.map usedS).map Sp.lo).sum ≤ sumA l
  | [], _ => by simp [sumA]
  | x :: r, h => by
    have h0 := h x List.mem_cons_self
    have h1 := h0.a
    have h2 := h0.b
    have h3 := h0.c
    have h4 := used_sum r (fun y hy => h y (List.mem_cons_of_mem _ hy))
    simp only [Byte] at h1 h2 h3
    simp only [sumA, List.map_cons, List.sum_cons, usedS] at h4 ⊢
    omega

def aS (full c : Int) : Sp := ⟨max 0 (full - c % 30), full + c / 30⟩
def bS (left e : Int) : Sp := ⟨max 0 (left - e % 16), left + e / 16⟩
def wider (s : Sp) : Sp := ⟨max 0 (s.lo - 5), s.hi + 5⟩

theorem carboy_ok {full left : Sp} {used : List Sp} (h1 : used.length ≤ 10) (h2 : badCarboy full = false) (h3 : badCarboy left = false) (h4 : ∀ s ∈ used, badCarboy s = false) : carboyP full used left = 0 := by
  have : used.any badCarboy = false := by
    rw [List.any_eq_false]
    intro s hs
    rw [h4 s hs]; simp
  simp only [carboyP, if_neg (show ¬ used.length > 10 by omega), h2, h3, this]
  rfl

theorem missed_law {L : List B3} {v : B4} (hL : ∀ x ∈ L, x.Ok) (hl : L.length ≤ 10) (hv : v.Ok) : ∃ s t : Sp, missP (aS (sumA L + v.a + v.b) v.c) (L.map usedS) (bS v.a v.e) = (s, 0) ∧ missP (wider (aS (sumA L + v.a + v.b) v.c)) (L.map usedS) (wider (bS v.a v.e)) = (t, 0) ∧
    (v.b ≥ s.lo ∧ v.b ≤ s.hi) ∧ 0 ≤ s.lo ∧ s.lo ≥ t.lo ∧ s.hi ≤ t.hi ∧ s.lo ≤ s.hi := by
  have hb := sumA_bnd L hL
  have hs := used_sum L hL
  have h1 := hv.a
  have h2 := hv.b
  have h3 := hv.c
  have h4 := hv.e
  simp only [Byte] at h1 h2 h3 h4
  have hlen : (L.map usedS).length ≤ 10 := by simpa using hl
  have hu : ∀ s ∈ L.map usedS, badCarboy s = false := fun s hs => by
    obtain ⟨x, hx, rfl⟩ := List.mem_map.1 hs
    have k1 := (hL x hx).a
    have k2 := (hL x hx).b
    have k3 := (hL x hx).c
    simp only [Byte] at k1 k2 k3
    rw [badCarboy_iff]
    simp only [usedS]
    omega
  generalize sumA L = S at hb hs
  have c0 : carboyP (aS (S + v.a + v.b) v.c) (L.map usedS) (bS v.a v.e) = 0 := carboy_ok hlen (by rw [badCarboy_iff]; simp only [aS]; omega) (by rw [badCarboy_iff]; simp only [bS]; omega) hu
  have c1 : carboyP (wider (aS (S + v.a + v.b) v.c)) (L.map usedS) (wider (bS v.a v.e)) = 0 := carboy_ok hlen (by rw [badCarboy_iff]; simp only [aS, wider]; omega) (by rw [badCarboy_iff]; simp only [bS, wider]; omega) hu
  have m : ∀ f l : Sp, missAll f (L.map usedS) l = ⟨f.lo - ((L.map usedS).map Sp.hi).sum - l.hi, f.hi - ((L.map usedS).map Sp.lo).sum - l.lo⟩ := fun f l => by
    simp only [missAll, List.foldl_append, List.foldl_cons, List.foldl_nil, missStep]
    rw [miss_sum]
  generalize ((L.map usedS).map Sp.hi).sum = P at hs m
  generalize ((L.map usedS).map Sp.lo).sum = Q at hs m
  have n0 : ¬ (missAll (aS (S + v.a + v.b) v.c) (L.map usedS) (bS v.a v.e)).hi < 0 := by rw [m]; simp only [aS, bS]; omega
  have n1 : ¬ (missAll (wider (aS (S + v.a + v.b) v.c)) (L.map usedS) (wider (bS v.a v.e))).hi < 0 := by rw [m]; simp only [aS, bS, wider]; omega
  refine ⟨_, _, by rw [missP, if_pos c0, if_neg n0], by rw [missP, if_pos c1, if_neg n1], ?_⟩
  simp only [m, aS, bS, wider]
  omega

theorem c16 (used : List B3) (v : B4) (hu : ∀ x ∈ used, x.Ok) (hv : v.Ok) : PC prog 16 [.d (.sl (used.map B3.d)), .d v.d] (.d (.bool true)) := by
  refine PC.run (fun k => k == 18) tt_ok (fn := f16) (rs := [.tmp 4]) rfl rfl rfl rfl rfl rfl rfl ?_
  have hv1 := hv.a
  have hv2 := hv.b
  have hv3 := hv.c
  have hv4 := hv.e
  have hv0 := hv
  have ea := byte_conv hv1
  have eb := byte_conv hv2
  have ec := byte_conv hv3
  have ee := byte_conv hv4
  have hc0 := hv3.1
  have he0 := hv4.1
  have mc : v.c.tmod 30 = v.c % 30 := Int.tmod_eq_emod_of_nonneg hc0
  have me : v.e.tmod 16 = v.e % 16 := Int.tmod_eq_emod_of_nonneg he0
  have qc : v.c.tdiv 30 = v.c / 30 := Int.tdiv_eq_ediv_of_nonneg hc0
  have qe : v.e.tdiv 16 = v.e / 16 := Int.tdiv_eq_ediv_of_nonneg he0
  have z20 : (20 : Int) ≠ 0 := by omega
  have z30 : (30 : Int) ≠ 0 := by omega
  have z16 : (16 : Int) ≠ 0 := by omega
  simp only [go_sem, Nat.reduceBEq, Nat.reduceEqDiff, Nat.reduceLT, Nat.reduceLeDiff, Nat.reduceAdd, Nat.reduceSub, Nat.reduceMul, reduceCtorEq, Int.reduceToNat, Int.reduceEq, Int.reduceLT, Int.reduceLE, Int.reduceNe, Int.reduceNeg, B4.d]
  refine ALoop.by (S := Nat) (fun i => [(8, .d (.int .i64 i)), (7, .ref 1 i 0 i), (6, .d (.int .i64 (sumA (used.take i)))), (3, .ptr 0 0), (0, .d (.sl (used.map B3.d)))])
    (fun i => [.cells [.d (.int .u8 v.a), .d (.int .u8 v.b), .d (.int .u8 v.c), .d (.int .u8 v.e)], .arr 2 false (((used.take i).map usedS).map Sp.d)]) (fun i => 10 - i) (fun i => i ≤ used.length ∧ i ≤ 10) 0 (by simp) (fun _ h => nomatch h) ⟨Nat.zero_le _, by omega⟩ ?_ ?_
  · exact ForgetTo.same' (by simp) (by simp [EWe, Env.look, sumA]) (by simp)
  rintro i ⟨hi, hi10⟩ hn
  have hub := sumA_bnd (used.take i) (fun x hx => hu x (List.mem_of_mem_take hx))
  have hlen : (used.take i).length = i := by simp; omega
  rw [hlen] at hub
  refine AWP.run (fun k => k == 18) tt_ok (fun _ h => nomatch h) (by simp) rfl ?_
  simp only [go_sem, Nat.reduceBEq, Nat.reduceEqDiff, Nat.reduceLT, Nat.reduceLeDiff, Nat.reduceAdd, Nat.reduceSub, Nat.reduceMul, reduceCtorEq, Int.reduceToNat, Int.reduceEq, Int.reduceLT, Int.reduceLE, Int.reduceNe, Int.reduceNeg]
  refine Br_split (fun hd => ?_) (fun hd => ?_) <;> simp only [go_sem, Nat.reduceBEq, Nat.reduceEqDiff, Nat.reduceLT, Nat.reduceLeDiff, Nat.reduceAdd, Nat.reduceSub, Nat.reduceMul, reduceCtorEq, Int.reduceToNat, Int.reduceEq, Int.reduceLT, Int.reduceLE, Int.reduceNe, Int.reduceNeg, hd]
  · have hlt : i < used.length := by simpa using hd
    refine Br_split (fun hd2 => ?_) (fun hd2 => ?_) <;> simp only [go_sem, Nat.reduceBEq, Nat.reduceEqDiff, Nat.reduceLT, Nat.reduceLeDiff, Nat.reduceAdd, Nat.reduceSub, Nat.reduceMul, reduceCtorEq, Int.reduceToNat, Int.reduceEq, Int.reduceLT, Int.reduceLE, Int.reduceNe, Int.reduceNeg, hd, hd2]
    · have hlt2 : i < 10 := by simp only [decide_eq_true_eq] at hd2; omega
      have hx := hu _ (List.getElem_mem hlt)
      have hix : idx? (used.map B3.d) (i : Int) = some (used[i]).d := by simp [idx?, List.getElem?_eq_getElem hlt]
      have hst : (used.take (i + 1)) = used.take i ++ [used[i]] := List.take_succ_eq_append_getElem hlt
      generalize used[i] = x at hx hix hst
      have hx1 := hx.a
      have hx2 := hx.b
      have hx3 := hx.c
      have e1 := byte_conv hx1
      have e2 := byte_conv hx2
      have e3 := byte_conv hx3
      simp only [Byte] at hx1 hx2 hx3
      have m2 : x.b.tmod 20 = x.b % 20 := Int.tmod_eq_emod_of_nonneg hx2.1
      have m3 : x.c.tmod 20 = x.c % 20 := Int.tmod_eq_emod_of_nonneg hx3.1
      have w1 : IntKind.i64.wrap (sumA (used.take i) + x.a) = sumA (used.take i) + x.a := w64 (by omega) (by omega)
      have w2 : IntKind.i64.wrap (x.a - x.b % 20) = x.a - x.b % 20 := w64 (by omega) (by omega)
      have w3 : IntKind.i64.wrap (x.a + x.c % 20) = x.a + x.c % 20 := w64 (by omega) (by omega)
      simp only [go_sem, Nat.reduceBEq, Nat.reduceEqDiff, Nat.reduceLT, Nat.reduceLeDiff, Nat.reduceAdd, Nat.reduceSub, Nat.reduceMul, reduceCtorEq, Int.reduceToNat, Int.reduceEq, Int.reduceLT, Int.reduceLE, Int.reduceNe, Int.reduceNeg, hix, B3.d, e1, w1]
      refine ADrw.treeG (fun k => k == 18) tt_ok (by kernel_rfl) (fun k => if k = 22 then some .W else some .S) (.ones [0, 1, 2, 3, 4, 5, 6, 7, 8, 9, 10, 11, 12, 13, 14, 15, 16, 17, 18, 19, 20, 21, 22, 23] .done) (by simp) (fun _ h => nomatch h) rfl rfl (by kernel_rfl) ?_
      simp only [go_sem, Nat.reduceBEq, Nat.reduceEqDiff, Nat.reduceLT, Nat.reduceLeDiff, Nat.reduceAdd, Nat.reduceSub, Nat.reduceMul, reduceCtorEq, Int.reduceToNat, Int.reduceEq, Int.reduceLT, Int.reduceLE, Int.reduceNe, Int.reduceNeg, hix, B3.d, e2, e3, m2, m3, w2, w3, remO_ne z20]
      refine (c26 (max 0 (x.a - x.b % 20)) (x.a + x.c % 20)).callS rfl rfl rfl rfl rfl rfl ?_
      have hln : (((used.take i).map usedS).map Sp.d).length = i := by simp; omega
      have hi1 : i + 1 ≤ 4294967296 := by omega
      simp only [go_sem, Nat.reduceBEq, Nat.reduceEqDiff, Nat.reduceLT, Nat.reduceLeDiff, Nat.reduceAdd, Nat.reduceSub, Nat.reduceMul, reduceCtorEq, Int.reduceToNat, Int.reduceEq, Int.reduceLT, Int.reduceLE, Int.reduceNe, Int.reduceNeg, hln, hlen, hi1, Sp.d, List.length_map]
      refine ⟨i + 1, ⟨hlt, hlt2⟩, by omega, ?_⟩
      exact ForgetTo.same' (by simp) (by simp [EWe, Env.look, hst, sumA, w64 (n := (i : Int) + 1) (by omega) (by omega)]) (by rw [hst]; simp [usedS, Sp.d])
    · 
      have hL : ∀ x ∈ used.take i, x.Ok := fun x hx => hu x (List.mem_of_mem_take hx)
      generalize used.take i = L at hub hlen hL
      have htk : ((L.map usedS).map Sp.d).take i = (L.map usedS).map Sp.d := List.take_of_length_le (by simp [hlen])
      have hsz := sized_sps (L.map usedS)
      have hle : i ≤ 4294967296 := by omega
      obtain ⟨s, t, k1, k2, k3, k4, k5, k6, k7⟩ := missed_law hL (by omega) hv0
      have b1 := hv1
      have b2 := hv2
      have b3 := hv3
      have b4 := hv4
      simp only [Byte] at b1 b2 b3 b4
      refine ADrw.treeG (fun k => k == 18) tt_ok (by kernel_rfl) (fun k => if k = 1 ∨ k = 4 then some .L else some .S) (.ones [0, 1, 2, 3, 4, 5, 6, 7] .done) (by simp) (fun _ h => nomatch h) rfl rfl (by kernel_rfl) ?_
      have w1 : IntKind.i64.wrap (sumA L + v.a) = sumA L + v.a := w64 (by omega) (by omega)
      have w2 : IntKind.i64.wrap (sumA L + v.a + v.b) = sumA L + v.a + v.b := w64 (by omega) (by omega)
      simp only [go_sem, Nat.reduceBEq, Nat.reduceEqDiff, Nat.reduceLT, Nat.reduceLeDiff, Nat.reduceAdd, Nat.reduceSub, Nat.reduceMul, reduceCtorEq, Int.reduceToNat, Int.reduceEq, Int.reduceLT, Int.reduceLE, Int.reduceNe, Int.reduceNeg, ea, eb, w1, w2]
      generalize hful : sumA L + v.a + v.b = full at k1 k2
      have hf : 0 ≤ full ∧ full ≤ 4000 := by omega
      have w3 : IntKind.i64.wrap (full - v.c % 30) = full - v.c % 30 := w64 (by omega) (by omega)
      have w4 : IntKind.i64.wrap (full + v.c / 30) = full + v.c / 30 := w64 (by omega) (by omega)
      have w5 : IntKind.i64.wrap (v.a - v.e % 16) = v.a - v.e % 16 := w64 (by omega) (by omega)
      have w6 : IntKind.i64.wrap (v.a + v.e / 16) = v.a + v.e / 16 := w64 (by omega) (by omega)
      have q1 : IntKind.i64.wrap (v.c / 30) = v.c / 30 := w64 (by omega) (by omega)
      have q2 : IntKind.i64.wrap (v.e / 16) = v.e / 16 := w64 (by omega) (by omega)
      refine ADrw.treeG (fun k => k == 18) tt_ok (by kernel_rfl) (fun k => if k = 2 ∨ k = 9 ∨ k = 16 ∨ k = 23 then some .L else if k = 30 ∨ k = 31 then some .W else if k = 28 ∨ k = 29 then some .A else some .S) (.ones [0, 1, 2, 3, 4, 5, 6, 7, 8, 9, 10, 11, 12, 13, 14, 15, 16, 17, 18, 19, 20, 21, 22, 23, 24, 25, 26, 27] (.two 28 (.ones [29, 30, 31] .done) 29 (.ones [28, 30, 31] .done))) (by simp) (fun _ h => nomatch h) rfl rfl (by kernel_rfl) ?_
      simp only [go_sem, Nat.reduceBEq, Nat.reduceEqDiff, Nat.reduceLT, Nat.reduceLeDiff, Nat.reduceAdd, Nat.reduceSub, Nat.reduceMul, reduceCtorEq, Int.reduceToNat, Int.reduceEq, Int.reduceLT, Int.reduceLE, Int.reduceNe, Int.reduceNeg, ec, ee, mc, me, qc, qe, q1, q2, w3, w4, w5, w6, remO_ne z30, remO_ne z16, quoO_ne z30, quoO_ne z16]
      have cA : PC prog 26 [.d (.int .i64 (max 0 (full - v.c % 30))), .d (.int .i64 (full + v.c / 30))] (.d (aS full v.c).d) := c26 _ _
      have cB : PC prog 26 [.d (.int .i64 (max 0 (v.a - v.e % 16))), .d (.int .i64 (v.a + v.e / 16))] (.d (bS v.a v.e).d) := c26 _ _
      refine cA.callS rfl rfl rfl rfl rfl rfl ?_
      simp only [go_sem, Nat.reduceBEq, Nat.reduceEqDiff, Nat.reduceLT, Nat.reduceLeDiff, Nat.reduceAdd, Nat.reduceSub, Nat.reduceMul, reduceCtorEq, Int.reduceToNat, Int.reduceEq, Int.reduceLT, Int.reduceLE, Int.reduceNe, Int.reduceNeg, ec, ee, mc, me, qc, qe, q1, q2, w3, w4, w5, w6, remO_ne z30, remO_ne z16, quoO_ne z30, quoO_ne z16, Sp.d]
      refine cB.callS rfl rfl rfl rfl rfl rfl ?_
      have wa1 : IntKind.i64.wrap ((aS full v.c).lo - 5) = (aS full v.c).lo - 5 := w64 (by simp only [aS]; omega) (by simp only [aS]; omega)
      have wa2 : IntKind.i64.wrap ((aS full v.c).hi + 5) = (aS full v.c).hi + 5 := w64 (by simp only [aS]; omega) (by simp only [aS]; omega)
      have wb1 : IntKind.i64.wrap ((bS v.a v.e).lo - 5) = (bS v.a v.e).lo - 5 := w64 (by simp only [bS]; omega) (by simp only [bS]; omega)
      have wb2 : IntKind.i64.wrap ((bS v.a v.e).hi + 5) = (bS v.a v.e).hi + 5 := w64 (by simp only [bS]; omega) (by simp only [bS]; omega)
      generalize aS full v.c = A at k1 k2 wa1 wa2
      generalize bS v.a v.e = B at k1 k2 wb1 wb2
      simp only [go_sem, Nat.reduceBEq, Nat.reduceEqDiff, Nat.reduceLT, Nat.reduceLeDiff, Nat.reduceAdd, Nat.reduceSub, Nat.reduceMul, reduceCtorEq, Int.reduceToNat, Int.reduceEq, Int.reduceLT, Int.reduceLE, Int.reduceNe, Int.reduceNeg, Sp.d]
      refine ⟨?_, ?_⟩
      all_goals
        refine ADrw.treeG (fun k => k == 18) tt_ok (by kernel_rfl) (fun k => if k = 0 ∨ k = 3 ∨ k = 4 then some .L else if k = 10 then some .W else if k = 9 then some .A else some .S) (.ones [0, 1, 2, 3, 4, 5, 6, 7, 8, 9, 10, 11] .done) (Nat.zero_le _) (fun _ h => nomatch h) rfl rfl (by kernel_rfl) ?_
        simp only [go_sem, Nat.reduceBEq, Nat.reduceEqDiff, Nat.reduceLT, Nat.reduceLeDiff, Nat.reduceAdd, Nat.reduceSub, Nat.reduceMul, reduceCtorEq, Int.reduceToNat, Int.reduceEq, Int.reduceLT, Int.reduceLE, Int.reduceNe, Int.reduceNeg, hlen, hle, hsz, htk, List.length_map, List.nil_append, Nat.zero_add]
        refine (c55 A (L.map usedS) B (by simp; omega)).callS rfl rfl rfl rfl rfl rfl ?_
        rw [k1]
        simp only [go_sem, Nat.reduceBEq, Nat.reduceEqDiff, Nat.reduceLT, Nat.reduceLeDiff, Nat.reduceAdd, Nat.reduceSub, Nat.reduceMul, reduceCtorEq, Int.reduceToNat, Int.reduceEq, Int.reduceLT, Int.reduceLE, Int.reduceNe, Int.reduceNeg, Sp.d]
        refine ADrw.treeG (fun k => k == 18) tt_ok (by kernel_rfl) (fun k => if k = 1 ∨ k = 5 ∨ k = 10 ∨ k = 12 ∨ k = 16 then some .L else if k = 24 then some .W else if k = 23 then some .A else some .S) (.ones [0, 1, 2, 3, 4, 5, 6, 7, 8, 9, 10, 11, 12, 13, 14, 15, 16, 17, 18, 19, 20, 21, 22, 23, 24, 25] .done) (Nat.zero_le _) (fun _ h => nomatch h) rfl rfl (by kernel_rfl) ?_
        simp only [go_sem, Nat.reduceBEq, Nat.reduceEqDiff, Nat.reduceLT, Nat.reduceLeDiff, Nat.reduceAdd, Nat.reduceSub, Nat.reduceMul, reduceCtorEq, Int.reduceToNat, Int.reduceEq, Int.reduceLT, Int.reduceLE, Int.reduceNe, Int.reduceNeg, wa1, wa2]
        refine (c26 (max 0 (A.lo - 5)) (A.hi + 5)).callS rfl rfl rfl rfl rfl rfl ?_
        simp only [go_sem, Nat.reduceBEq, Nat.reduceEqDiff, Nat.reduceLT, Nat.reduceLeDiff, Nat.reduceAdd, Nat.reduceSub, Nat.reduceMul, reduceCtorEq, Int.reduceToNat, Int.reduceEq, Int.reduceLT, Int.reduceLE, Int.reduceNe, Int.reduceNeg, hlen, hle, hsz, htk, List.length_map, List.nil_append, Nat.zero_add, wb1, wb2, Sp.d]
        refine (c26 (max 0 (B.lo - 5)) (B.hi + 5)).callS rfl rfl rfl rfl rfl rfl ?_
        simp only [go_sem, Nat.reduceBEq, Nat.reduceEqDiff, Nat.reduceLT, Nat.reduceLeDiff, Nat.reduceAdd, Nat.reduceSub, Nat.reduceMul, reduceCtorEq, Int.reduceToNat, Int.reduceEq, Int.reduceLT, Int.reduceLE, Int.reduceNe, Int.reduceNeg, Sp.d]
        refine (c55 (wider A) (L.map usedS) (wider B) (by simp; omega)).callS rfl rfl rfl rfl rfl rfl ?_
        rw [k2]
        simp only [go_sem, Nat.reduceBEq, Nat.reduceEqDiff, Nat.reduceLT, Nat.reduceLeDiff, Nat.reduceAdd, Nat.reduceSub, Nat.reduceMul, reduceCtorEq, Int.reduceToNat, Int.reduceEq, Int.reduceLT, Int.reduceLE, Int.reduceNe, Int.reduceNeg, Sp.d]
        refine (c62 v.b s).call rfl rfl rfl ?_
        have d1 : (decide (v.b ≥ s.lo) && decide (v.b ≤ s.hi)) = true := by simp; omega
        have d2 : decide (0 ≤ s.lo) = true := by simp; omega
        have d3 : (decide (s.lo ≥ t.lo) && decide (s.hi ≤ t.hi) && decide (s.lo ≤ s.hi)) = true := by simp; omega
        rw [d1]
        simp only [go_sem, Nat.reduceBEq, Nat.reduceEqDiff, Nat.reduceLT, Nat.reduceLeDiff, Nat.reduceAdd, Nat.reduceSub, Nat.reduceMul, reduceCtorEq, Int.reduceToNat, Int.reduceEq, Int.reduceLT, Int.reduceLE, Int.reduceNe, Int.reduceNeg, Sp.d, d2]
        refine (c69 s t).call rfl rfl rfl ?_
        rw [d3]
        simp only [go_sem, Nat.reduceBEq, Nat.reduceEqDiff, Nat.reduceLT, Nat.reduceLeDiff, Nat.reduceAdd, Nat.reduceSub, Nat.reduceMul, reduceCtorEq, Int.reduceToNat, Int.reduceEq, Int.reduceLT, Int.reduceLE, Int.reduceNe, Int.reduceNeg, Sp.d, d2]
        refine c17.call rfl rfl rfl ?_
        simp only [go_sem, Nat.reduceBEq, Nat.reduceEqDiff, Nat.reduceLT, Nat.reduceLeDiff, Nat.reduceAdd, Nat.reduceSub, Nat.reduceMul, reduceCtorEq, Int.reduceToNat, Int.reduceEq, Int.reduceLT, Int.reduceLE, Int.reduceNe, Int.reduceNeg, Sp.d, d2]
  · 
    have hL : ∀ x ∈ used.take i, x.Ok := fun x hx => hu x (List.mem_of_mem_take hx)
    generalize used.take i = L at hub hlen hL
    have htk : ((L.map usedS).map Sp.d).take i = (L.map usedS).map Sp.d := List.take_of_length_le (by simp [hlen])
    have hsz := sized_sps (L.map usedS)
    have hle : i ≤ 4294967296 := by omega
    obtain ⟨s, t, k1, k2, k3, k4, k5, k6, k7⟩ := missed_law hL (by omega) hv0
    have b1 := hv1
    have b2 := hv2
    have b3 := hv3
    have b4 := hv4
    simp only [Byte] at b1 b2 b3 b4
    refine ADrw.treeG (fun k => k == 18) tt_ok (by kernel_rfl) (fun k => if k = 1 ∨ k = 4 then some .L else some .S) (.ones [0, 1, 2, 3, 4, 5, 6, 7] .done) (by simp) (fun _ h => nomatch h) rfl rfl (by kernel_rfl) ?_
    have w1 : IntKind.i64.wrap (sumA L + v.a) = sumA L + v.a := w64 (by omega) (by omega)
    have w2 : IntKind.i64.wrap (sumA L + v.a + v.b) = sumA L + v.a + v.b := w64 (by omega) (by omega)
    simp only [go_sem, Nat.reduceBEq, Nat.reduceEqDiff, Nat.reduceLT, Nat.reduceLeDiff, Nat.reduceAdd, Nat.reduceSub, Nat.reduceMul, reduceCtorEq, Int.reduceToNat, Int.reduceEq, Int.reduceLT, Int.reduceLE, Int.reduceNe, Int.reduceNeg, ea, eb, w1, w2]
    generalize hful : sumA L + v.a + v.b = full at k1 k2
    have hf : 0 ≤ full ∧ full ≤ 4000 := by omega
    have w3 : IntKind.i64.wrap (full - v.c % 30) = full - v.c % 30 := w64 (by omega) (by omega)
    have w4 : IntKind.i64.wrap (full + v.c / 30) = full + v.c / 30 := w64 (by omega) (by omega)
    have w5 : IntKind.i64.wrap (v.a - v.e % 16) = v.a - v.e % 16 := w64 (by omega) (by omega)
    have w6 : IntKind.i64.wrap (v.a + v.e / 16) = v.a + v.e / 16 := w64 (by omega) (by omega)
    have q1 : IntKind.i64.wrap (v.c / 30) = v.c / 30 := w64 (by omega) (by omega)
    have q2 : IntKind.i64.wrap (v.e / 16) = v.e / 16 := w64 (by omega) (by omega)
    refine ADrw.treeG (fun k => k == 18) tt_ok (by kernel_rfl) (fun k => if k = 2 ∨ k = 9 ∨ k = 16 ∨ k = 23 then some .L else if k = 30 ∨ k = 31 then some .W else if k = 28 ∨ k = 29 then some .A else some .S) (.ones [0, 1, 2, 3, 4, 5, 6, 7, 8, 9, 10, 11, 12, 13, 14, 15, 16, 17, 18, 19, 20, 21, 22, 23, 24, 25, 26, 27] (.two 28 (.ones [29, 30, 31] .done) 29 (.ones [28, 30, 31] .done))) (by simp) (fun _ h => nomatch h) rfl rfl (by kernel_rfl) ?_
    simp only [go_sem, Nat.reduceBEq, Nat.reduceEqDiff, Nat.reduceLT, Nat.reduceLeDiff, Nat.reduceAdd, Nat.reduceSub, Nat.reduceMul, reduceCtorEq, Int.reduceToNat, Int.reduceEq, Int.reduceLT, Int.reduceLE, Int.reduceNe, Int.reduceNeg, ec, ee, mc, me, qc, qe, q1, q2, w3, w4, w5, w6, remO_ne z30, remO_ne z16, quoO_ne z30, quoO_ne z16]
    have cA : PC prog 26 [.d (.int .i64 (max 0 (full - v.c % 30))), .d (.int .i64 (full + v.c / 30))] (.d (aS full v.c).d) := c26 _ _
    have cB : PC prog 26 [.d (.int .i64 (max 0 (v.a - v.e % 16))), .d (.int .i64 (v.a + v.e / 16))] (.d (bS v.a v.e).d) := c26 _ _
    refine cA.callS rfl rfl rfl rfl rfl rfl ?_
    simp only [go_sem, Nat.reduceBEq, Nat.reduceEqDiff, Nat.reduceLT, Nat.reduceLeDiff, Nat.reduceAdd, Nat.reduceSub, Nat.reduceMul, reduceCtorEq, Int.reduceToNat, Int.reduceEq, Int.reduceLT, Int.reduceLE, Int.reduceNe, Int.reduceNeg, ec, ee, mc, me, qc, qe, q1, q2, w3, w4, w5, w6, remO_ne z30, remO_ne z16, quoO_ne z30, quoO_ne z16, Sp.d]
    refine cB.callS rfl rfl rfl rfl rfl rfl ?_
    have wa1 : IntKind.i64.wrap ((aS full v.c).lo - 5) = (aS full v.c).lo - 5 := w64 (by simp only [aS]; omega) (by simp only [aS]; omega)
    have wa2 : IntKind.i64.wrap ((aS full v.c).hi + 5) = (aS full v.c).hi + 5 := w64 (by simp only [aS]; omega) (by simp only [aS]; omega)
    have wb1 : IntKind.i64.wrap ((bS v.a v.e).lo - 5) = (bS v.a v.e).lo - 5 := w64 (by simp only [bS]; omega) (by simp only [bS]; omega)
    have wb2 : IntKind.i64.wrap ((bS v.a v.e).hi + 5) = (bS v.a v.e).hi + 5 := w64 (by simp only [bS]; omega) (by simp only [bS]; omega)
    generalize aS full v.c = A at k1 k2 wa1 wa2
    generalize bS v.a v.e = B at k1 k2 wb1 wb2
    simp only [go_sem, Nat.reduceBEq, Nat.reduceEqDiff, Nat.reduceLT, Nat.reduceLeDiff, Nat.reduceAdd, Nat.reduceSub, Nat.reduceMul, reduceCtorEq, Int.reduceToNat, Int.reduceEq, Int.reduceLT, Int.reduceLE, Int.reduceNe, Int.reduceNeg, Sp.d]
    refine ⟨?_, ?_⟩
    all_goals
      refine ADrw.treeG (fun k => k == 18) tt_ok (by kernel_rfl) (fun k => if k = 0 ∨ k = 3 ∨ k = 4 then some .L else if k = 10 then some .W else if k = 9 then some .A else some .S) (.ones [0, 1, 2, 3, 4, 5, 6, 7, 8, 9, 10, 11] .done) (Nat.zero_le _) (fun _ h => nomatch h) rfl rfl (by kernel_rfl) ?_
      simp only [go_sem, Nat.reduceBEq, Nat.reduceEqDiff, Nat.reduceLT, Nat.reduceLeDiff, Nat.reduceAdd, Nat.reduceSub, Nat.reduceMul, reduceCtorEq, Int.reduceToNat, Int.reduceEq, Int.reduceLT, Int.reduceLE, Int.reduceNe, Int.reduceNeg, hlen, hle, hsz, htk, List.length_map, List.nil_append, Nat.zero_add]
      refine (c55 A (L.map usedS) B (by simp; omega)).callS rfl rfl rfl rfl rfl rfl ?_
      rw [k1]
      simp only [go_sem, Nat.reduceBEq, Nat.reduceEqDiff, Nat.reduceLT, Nat.reduceLeDiff, Nat.reduceAdd, Nat.reduceSub, Nat.reduceMul, reduceCtorEq, Int.reduceToNat, Int.reduceEq, Int.reduceLT, Int.reduceLE, Int.reduceNe, Int.reduceNeg, Sp.d]
      refine ADrw.treeG (fun k => k == 18) tt_ok (by kernel_rfl) (fun k => if k = 1 ∨ k = 5 ∨ k = 10 ∨ k = 12 ∨ k = 16 then some .L else if k = 24 then some .W else if k = 23 then some .A else some .S) (.ones [0, 1, 2, 3, 4, 5, 6, 7, 8, 9, 10, 11, 12, 13, 14, 15, 16, 17, 18, 19, 20, 21, 22, 23, 24, 25] .done) (Nat.zero_le _) (fun _ h => nomatch h) rfl rfl (by kernel_rfl) ?_
      simp only [go_sem, Nat.reduceBEq, Nat.reduceEqDiff, Nat.reduceLT, Nat.reduceLeDiff, Nat.reduceAdd, Nat.reduceSub, Nat.reduceMul, reduceCtorEq, Int.reduceToNat, Int.reduceEq, Int.reduceLT, Int.reduceLE, Int.reduceNe, Int.reduceNeg, wa1, wa2]
      refine (c26 (max 0 (A.lo - 5)) (A.hi + 5)).callS rfl rfl rfl rfl rfl rfl ?_
      simp only [go_sem, Nat.reduceBEq, Nat.reduceEqDiff, Nat.reduceLT, Nat.reduceLeDiff, Nat.reduceAdd, Nat.reduceSub, Nat.reduceMul, reduceCtorEq, Int.reduceToNat, Int.reduceEq, Int.reduceLT, Int.reduceLE, Int.reduceNe, Int.reduceNeg, hlen, hle, hsz, htk, List.length_map, List.nil_append, Nat.zero_add, wb1, wb2, Sp.d]
      refine (c26 (max 0 (B.lo - 5)) (B.hi + 5)).callS rfl rfl rfl rfl rfl rfl ?_
      simp only [go_sem, Nat.reduceBEq, Nat.reduceEqDiff, Nat.reduceLT, Nat.reduceLeDiff, Nat.reduceAdd, Nat.reduceSub, Nat.reduceMul, reduceCtorEq, Int.reduceToNat, Int.reduceEq, Int.reduceLT, Int.reduceLE, Int.reduceNe, Int.reduceNeg, Sp.d]
      refine (c55 (wider A) (L.map usedS) (wider B) (by simp; omega)).callS rfl rfl rfl rfl rfl rfl ?_
      rw [k2]
      simp only [go_sem, Nat.reduceBEq, Nat.reduceEqDiff, Nat.reduceLT, Nat.reduceLeDiff, Nat.reduceAdd, Nat.reduceSub, Nat.reduceMul, reduceCtorEq, Int.reduceToNat, Int.reduceEq, Int.reduceLT, Int.reduceLE, Int.reduceNe, Int.reduceNeg, Sp.d]
      refine (c62 v.b s).call rfl rfl rfl ?_
      have d1 : (decide (v.b ≥ s.lo) && decide (v.b ≤ s.hi)) = true := by simp; omega
      have d2 : decide (0 ≤ s.lo) = true := by simp; omega
      have d3 : (decide (s.lo ≥ t.lo) && decide (s.hi ≤ t.hi) && decide (s.lo ≤ s.hi)) = true := by simp; omega
      rw [d1]
      simp only [go_sem, Nat.reduceBEq, Nat.reduceEqDiff, Nat.reduceLT, Nat.reduceLeDiff, Nat.reduceAdd, Nat.reduceSub, Nat.reduceMul, reduceCtorEq, Int.reduceToNat, Int.reduceEq, Int.reduceLT, Int.reduceLE, Int.reduceNe, Int.reduceNeg, Sp.d, d2]
      refine (c69 s t).call rfl rfl rfl ?_
      rw [d3]
      simp only [go_sem, Nat.reduceBEq, Nat.reduceEqDiff, Nat.reduceLT, Nat.reduceLeDiff, Nat.reduceAdd, Nat.reduceSub, Nat.reduceMul, reduceCtorEq, Int.reduceToNat, Int.reduceEq, Int.reduceLT, Int.reduceLE, Int.reduceNe, Int.reduceNeg, Sp.d, d2]
      refine c17.call rfl rfl rfl ?_
      simp only [go_sem, Nat.reduceBEq, Nat.reduceEqDiff, Nat.reduceLT, Nat.reduceLeDiff, Nat.reduceAdd, Nat.reduceSub, Nat.reduceMul, reduceCtorEq, Int.reduceToNat, Int.reduceEq, Int.reduceLT, Int.reduceLE, Int.reduceNe, Int.reduceNeg, Sp.d, d2]
end Go.Aw
end

section
set_option maxRecDepth 100000
namespace Go.Aw
open Go Go.Proofs

theorem has_u8 {f : Nat} {y : D} (h : HasT Try.prog (f + 1) 5 y) : ∃ n, y = .int .u8 n ∧ Byte n := by
  unfold HasT at h
  rw [Try.underlying5] at h
  obtain ⟨n, rfl, h⟩ := h
  refine ⟨n, rfl, ?_⟩
  simp [Lit.wf, IntKind.min, IntKind.max, IntKind.bits, IntKind.signed] at h
  simp only [Byte]; omega

theorem has_b3 {f : Nat} {y : D} (h : HasT Try.prog (f + 3) 97 y) : ∃ s : B3, y = s.d ∧ s.Ok := by
  unfold HasT at h
  rw [Try.underlying97] at h
  obtain ⟨l, rfl, h⟩ := h
  simp only [HasN] at h
  obtain ⟨y1, r1, rfl, h1, y2, r2, rfl, h2, y3, r3, rfl, h3, rfl⟩ := h
  obtain ⟨n1, rfl, b1⟩ := has_u8 h1
  obtain ⟨n2, rfl, b2⟩ := has_u8 h2
  obtain ⟨n3, rfl, b3⟩ := has_u8 h3
  exact ⟨⟨n1, n2, n3⟩, rfl, ⟨b1, b2, b3⟩⟩

theorem has_b3s {f : Nat} {y : D} (h : HasT Try.prog (f + 4) 124 y) : ∃ l : List B3, y = .sl (l.map B3.d) ∧ ∀ p ∈ l, p.Ok := by
  unfold HasT at h
  rw [Try.underlying124] at h
  obtain ⟨l, rfl, _, hl⟩ := h
  obtain ⟨ss, rfl⟩ := has_list (enc := fun n : {n : B3 // n.Ok} => n.1.d) (fun y hy => by obtain ⟨n, rfl, hn⟩ := has_b3 hy; exact ⟨⟨n, hn⟩, rfl⟩) l hl
  refine ⟨ss.map Subtype.val, by simp, fun n hn => ?_⟩
  obtain ⟨x, _, rfl⟩ := List.mem_map.1 hn
  exact x.2

theorem has_b4 {f : Nat} {y : D} (h : HasT Try.prog (f + 3) 114 y) : ∃ s : B4, y = s.d ∧ s.Ok := by
  unfold HasT at h
  rw [Try.underlying114] at h
  obtain ⟨l, rfl, h⟩ := h
  simp only [HasN] at h
  obtain ⟨y1, r1, rfl, h1, y2, r2, rfl, h2, y3, r3, rfl, h3, y4, r4, rfl, h4, rfl⟩ := h
  obtain ⟨n1, rfl, b1⟩ := has_u8 h1
  obtain ⟨n2, rfl, b2⟩ := has_u8 h2
  obtain ⟨n3, rfl, b3⟩ := has_u8 h3
  obtain ⟨n4, rfl, b4⟩ := has_u8 h4
  exact ⟨⟨n1, n2, n3, n4⟩, rfl, ⟨b1, b2, b3, b4⟩⟩
end Go.Aw
end

section
set_option maxRecDepth 100000
namespace Go.Aw
open Go Go.Proofs.Try

structure Vat where
  s : B3
  plates : List B4

def Vat.d (x : Vat) : D := .agg [.int .u8 x.s.a, .int .u8 x.s.b, .int .u8 x.s.c, .sl (x.plates.map B4.d)]

structure Vat.Ok (x : Vat) : Prop where
  s : x.s.Ok
  p : ∀ v ∈ x.plates, v.Ok

def plateOf (v : B4) : Plate := ⟨⟨max 0 (v.a - v.b % 16), v.a + v.b / 16⟩, v.c % 4, v.e⟩

def Vat.low (x : Vat) : Int := 3 + x.s.a % 25
def Vat.bath (x : Vat) : Bath := ⟨⟨x.low, x.low + x.s.b % 6⟩, (x.plates.take 4).map plateOf⟩
def Vat.str (x : Vat) : Int := x.low + x.s.c % (x.s.b % 6 + 1)
def Vat.rusts (x : Vat) : List Int := (x.plates.take 4).map B4.a

theorem Vat.bathOk {x : Vat} (hx : x.Ok) : x.bath.Ok := by
  have h1 := hx.s.a
  have h2 := hx.s.b
  simp only [Byte] at h1 h2
  refine ⟨by simp only [Vat.bath, Vat.low]; omega, by simp only [Vat.bath]; omega, by simp only [Vat.bath, Vat.low]; omega, by simp [Vat.bath]; omega, fun p hp => ?_⟩
  obtain ⟨v, hv, rfl⟩ := List.mem_map.1 hp
  have k := hx.p v (List.mem_of_mem_take hv)
  have k1 := k.a
  have k2 := k.b
  have k3 := k.c
  have k4 := k.e
  simp only [Byte] at k1 k2 k3 k4
  simp only [Plate.Ok, plateOf]
  omega

theorem c58 {x : Vat} (hx : x.Ok) : PC prog 58 [.d x.d] (.tup [.d x.bath.d, .d (.int .i64 x.str), .d (.sl (x.rusts.map (.int .i64)))]) := by
  refine PC.run (fun k => k == 27 || k == 41) tt_ok (fn := f58) (rs := [.cell 2 26, .tmp 3, .tmp 4]) rfl rfl rfl rfl rfl rfl rfl ?_
  have h1 := hx.s.a
  have h2 := hx.s.b
  have h3 := hx.s.c
  have e1 := byte_conv h1
  have e2 := byte_conv h2
  have e3 := byte_conv h3
  simp only [Byte] at h1 h2 h3
  have m1 : x.s.a.tmod 25 = x.s.a % 25 := Int.tmod_eq_emod_of_nonneg h1.1
  have m2 : x.s.b.tmod 6 = x.s.b % 6 := Int.tmod_eq_emod_of_nonneg h2.1
  have z25 : (25 : Int) ≠ 0 := by omega
  have z6 : (6 : Int) ≠ 0 := by omega
  have w1 : IntKind.i64.wrap (3 + x.s.a % 25) = x.low := w64 (by omega) (by omega)
  have hlow : x.low = 3 + x.s.a % 25 := rfl
  have w2 : IntKind.i64.wrap (x.low + x.s.b % 6) = x.low + x.s.b % 6 := w64 (by omega) (by omega)
  simp only [go_sem, Nat.reduceBEq, Nat.reduceEqDiff, Nat.reduceLT, Nat.reduceLeDiff, Nat.reduceAdd, Nat.reduceSub, Nat.reduceMul, reduceCtorEq, Int.reduceToNat, Int.reduceEq, Int.reduceLT, Int.reduceLE, Int.reduceNe, Int.reduceNeg, Vat.d, e1, e2, e3, m1, m2, remO_ne z25, remO_ne z6, w1, w2]
  refine (c26 x.low (x.low + x.s.b % 6)).call rfl rfl rfl ?_
  have w3 : IntKind.i64.wrap (x.low + x.s.b % 6 - x.low) = x.s.b % 6 := by rw [w64 (by omega) (by omega)]; omega
  have w4 : IntKind.i64.wrap (x.s.b % 6 + 1) = x.s.b % 6 + 1 := w64 (by omega) (by omega)
  have zb : x.s.b % 6 + 1 ≠ 0 := by omega
  have m3 : x.s.c.tmod (x.s.b % 6 + 1) = x.s.c % (x.s.b % 6 + 1) := Int.tmod_eq_emod_of_nonneg h3.1
  have hm := Int.emod_lt_of_pos x.s.c (show 0 < x.s.b % 6 + 1 by omega)
  have hm0 := Int.emod_nonneg x.s.c zb
  have w5 : IntKind.i64.wrap (x.low + x.s.c % (x.s.b % 6 + 1)) = x.str := w64 (by omega) (by omega)
  simp only [go_sem, Nat.reduceBEq, Nat.reduceEqDiff, Nat.reduceLT, Nat.reduceLeDiff, Nat.reduceAdd, Nat.reduceSub, Nat.reduceMul, reduceCtorEq, Int.reduceToNat, Int.reduceEq, Int.reduceLT, Int.reduceLE, Int.reduceNe, Int.reduceNeg, Vat.d, e1, e2, e3, m1, m2, m3, remO_ne z25, remO_ne z6, remO_ne zb, w1, w2, w3, w4, w5, Sp.d]
  change AWP _ _ _ _ _ _ _ _
  refine AWP.nilrow 2 2 4 rfl rfl (Nat.zero_le _) ?_
  refine ALoop.by (S := Nat) (fun i => [(9, .d (.int .i64 i)), (8, .ref 3 i 0 i), (7, .d (.int .i64 x.str)), (6, .ptr 2 0), (2, .ptr 1 0), (1, .ptr 0 0)])
    (fun i => [.cells [.d (.int .u8 x.s.a), .d (.int .u8 x.s.b), .d (.int .u8 x.s.c), .d (.sl (x.plates.map B4.d))], .cells [.d (.int .i64 0), .d (.int .i64 0), .d (.sl [])],
      .cells [.d (.int .i64 x.low), .d (.int .i64 (x.low + x.s.b % 6)), .ref 4 i 0 i], .arr 1 false (((x.plates.take i).map B4.a).map (.int .i64)), .arr 4 (decide (i = 0)) (((x.plates.take i).map plateOf).map Plate.d)])
    (fun i => 4 - i) (fun i => i ≤ x.plates.length ∧ i ≤ 4) 0 (Nat.zero_le _) (fun _ h => nomatch h) ⟨Nat.zero_le _, by omega⟩ ?_ ?_
  · exact ForgetTo.same' (Nat.zero_le _) (by simp [EWe, Env.look]) (by simp)
  rintro i ⟨hi, hi4⟩ hn
  have hlen : (x.plates.take i).length = i := by simp; omega
  have FIN : (x.plates.take i) = x.plates.take 4 → (Vat.bath x).plates = (x.plates.take i).map plateOf ∧ x.rusts = (x.plates.take i).map B4.a := fun h => by rw [h]; exact ⟨rfl, rfl⟩
  refine AWP.run (fun k => k == 27 || k == 41) tt_ok (fun _ h => nomatch h) (Nat.zero_le _) rfl ?_
  simp only [go_sem, Nat.reduceBEq, Nat.reduceEqDiff, Nat.reduceLT, Nat.reduceLeDiff, Nat.reduceAdd, Nat.reduceSub, Nat.reduceMul, reduceCtorEq, Int.reduceToNat, Int.reduceEq, Int.reduceLT, Int.reduceLE, Int.reduceNe, Int.reduceNeg]
  refine Br_split (fun hd => ?_) (fun hd => ?_) <;> simp only [go_sem, Nat.reduceBEq, Nat.reduceEqDiff, Nat.reduceLT, Nat.reduceLeDiff, Nat.reduceAdd, Nat.reduceSub, Nat.reduceMul, reduceCtorEq, Int.reduceToNat, Int.reduceEq, Int.reduceLT, Int.reduceLE, Int.reduceNe, Int.reduceNeg, hd]
  · have hlt : i < x.plates.length := by simpa using hd
    refine Br_split (fun hd2 => ?_) (fun hd2 => ?_) <;> simp only [go_sem, Nat.reduceBEq, Nat.reduceEqDiff, Nat.reduceLT, Nat.reduceLeDiff, Nat.reduceAdd, Nat.reduceSub, Nat.reduceMul, reduceCtorEq, Int.reduceToNat, Int.reduceEq, Int.reduceLT, Int.reduceLE, Int.reduceNe, Int.reduceNeg, hd, hd2]
    · have hlt2 : i < 4 := by simp only [decide_eq_true_eq] at hd2; omega
      have hv := hx.p _ (List.getElem_mem hlt)
      have hix : idx? (x.plates.map B4.d) (i : Int) = some (x.plates[i]).d := by simp [idx?, List.getElem?_eq_getElem hlt]
      have hst : (x.plates.take (i + 1)) = x.plates.take i ++ [x.plates[i]] := List.take_succ_eq_append_getElem hlt
      generalize x.plates[i] = v at hv hix hst
      have b1 := hv.a
      have b2 := hv.b
      have b3 := hv.c
      have b4 := hv.e
      have f1 := byte_conv b1
      have f2 := byte_conv b2
      have f3 := byte_conv b3
      have f4 := byte_conv b4
      simp only [Byte] at b1 b2 b3 b4
      have z16 : (16 : Int) ≠ 0 := by omega
      have z4 : (4 : Int) ≠ 0 := by omega
      have n1 : v.b.tmod 16 = v.b % 16 := Int.tmod_eq_emod_of_nonneg b2.1
      have n2 : v.b.tdiv 16 = v.b / 16 := Int.tdiv_eq_ediv_of_nonneg b2.1
      have n3 : v.c.tmod 4 = v.c % 4 := Int.tmod_eq_emod_of_nonneg b3.1
      have v1 : IntKind.i64.wrap (v.a - v.b % 16) = v.a - v.b % 16 := w64 (by omega) (by omega)
      have v2 : IntKind.i64.wrap (v.b / 16) = v.b / 16 := w64 (by omega) (by omega)
      have v3 : IntKind.i64.wrap (v.a + v.b / 16) = v.a + v.b / 16 := w64 (by omega) (by omega)
      have l1 : (((x.plates.take i).map B4.a).map (D.int .i64)).length = i := by simp; omega
      have l2 : (((x.plates.take i).map plateOf).map Plate.d).length = i := by simp; omega
      have hi1 : i + 1 ≤ 4294967296 := by omega
      simp only [go_sem, Nat.reduceBEq, Nat.reduceEqDiff, Nat.reduceLT, Nat.reduceLeDiff, Nat.reduceAdd, Nat.reduceSub, Nat.reduceMul, reduceCtorEq, Int.reduceToNat, Int.reduceEq, Int.reduceLT, Int.reduceLE, Int.reduceNe, Int.reduceNeg, hix, B4.d, f1, l1, hlen, List.length_map, hi1]
      refine ADrw.treeG (fun k => k == 27 || k == 41) tt_ok (by kernel_rfl) (fun k => if k = 1 ∨ k = 4 ∨ k = 11 ∨ k = 17 ∨ k = 21 then some .L else if k = 25 ∨ k = 27 then some .W else some .S) (.ones [0, 1, 2, 3, 4, 5, 6, 7, 8, 9, 10, 11, 12, 13, 14, 15, 16, 17, 18, 19, 20, 21, 22, 23, 24, 25, 26, 27] .done) (Nat.zero_le _) (fun _ h => nomatch h) rfl rfl (by kernel_rfl) ?_
      simp only [go_sem, Nat.reduceBEq, Nat.reduceEqDiff, Nat.reduceLT, Nat.reduceLeDiff, Nat.reduceAdd, Nat.reduceSub, Nat.reduceMul, reduceCtorEq, Int.reduceToNat, Int.reduceEq, Int.reduceLT, Int.reduceLE, Int.reduceNe, Int.reduceNeg, f1, f2, f3, f4, n1, n2, n3, v1, v2, v3, remO_ne z16, quoO_ne z16, remO_ne z4]
      refine (c26 (max 0 (v.a - v.b % 16)) (v.a + v.b / 16)).callS rfl rfl rfl rfl rfl rfl ?_
      simp only [go_sem, Nat.reduceBEq, Nat.reduceEqDiff, Nat.reduceLT, Nat.reduceLeDiff, Nat.reduceAdd, Nat.reduceSub, Nat.reduceMul, reduceCtorEq, Int.reduceToNat, Int.reduceEq, Int.reduceLT, Int.reduceLE, Int.reduceNe, Int.reduceNeg, f1, f2, f3, f4, n1, n2, n3, v1, v2, v3, remO_ne z16, quoO_ne z16, remO_ne z4, Sp.d, l2, hlen, List.length_map, hi1]
      refine ⟨i + 1, ⟨hlt, hlt2⟩, by omega, ?_⟩
      refine ForgetTo.drop (H0 := [_, _, _, _, _]) (Y := [_]) (Nat.zero_le _) ?_ (by simp [BBs, BB, VBs, VB]) ?_
      · rw [hst]; simp [plateOf, Plate.d]
      · simp [EWp, Env.look, pubV, w64 (n := (i : Int) + 1) (by omega) (by omega)]
    · have hie : i = 4 := by simp only [decide_eq_false_iff_not] at hd2; omega
      obtain ⟨p1, p2⟩ := FIN (by rw [hie])
      generalize x.plates.take i = L at hlen p1 p2
      have t1 : (((L.map plateOf).map Plate.d)).take i = (L.map plateOf).map Plate.d := List.take_of_length_le (by simp [hlen])
      have t2 : (((L.map B4.a).map (D.int .i64))).take i = (L.map B4.a).map (D.int .i64) := List.take_of_length_le (by simp [hlen])
      have hbd : x.bath.d = .agg [.int .i64 x.low, .int .i64 (x.low + x.s.b % 6), .sl ((L.map plateOf).map Plate.d)] := by rw [← p1]; rfl
      rw [hbd, p2]
      simp only [go_sem, Nat.reduceBEq, Nat.reduceEqDiff, Nat.reduceLT, Nat.reduceLeDiff, Nat.reduceAdd, Nat.reduceSub, Nat.reduceMul, reduceCtorEq, Int.reduceToNat, Int.reduceEq, Int.reduceLT, Int.reduceLE, Int.reduceNe, Int.reduceNeg, hlen, t1, t2, List.length_map]
  · have hie : i = x.plates.length := by simp at hd; omega
    obtain ⟨p1, p2⟩ := FIN (by rw [hie, List.take_length, List.take_of_length_le (by omega)])
    generalize x.plates.take i = L at hlen p1 p2
    have t1 : (((L.map plateOf).map Plate.d)).take i = (L.map plateOf).map Plate.d := List.take_of_length_le (by simp [hlen])
    have t2 : (((L.map B4.a).map (D.int .i64))).take i = (L.map B4.a).map (D.int .i64) := List.take_of_length_le (by simp [hlen])
    have hbd : x.bath.d = .agg [.int .i64 x.low, .int .i64 (x.low + x.s.b % 6), .sl ((L.map plateOf).map Plate.d)] := by rw [← p1]; rfl
    rw [hbd, p2]
    simp only [go_sem, Nat.reduceBEq, Nat.reduceEqDiff, Nat.reduceLT, Nat.reduceLeDiff, Nat.reduceAdd, Nat.reduceSub, Nat.reduceMul, reduceCtorEq, Int.reduceToNat, Int.reduceEq, Int.reduceLT, Int.reduceLE, Int.reduceNe, Int.reduceNeg, hlen, t1, t2, List.length_map]
end Go.Aw
end

section
set_option maxRecDepth 100000
namespace Go.Aw
open Go Go.Proofs.Try

theorem c60 (b : Bath) (hb : b.plates.length ≤ 4294967295) : PC prog 60 [.d b.d] (.d b.d) := by
  refine PC.run (fun _ => false) tt_ok (fn := f60) (rs := [.cell 2 26]) rfl rfl rfl rfl rfl rfl rfl ?_
  have hsz := sized_plates b.plates
  have hle : b.plates.length ≤ 4294967296 := by omega
  simp only [go_sem, Nat.reduceBEq, Nat.reduceEqDiff, Nat.reduceLT, Nat.reduceLeDiff, Nat.reduceAdd, Nat.reduceSub, Nat.reduceMul, reduceCtorEq, Int.reduceToNat, Int.reduceEq, Int.reduceLT, Int.reduceLE, Int.reduceNe, Int.reduceNeg, Bath.d, hsz, hle, List.length_map, List.nil_append, Nat.zero_add]

theorem c63 (l : List Int) (n : Int) (hl : l.length ≤ 4294967296) : PC prog 63 [.d (.sl (l.map (.int .i64))), .d (.int .i64 n)] (.d (.bool (decide (n ∈ l)))) := by
  refine PC.run (fun _ => false) tt_ok (fn := f63) (rs := [.tmp 4]) rfl rfl rfl rfl rfl rfl rfl ?_
  simp only [go_sem, Nat.reduceBEq, Nat.reduceEqDiff, Nat.reduceLT, Nat.reduceLeDiff, Nat.reduceAdd, Nat.reduceSub, Nat.reduceMul, reduceCtorEq, Int.reduceToNat, Int.reduceEq, Int.reduceLT, Int.reduceLE, Int.reduceNe, Int.reduceNeg]
  refine ALoop.by (S := Nat) (fun i => [(5, .d (.int .i64 i)), (1, .d (.int .i64 n)), (0, .d (.sl (l.map (.int .i64))))]) (fun i => []) (fun i => l.length - i) (fun i => i ≤ l.length ∧ n ∉ l.take i) 0 (by simp) (fun _ h => nomatch h) ⟨Nat.zero_le _, by simp⟩ ?_ ?_
  · exact ForgetTo.same' (by simp) (by simp [EWe, Env.look]) rfl
  rintro i ⟨hi, hx⟩ hn
  refine AWP.run (fun _ => false) tt_ok (fun _ h => nomatch h) (by simp) rfl ?_
  simp only [go_sem, Nat.reduceBEq, Nat.reduceEqDiff, Nat.reduceLT, Nat.reduceLeDiff, Nat.reduceAdd, Nat.reduceSub, Nat.reduceMul, reduceCtorEq, Int.reduceToNat, Int.reduceEq, Int.reduceLT, Int.reduceLE, Int.reduceNe, Int.reduceNeg]
  refine Br_split (fun hd => ?_) (fun hd => ?_) <;> simp only [go_sem, Nat.reduceBEq, Nat.reduceEqDiff, Nat.reduceLT, Nat.reduceLeDiff, Nat.reduceAdd, Nat.reduceSub, Nat.reduceMul, reduceCtorEq, Int.reduceToNat, Int.reduceEq, Int.reduceLT, Int.reduceLE, Int.reduceNe, Int.reduceNeg, hd]
  · have hlt : i < l.length := by simpa using hd
    simp only [go_sem, Nat.reduceBEq, Nat.reduceEqDiff, Nat.reduceLT, Nat.reduceLeDiff, Nat.reduceAdd, Nat.reduceSub, Nat.reduceMul, reduceCtorEq, Int.reduceToNat, Int.reduceEq, Int.reduceLT, Int.reduceLE, Int.reduceNe, Int.reduceNeg, idx_nat, List.getElem?_map, List.getElem?_eq_getElem hlt]
    have hin := List.getElem_mem hlt
    have hst : l.take (i + 1) = l.take i ++ [l[i]] := List.take_succ_eq_append_getElem hlt
    generalize l[i] = x at hin hst
    refine Br_split (fun he => ?_) (fun he => ?_) <;> simp only [go_sem, Nat.reduceBEq, Nat.reduceEqDiff, Nat.reduceLT, Nat.reduceLeDiff, Nat.reduceAdd, Nat.reduceSub, Nat.reduceMul, reduceCtorEq, Int.reduceToNat, Int.reduceEq, Int.reduceLT, Int.reduceLE, Int.reduceNe, Int.reduceNeg, he]
    · have : x = n := by simpa using he
      subst this
      simp [hin]
    · have hne : ¬ n = x := fun e => by subst e; simp at he
      refine ⟨i + 1, ⟨hlt, by rw [hst]; simp [hx, hne]⟩, by omega, ?_⟩
      exact ForgetTo.same' (by simp) (by simp [EWe, Env.look, w64 (n := (i : Int) + 1) (by omega) (by omega)]) rfl
  · have hie : i = l.length := by simp at hd; omega
    subst hie
    rw [List.take_length] at hx
    simp [hx]

/-- How a plate truly comes out. -/
def trueHow (b : Bath) (rusts : List Int) (str : Int) (s : Step) : Int :=
  howP ⟨⟨0, 0⟩, 0, (b.pl s.plate).thin⟩ (rusts.getD s.plate.toNat 0) (str * s.hours)

/-- How plates truly come out, and how strong the acid is in the end. -/
def comesR (b : Bath) (rusts : List Int) : List Step → Int → List Int × Int
  | [], str => ([], str)
  | s :: r, str => (trueHow b rusts str s :: (comesR b rusts r (max 0 (str - (b.pl s.plate).takes))).1, (comesR b rusts r (max 0 (str - (b.pl s.plate).takes))).2)

theorem comesR_len (b : Bath) (rusts : List Int) : ∀ (l : List Step) (str : Int), (comesR b rusts l str).1.length = l.length
  | [], _ => rfl
  | s :: r, str => by simp [comesR, comesR_len b rusts r]

theorem comesR_weak (b : Bath) (rusts : List Int) : ∀ (l : List Step) (str : Int), (comesR b rusts l str).2 = weakF b (platesOf l) str
  | [], _ => rfl
  | s :: r, str => by
    simp only [comesR, platesOf, List.map_cons]
    rw [comesR_weak b rusts r]
    rfl

theorem comesR_append (b : Bath) (rusts : List Int) : ∀ (l : List Step) (s : Step) (str : Int), comesR b rusts (l ++ [s]) str = ((comesR b rusts l str).1 ++ [trueHow b rusts (comesR b rusts l str).2 s], max 0 ((comesR b rusts l str).2 - (b.pl s.plate).takes))
  | [], s, str => rfl
  | x :: r, s, str => by
    simp only [List.cons_append, comesR]
    rw [comesR_append b rusts r]

theorem c61 {b : Bath} (hok : b.Ok) (l : List Step) (str : Int) (rusts : List Int) (hl : l.length ≤ 1000) (hs : 0 ≤ str ∧ str ≤ 40) (hr : rusts.length = b.plates.length) (hrb : ∀ r ∈ rusts, 0 ≤ r ∧ r ≤ 600)
    (hm : ∀ x ∈ l, (0 ≤ x.plate ∧ x.plate < b.plates.length) ∧ 1 ≤ x.hours ∧ x.hours ≤ 24) :
    PC prog 61 [.d b.d, .d (.sl (l.map Step.d)), .d (.int .i64 str), .d (.sl (rusts.map (.int .i64)))] (.tup [.d (.sl ((comesR b rusts l str).1.map (.int .i64))), .d (.int .i64 (comesR b rusts l str).2)]) := by
  refine PC.run (fun k => k == 15) tt_ok (fn := f61) (rs := [.tmp 8, .tmp 9]) rfl rfl rfl rfl rfl rfl rfl ?_
  simp only [go_sem, Nat.reduceBEq, Nat.reduceEqDiff, Nat.reduceLT, Nat.reduceLeDiff, Nat.reduceAdd, Nat.reduceSub, Nat.reduceMul, reduceCtorEq, Int.reduceToNat, Int.reduceEq, Int.reduceLT, Int.reduceLE, Int.reduceNe, Int.reduceNeg, Bath.d]
  refine ALoop.by (S := Nat) (fun i => [(11, .d (.int .i64 i)), (10, .ref 1 i 0 i), (4, .ptr 0 0), (3, .d (.sl (rusts.map (.int .i64)))), (2, .d (.int .i64 (comesR b rusts (l.take i) str).2)), (1, .d (.sl (l.map Step.d)))])
    (fun i => [bthB b, .arr 1 false ((comesR b rusts (l.take i) str).1.map (.int .i64))]) (fun i => l.length - i) (fun i => i ≤ l.length) 0 (by simp) (fun _ h => nomatch h) (Nat.zero_le _) ?_ ?_
  · exact ForgetTo.same' (by simp) (by simp [EWe, Env.look, comesR]) (by simp [bthB, comesR])
  rintro i hi hn
  have hcl := comesR_len b rusts (l.take i) str
  have hlen : (l.take i).length = i := by simp; omega
  rw [hlen] at hcl
  refine AWP.run (fun k => k == 15) tt_ok (fun _ h => nomatch h) (by simp) rfl ?_
  simp only [go_sem, Nat.reduceBEq, Nat.reduceEqDiff, Nat.reduceLT, Nat.reduceLeDiff, Nat.reduceAdd, Nat.reduceSub, Nat.reduceMul, reduceCtorEq, Int.reduceToNat, Int.reduceEq, Int.reduceLT, Int.reduceLE, Int.reduceNe, Int.reduceNeg, bthB]
  refine Br_split (fun hd => ?_) (fun hd => ?_) <;> simp only [go_sem, Nat.reduceBEq, Nat.reduceEqDiff, Nat.reduceLT, Nat.reduceLeDiff, Nat.reduceAdd, Nat.reduceSub, Nat.reduceMul, reduceCtorEq, Int.reduceToNat, Int.reduceEq, Int.reduceLT, Int.reduceLE, Int.reduceNe, Int.reduceNeg, hd]
  · have hlt : i < l.length := by simpa using hd
    obtain ⟨m1, m2⟩ := hm _ (List.getElem_mem hlt)
    have hix : idx? (l.map Step.d) (i : Int) = some (l[i]).d := by simp [idx?, List.getElem?_eq_getElem hlt]
    have hst : comesR b rusts (l.take (i + 1)) str = ((comesR b rusts (l.take i) str).1 ++ [trueHow b rusts (comesR b rusts (l.take i) str).2 l[i]], max 0 ((comesR b rusts (l.take i) str).2 - (b.pl l[i].plate).takes)) := by
      rw [List.take_succ_eq_append_getElem hlt, comesR_append]
    have hwk := comesR_weak b rusts (l.take i) str
    have hwb := weakF_bnd hok (platesOf (l.take i)) str hs.1 hs.2
    rw [← hwk] at hwb
    generalize l[i] = s at m1 m2 hix hst
    have hat := Bath.at (b := b) m1
    have hpl := hok.pl s.plate
    simp only [Plate.Ok] at hpl
    obtain ⟨q, hq⟩ : ∃ q : Nat, s.plate = q := ⟨s.plate.toNat, by omega⟩
    have hqr : q < rusts.length := by omega
    have hrx : idx? (rusts.map (D.int .i64)) s.plate = some (.int .i64 (rusts.getD s.plate.toNat 0)) := by
      rw [hq, idx_nat, List.getElem?_map, List.getElem?_eq_getElem hqr, Int.toNat_natCast, List.getD_eq_getElem?_getD, List.getElem?_eq_getElem hqr]; rfl
    have hrb2 : 0 ≤ rusts.getD s.plate.toNat 0 ∧ rusts.getD s.plate.toNat 0 ≤ 600 := by
      rw [hq, Int.toNat_natCast, List.getD_eq_getElem?_getD, List.getElem?_eq_getElem hqr]
      exact hrb _ (List.getElem_mem hqr)
    simp only [trueHow] at hst
    generalize rusts.getD s.plate.toNat 0 = ru at hst hrx hrb2
    generalize (comesR b rusts (l.take i) str).2 = st at hst hwb
    generalize b.pl s.plate = p at hat hpl hst
    have hmul : 0 ≤ st * s.hours ∧ st * s.hours ≤ 960 := by
      refine ⟨Int.mul_nonneg hwb.1 (by omega), ?_⟩
      have := Int.mul_le_mul hwb.2 m2.2 (by omega) (by omega : (0 : Int) ≤ 40)
      omega
    have hwm : IntKind.i64.wrap (st * s.hours) = st * s.hours := w64 (by omega) (by omega)
    have hwt : IntKind.i64.wrap (ru + p.thin) = ru + p.thin := w64 (by omega) (by omega)
    have hws : IntKind.i64.wrap (st - p.takes) = st - p.takes := w64 (by omega) (by omega)
    have hnx : IntKind.i64.wrap ((i : Int) + 1) = ((i + 1 : Nat) : Int) := w64 (by omega) (by omega)
    have hi1 : i + 1 ≤ 4294967296 := by omega
    simp only [go_sem, Nat.reduceBEq, Nat.reduceEqDiff, Nat.reduceLT, Nat.reduceLeDiff, Nat.reduceAdd, Nat.reduceSub, Nat.reduceMul, reduceCtorEq, Int.reduceToNat, Int.reduceEq, Int.reduceLT, Int.reduceLE, Int.reduceNe, Int.reduceNeg, hix, Step.d, hwm, hrx]
    generalize st * s.hours = loses at hst
    have hcl1 : ((comesR b rusts (l.take i) str).1.map (D.int .i64)).length = i := by simp [hcl]
    refine Br_split (fun h1 => ?_) (fun h1 => ?_) <;> simp only [go_sem, Nat.reduceBEq, Nat.reduceEqDiff, Nat.reduceLT, Nat.reduceLeDiff, Nat.reduceAdd, Nat.reduceSub, Nat.reduceMul, reduceCtorEq, Int.reduceToNat, Int.reduceEq, Int.reduceLT, Int.reduceLE, Int.reduceNe, Int.reduceNeg, h1]
    all_goals
      refine ADrw.treeG (fun k => k == 15) tt_ok (by kernel_rfl) (fun k => if k = 6 then some .L else some .S) (.ones [0, 1, 2, 3, 4, 5, 6, 7, 8, 9, 10, 11, 12] .done) (by simp) (fun _ h => nomatch h) rfl rfl (by kernel_rfl) ?_
      simp only [go_sem, Nat.reduceBEq, Nat.reduceEqDiff, Nat.reduceLT, Nat.reduceLeDiff, Nat.reduceAdd, Nat.reduceSub, Nat.reduceMul, reduceCtorEq, Int.reduceToNat, Int.reduceEq, Int.reduceLT, Int.reduceLE, Int.reduceNe, Int.reduceNeg, hrx, hat, Plate.d, hwt]
      refine Br_split (fun h2 => ?_) (fun h2 => ?_) <;> simp only [go_sem, Nat.reduceBEq, Nat.reduceEqDiff, Nat.reduceLT, Nat.reduceLeDiff, Nat.reduceAdd, Nat.reduceSub, Nat.reduceMul, reduceCtorEq, Int.reduceToNat, Int.reduceEq, Int.reduceLT, Int.reduceLE, Int.reduceNe, Int.reduceNeg, h1, h2]
    all_goals
      simp only [decide_eq_true_eq, decide_eq_false_iff_not] at h1 h2
      refine ADrw.treeG (fun k => k == 15) tt_ok (by kernel_rfl) (fun k => if k = 6 then some .L else if k = 3 then some .W else some .S) (.ones [0, 1, 2, 4, 5, 7] (.two 3 (.ones [6, 8, 9, 10, 11, 12, 13, 14] .done) 6 (.ones [3, 8, 9, 10, 11, 12, 13, 14] .done))) (by simp) (fun _ h => nomatch h) rfl rfl (by kernel_rfl) ?_
      simp only [go_sem, Nat.reduceBEq, Nat.reduceEqDiff, Nat.reduceLT, Nat.reduceLeDiff, Nat.reduceAdd, Nat.reduceSub, Nat.reduceMul, reduceCtorEq, Int.reduceToNat, Int.reduceEq, Int.reduceLT, Int.reduceLE, Int.reduceNe, Int.reduceNeg, hat, Plate.d, hws, hcl1, hcl, hi1, List.length_map]
      repeat' refine And.intro ?_ ?_
      all_goals
        first
        | (exfalso; omega)
        | (refine ⟨i + 1, hlt, by omega, ?_⟩
           refine ForgetTo.same' (by simp) (by simp [EWe, Env.look, hst, hnx]) ?_
           rw [hst]
           simp [bthB, howP, h1, h2]
           done)
  · have hie : i = l.length := by simp at hd; omega
    subst hie
    rw [List.take_length] at hcl ⊢
    have t1 : ((comesR b rusts l str).1.map (D.int .i64)).take l.length = (comesR b rusts l str).1.map (D.int .i64) := List.take_of_length_le (by simp [hcl])
    simp only [go_sem, Nat.reduceBEq, Nat.reduceEqDiff, Nat.reduceLT, Nat.reduceLeDiff, Nat.reduceAdd, Nat.reduceSub, Nat.reduceMul, reduceCtorEq, Int.reduceToNat, Int.reduceEq, Int.reduceLT, Int.reduceLE, Int.reduceNe, Int.reduceNeg, hcl, t1, List.length_map]
end Go.Aw
end

section
set_option maxRecDepth 100000
namespace Go.Aw
open Go Go.Proofs.Try

structure B2 where
  a : Int
  b : Int
deriving DecidableEq

def B2.d (s : B2) : D := .agg [.int .u8 s.a, .int .u8 s.b]

structure B2.Ok (s : B2) : Prop where
  a : Byte s.a
  b : Byte s.b

def stepV2 (n : Nat) (s : List Step) (v : B2) : List Step := if v.a % n ∈ platesOf s then s else s ++ [⟨v.a % n, 1 + v.b % 24⟩]

def stepsF (n : Nat) (l : List B2) : List Step := l.foldl (stepV2 n) []

def stepsB (b : Bath) (l : List B2) : List Step := if b.plates.length = 0 then [] else stepsF b.plates.length (l.take 5)

theorem stepsF_len (n : Nat) (l : List B2) : (stepsF n l).length ≤ l.length := by
  have : ∀ (l : List B2) (s : List Step), (l.foldl (stepV2 n) s).length ≤ s.length + l.length := by
    intro l
    induction l with
    | nil => intro s; simp
    | cons v r ih =>
      intro s
      have h1 := ih (stepV2 n s v)
      have h2 : (stepV2 n s v).length ≤ s.length + 1 := by unfold stepV2; split <;> simp
      simp only [List.foldl_cons, List.length_cons]
      omega
  simpa [stepsF] using this l []

theorem stepsOk_one {np : Nat} {l : List Step} (h : stepsOk np 0 l = true) {s : Step} (h1 : 0 ≤ s.plate ∧ s.plate < np) (h2 : 1 ≤ s.hours ∧ s.hours ≤ 24) (h3 : s.plate ∉ platesOf l) : stepsOk np 0 (l ++ [s]) = true := by
  have hm := stepsOk_more h s.plate
  rw [stepsOk_append, h, Bool.true_and] at hm ⊢
  have w1 : within 0 ((np : Int) - 1) [s.plate] = true := within_one.2 (by omega)
  have w2 : within 1 24 [s.hours] = true := within_one.2 h2
  have w3 : within 1 24 [(1 : Int)] = true := by decide
  have h3' : decide (s.plate ∈ platesOf l) = false := by simpa using h3
  have e1 : stepBad np (doneF 0 l) s = (doneF 0 l).testBit s.plate.toNat := by simp only [stepBad, w1, w2, Bool.not_true, Bool.false_or]
  have e2 : stepBad np (doneF 0 l) ⟨s.plate, 1⟩ = (doneF 0 l).testBit s.plate.toNat := by simp only [stepBad, w1, w3, Bool.not_true, Bool.false_or]
  have e3 : ∀ x : Step, stepsOk np (doneF 0 l) [x] = !stepBad np (doneF 0 l) x := fun x => by
    simp only [stepsOk]
    cases stepBad np (doneF 0 l) x <;> rfl
  rw [e3, e2, w1, h3'] at hm
  rw [e3, e1]
  simpa using hm

theorem stepsF_ok {n : Nat} (hn : 0 < n) (l : List B2) (hl : ∀ v ∈ l, v.Ok) : stepsOk n 0 (stepsF n l) = true := by
  have : ∀ (l : List B2) (s : List Step), (∀ v ∈ l, v.Ok) → stepsOk n 0 s = true → stepsOk n 0 (l.foldl (stepV2 n) s) = true := by
    intro l
    induction l with
    | nil => intro s _ h; exact h
    | cons v r ih =>
      intro s hv h
      refine ih _ (fun x hx => hv x (List.mem_cons_of_mem _ hx)) ?_
      unfold stepV2
      split
      · exact h
      · rename_i hp
        have h1 := (hv v List.mem_cons_self).a
        have h2 := (hv v List.mem_cons_self).b
        simp only [Byte] at h1 h2
        have e1 := Int.emod_nonneg v.a (show (n : Int) ≠ 0 by omega)
        have e2 := Int.emod_lt_of_pos v.a (show (0 : Int) < n by omega)
        exact stepsOk_one h ⟨e1, e2⟩ (by simp only; omega) hp
  exact this l [] hl rfl

theorem stepsB_ok {b : Bath} (l : List B2) (hl : ∀ v ∈ l, v.Ok) : stepsOk b.plates.length 0 (stepsB b l) = true := by
  unfold stepsB
  split
  · rfl
  · exact stepsF_ok (by omega) _ (fun v hv => hl v (List.mem_of_mem_take hv))

theorem stepsB_len (b : Bath) (l : List B2) : (stepsB b l).length ≤ 5 := by
  unfold stepsB
  split
  · simp
  · have := stepsF_len b.plates.length (l.take 5)
    have h2 := List.length_take_le 5 l
    omega

def doneB (s : List Step) : Blk := .cells [.d (.bool (decide ((0 : Int) ∈ platesOf s))), .d (.bool (decide ((1 : Int) ∈ platesOf s))), .d (.bool (decide ((2 : Int) ∈ platesOf s))), .d (.bool (decide ((3 : Int) ∈ platesOf s))), .d (.bool (decide ((4 : Int) ∈ platesOf s)))]

theorem c59 (b : Bath) (l : List B2) (hb : b.plates.length ≤ 5) (hl : ∀ v ∈ l, v.Ok) : PC prog 59 [.d b.d, .d (.sl (l.map B2.d))] (.d (.sl ((stepsB b l).map Step.d))) := by
  refine PC.run (fun k => k == 9) tt_ok (fn := f59) (rs := [.tmp 4]) rfl rfl rfl rfl rfl rfl rfl ?_
  simp only [go_sem, Nat.reduceBEq, Nat.reduceEqDiff, Nat.reduceLT, Nat.reduceLeDiff, Nat.reduceAdd, Nat.reduceSub, Nat.reduceMul, reduceCtorEq, Int.reduceToNat, Int.reduceEq, Int.reduceLT, Int.reduceLE, Int.reduceNe, Int.reduceNeg, Bath.d]
  refine ALoop.by (S := Nat) (fun i => [(7, .d (.int .i64 i)), (6, .ptr 2 0), (5, .ref 1 (stepsF b.plates.length (l.take i)).length 0 (stepsF b.plates.length (l.take i)).length), (2, .ptr 0 0), (1, .d (.sl (l.map B2.d)))])
    (fun i => [bthB b, .arr 2 false ((stepsF b.plates.length (l.take i)).map Step.d), doneB (stepsF b.plates.length (l.take i))]) (fun i => 5 - i) (fun i => i ≤ l.length ∧ i ≤ 5 ∧ (b.plates.length = 0 → i = 0)) 0 (Nat.zero_le _) (fun _ h => nomatch h) ⟨Nat.zero_le _, by omega, fun _ => rfl⟩ ?_ ?_
  · exact ForgetTo.same' (Nat.zero_le _) (by simp [EWe, Env.look, stepsF]) (by simp [bthB, doneB, stepsF, platesOf])
  rintro i ⟨hi, hi5, hi0⟩ hn
  have hsl := stepsF_len b.plates.length (l.take i)
  have hlen : (l.take i).length = i := by simp; omega
  rw [hlen] at hsl
  have FIN : stepsB b l = stepsF b.plates.length (l.take i) → ((stepsF b.plates.length (l.take i)).map Step.d).take (stepsF b.plates.length (l.take i)).length = (stepsB b l).map Step.d := fun h => by
    rw [h]; exact List.take_of_length_le (by simp)
  refine AWP.run (fun k => k == 9) tt_ok (fun _ h => nomatch h) (Nat.zero_le _) rfl ?_
  simp only [go_sem, Nat.reduceBEq, Nat.reduceEqDiff, Nat.reduceLT, Nat.reduceLeDiff, Nat.reduceAdd, Nat.reduceSub, Nat.reduceMul, reduceCtorEq, Int.reduceToNat, Int.reduceEq, Int.reduceLT, Int.reduceLE, Int.reduceNe, Int.reduceNeg, bthB, doneB]
  refine Br_split (fun hd => ?_) (fun hd => ?_) <;> simp only [go_sem, Nat.reduceBEq, Nat.reduceEqDiff, Nat.reduceLT, Nat.reduceLeDiff, Nat.reduceAdd, Nat.reduceSub, Nat.reduceMul, reduceCtorEq, Int.reduceToNat, Int.reduceEq, Int.reduceLT, Int.reduceLE, Int.reduceNe, Int.reduceNeg, hd]
  · have hlt : i < l.length := by simpa using hd
    refine Br_split (fun hd2 => ?_) (fun hd2 => ?_) <;> simp only [go_sem, Nat.reduceBEq, Nat.reduceEqDiff, Nat.reduceLT, Nat.reduceLeDiff, Nat.reduceAdd, Nat.reduceSub, Nat.reduceMul, reduceCtorEq, Int.reduceToNat, Int.reduceEq, Int.reduceLT, Int.reduceLE, Int.reduceNe, Int.reduceNeg, hd, hd2]
    · have hlt2 : i < 5 := by simp only [decide_eq_true_eq] at hd2; omega
      refine Br_split (fun hd3 => ?_) (fun hd3 => ?_) <;> simp only [go_sem, Nat.reduceBEq, Nat.reduceEqDiff, Nat.reduceLT, Nat.reduceLeDiff, Nat.reduceAdd, Nat.reduceSub, Nat.reduceMul, reduceCtorEq, Int.reduceToNat, Int.reduceEq, Int.reduceLT, Int.reduceLE, Int.reduceNe, Int.reduceNeg, hd, hd2, hd3]
      · have hn0 : 0 < b.plates.length := by simp only [decide_eq_true_eq] at hd3; omega
        have hv := hl _ (List.getElem_mem hlt)
        have hix : idx? (l.map B2.d) (i : Int) = some (l[i]).d := by simp [idx?, List.getElem?_eq_getElem hlt]
        have hst : stepsF b.plates.length (l.take (i + 1)) = stepV2 b.plates.length (stepsF b.plates.length (l.take i)) l[i] := by
          rw [stepsF, List.take_succ_eq_append_getElem hlt, List.foldl_append]; rfl
        generalize l[i] = v at hv hix hst
        have b1 := hv.a
        have b2 := hv.b
        have f1 := byte_conv b1
        have f2 := byte_conv b2
        simp only [Byte] at b1 b2
        have zn : (b.plates.length : Int) ≠ 0 := by omega
        have z24 : (24 : Int) ≠ 0 := by omega
        have n1 : v.a.tmod b.plates.length = v.a % b.plates.length := Int.tmod_eq_emod_of_nonneg b1.1
        have n2 : v.b.tmod 24 = v.b % 24 := Int.tmod_eq_emod_of_nonneg b2.1
        have e1 := Int.emod_nonneg v.a zn
        have e2 := Int.emod_lt_of_pos v.a (show (0 : Int) < b.plates.length by omega)
        have w1 : IntKind.i64.wrap (1 + v.b % 24) = 1 + v.b % 24 := w64 (by omega) (by omega)
        have hi1 : (stepsF b.plates.length (l.take i)).length + 1 ≤ 4294967296 := by omega
        have hnx : IntKind.i64.wrap ((i : Int) + 1) = ((i + 1 : Nat) : Int) := w64 (by omega) (by omega)
        unfold stepV2 at hst
        have hp : v.a % b.plates.length = 0 ∨ v.a % b.plates.length = 1 ∨ v.a % b.plates.length = 2 ∨ v.a % b.plates.length = 3 ∨ v.a % b.plates.length = 4 := by omega
        refine ADrw.treeG (fun k => k == 9) tt_ok (by kernel_rfl) (fun k => if k = 7 then some .L else some .S) (.ones [0, 1, 2, 3, 4, 5, 6, 7, 8, 9, 10] .done) (Nat.zero_le _) (fun _ h => nomatch h) rfl rfl (by kernel_rfl) ?_
        simp only [go_sem, Nat.reduceBEq, Nat.reduceEqDiff, Nat.reduceLT, Nat.reduceLeDiff, Nat.reduceAdd, Nat.reduceSub, Nat.reduceMul, reduceCtorEq, Int.reduceToNat, Int.reduceEq, Int.reduceLT, Int.reduceLE, Int.reduceNe, Int.reduceNeg, hix, B2.d, f1, n1, remO_ne zn]
        generalize stepsF b.plates.length (l.take i) = st at hst hsl hi1 FIN
        rcases hp with hp | hp | hp | hp | hp
        all_goals
          rw [hp] at hst
          simp only [go_sem, Nat.reduceBEq, Nat.reduceEqDiff, Nat.reduceLT, Nat.reduceLeDiff, Nat.reduceAdd, Nat.reduceSub, Nat.reduceMul, reduceCtorEq, Int.reduceToNat, Int.reduceEq, Int.reduceLT, Int.reduceLE, Int.reduceNe, Int.reduceNeg, hp]
          refine Br_split (fun h1 => ?_) (fun h1 => ?_) <;> simp only [go_sem, Nat.reduceBEq, Nat.reduceEqDiff, Nat.reduceLT, Nat.reduceLeDiff, Nat.reduceAdd, Nat.reduceSub, Nat.reduceMul, reduceCtorEq, Int.reduceToNat, Int.reduceEq, Int.reduceLT, Int.reduceLE, Int.reduceNe, Int.reduceNeg, h1]
        all_goals
          simp only [Bool.not_eq_true', Bool.not_eq_false', decide_eq_true_eq, decide_eq_false_iff_not] at h1
        all_goals
          first
          | (rw [if_pos h1] at hst
             refine ⟨i + 1, ⟨hlt, hlt2, fun h => absurd h (by omega)⟩, by omega, ?_⟩
             exact ForgetTo.same' (Nat.zero_le _) (by simp [EWe, Env.look, hst, hnx]) (by simp [bthB, doneB, hst])
             done)
          | (rw [if_neg h1] at hst
             simp only [go_sem, Nat.reduceBEq, Nat.reduceEqDiff, Nat.reduceLT, Nat.reduceLeDiff, Nat.reduceAdd, Nat.reduceSub, Nat.reduceMul, reduceCtorEq, Int.reduceToNat, Int.reduceEq, Int.reduceLT, Int.reduceLE, Int.reduceNe, Int.reduceNeg, hix, B2.d, f2, n2, remO_ne z24, w1]
             refine (c24 _ (1 + v.b % 24)).call rfl rfl rfl ?_
             simp only [go_sem, Nat.reduceBEq, Nat.reduceEqDiff, Nat.reduceLT, Nat.reduceLeDiff, Nat.reduceAdd, Nat.reduceSub, Nat.reduceMul, reduceCtorEq, Int.reduceToNat, Int.reduceEq, Int.reduceLT, Int.reduceLE, Int.reduceNe, Int.reduceNeg, hi1, List.length_map, Step.d]
             refine ⟨i + 1, ⟨hlt, hlt2, fun h => absurd h (by omega)⟩, by omega, ?_⟩
             exact ForgetTo.same' (Nat.zero_le _) (by simp [EWe, Env.look, hst, hnx]) (by simp [bthB, doneB, hst, platesOf, Step.d])
             done)
      · have hn0 : b.plates.length = 0 := by simp only [decide_eq_false_iff_not] at hd3; omega
        have hi00 := hi0 hn0
        have hf := FIN (by rw [stepsB, if_pos hn0, hi00]; rfl)
        simp only [go_sem, Nat.reduceBEq, Nat.reduceEqDiff, Nat.reduceLT, Nat.reduceLeDiff, Nat.reduceAdd, Nat.reduceSub, Nat.reduceMul, reduceCtorEq, Int.reduceToNat, Int.reduceEq, Int.reduceLT, Int.reduceLE, Int.reduceNe, Int.reduceNeg, hf, List.length_map]
    · have hie : i = 5 := by simp only [decide_eq_false_iff_not] at hd2; omega
      have hn0 : b.plates.length ≠ 0 := fun h => by have := hi0 h; omega
      have hf := FIN (by rw [stepsB, if_neg hn0, hie])
      simp only [go_sem, Nat.reduceBEq, Nat.reduceEqDiff, Nat.reduceLT, Nat.reduceLeDiff, Nat.reduceAdd, Nat.reduceSub, Nat.reduceMul, reduceCtorEq, Int.reduceToNat, Int.reduceEq, Int.reduceLT, Int.reduceLE, Int.reduceNe, Int.reduceNeg, hf, List.length_map]
  · have hie : i = l.length := by simp at hd; omega
    have hf := FIN (by
      rw [stepsB]
      split
      · rename_i h0; rw [hi0 h0]; rfl
      · rw [hie, List.take_length, List.take_of_length_le (by omega)])
    simp only [go_sem, Nat.reduceBEq, Nat.reduceEqDiff, Nat.reduceLT, Nat.reduceLeDiff, Nat.reduceAdd, Nat.reduceSub, Nat.reduceMul, reduceCtorEq, Int.reduceToNat, Int.reduceEq, Int.reduceLT, Int.reduceLE, Int.reduceNe, Int.reduceNeg, hf, List.length_map]
end Go.Aw
end

section
set_option maxRecDepth 100000
namespace Go.Aw
open Go Go.Proofs.Try

theorem stepsOk_ones {np : Nat} : ∀ {d : Nat} {l : List Step}, stepsOk np d l = true → stepsOk np d (ones (platesOf l)) = true
  | d, [], _ => rfl
  | d, x :: r, h => by
    simp only [stepsOk] at h
    split at h
    · cases h
    · rename_i hb
      have hb' : stepBad np d ⟨x.plate, 1⟩ = false := by
        have w3 : within 1 24 [(1 : Int)] = true := by decide
        simp only [stepBad, Bool.not_eq_true, Bool.or_eq_false_iff] at hb
        simp only [stepBad, w3, hb.1.1, hb.2]
        rfl
      have : ones (platesOf (x :: r)) = ⟨x.plate, 1⟩ :: ones (platesOf r) := rfl
      rw [this]
      simp only [stepsOk]
      rw [hb', if_neg (by simp)]
      exact stepsOk_ones h

theorem comesR_get (b : Bath) (rusts : List Int) : ∀ (l : List Step) (str : Int) (i : Nat) (h : i < l.length), (comesR b rusts l str).1[i]? = some (trueHow b rusts (comesR b rusts (l.take i) str).2 l[i])
  | [], _, i, h => by simp at h
  | s :: r, str, 0, _ => by simp [comesR]
  | s :: r, str, i + 1, h => by
    simp only [comesR, List.getElem?_cons_succ, List.take_succ_cons, List.getElem_cons_succ]
    exact comesR_get b rusts r _ i (by simpa using h)

theorem Vat.rust_in {x : Vat} (hx : x.Ok) {q : Nat} (hq : q < x.bath.plates.length) : (x.bath.pl q).rust.lo ≤ x.rusts.getD q 0 ∧ x.rusts.getD q 0 ≤ (x.bath.pl q).rust.hi := by
  have hq' : q < (x.plates.take 4).length := by simpa [Vat.bath] using hq
  have hm := hx.p _ (List.mem_of_mem_take (List.getElem_mem hq'))
  have e1 : x.bath.pl q = plateOf (x.plates.take 4)[q] := by
    simp only [Bath.pl, Int.toNat_natCast, Vat.bath, List.getD_eq_getElem?_getD, List.getElem?_map, List.getElem?_eq_getElem hq', Option.map_some, Option.getD_some]
  have e2 : x.rusts.getD q 0 = ((x.plates.take 4)[q]).a := by
    simp only [Vat.rusts, List.getD_eq_getElem?_getD, List.getElem?_map, List.getElem?_eq_getElem hq', Option.map_some, Option.getD_some]
  rw [e1, e2]
  have b1 := hm.a
  have b2 := hm.b
  simp only [Byte] at b1 b2
  simp only [plateOf]
  omega

theorem Vat.str_in {x : Vat} (hx : x.Ok) : x.bath.str.lo ≤ x.str ∧ x.str ≤ x.bath.str.hi := by
  have h2 := hx.s.b
  have h3 := hx.s.c
  simp only [Byte] at h2 h3
  have hz : x.s.b % 6 + 1 ≠ 0 := by omega
  have := Int.emod_nonneg x.s.c hz
  have := Int.emod_lt_of_pos x.s.c (show 0 < x.s.b % 6 + 1 by omega)
  simp only [Vat.bath, Vat.str]
  omega

theorem howP_thin {p q : Plate} (h : p.thin = q.thin) (r l : Int) : howP p r l = howP q r l := by simp only [howP, h]

/-- What is true is one of the ways. -/
theorem true_in {b : Bath} (hok : b.Ok) (before : List Int) (s : Step) (rusts : List Int) (str : Int) (hs : b.str.lo ≤ str ∧ str ≤ b.str.hi) (hp : 0 ≤ s.plate) (hr : (b.pl s.plate).rust.lo ≤ rusts.getD s.plate.toNat 0 ∧ rusts.getD s.plate.toNat 0 ≤ (b.pl s.plate).rust.hi) :
    trueHow b rusts (weakF b before str) s ∈ waysL b s (fellF b before) := by
  rw [ways_eq hok]
  have hin := howP_in ⟨⟨0, 0⟩, 0, (b.pl s.plate).thin⟩ (rusts.getD s.plate.toNat 0) (weakF b before str * s.hours)
  simp only [waysR, List.mem_filter]
  refine ⟨by simp only [trueHow, List.mem_cons]; omega, ?_⟩
  simp only [strW, List.any_eq_true, List.mem_range]
  refine ⟨(str - b.str.lo).toNat, by simp only [nS]; omega, ?_⟩
  rw [show b.str.lo + ((str - b.str.lo).toNat : Int) = str by omega]
  simp only [rowW, List.any_eq_true, List.mem_range, decide_eq_true_eq]
  refine ⟨(rusts.getD s.plate.toNat 0 - (b.pl s.plate).rust.lo).toNat, by simp only [nR]; omega, ?_⟩
  rw [show (b.pl s.plate).rust.lo + ((rusts.getD s.plate.toNat 0 - (b.pl s.plate).rust.lo).toNat : Int) = rusts.getD s.plate.toNat 0 by omega]
  exact howP_thin rfl _ _

theorem waysL_asc (b : Bath) (s : Step) (fell : Int) : (waysL b s fell).Pairwise (· < ·) := by
  unfold waysL
  exact List.Pairwise.filter _ (by simp)

theorem waysL_in {b : Bath} {s : Step} {fell h : Int} (hh : h ∈ waysL b s fell) : 1 ≤ h ∧ h ≤ 3 := by
  simp only [waysL, List.mem_filter, List.mem_cons, List.not_mem_nil, or_false] at hh
  omega

theorem waysL_len (b : Bath) (s : Step) (fell : Int) : (waysL b s fell).length ≤ 3 := by
  have := List.length_filter_le (fun h => (canM b s fell (nStr b)).contains h) ([1, 2, 3] : List Int)
  simpa [waysL] using this

theorem c10 {x : Vat} (hx : x.Ok) (l : List B2) (hl : ∀ v ∈ l, v.Ok) : PC prog 10 [.d x.d, .d (.sl (l.map B2.d))] (.d (.bool true)) := by
  have hok := Vat.bathOk hx
  obtain ⟨g1, g2⟩ := Vat.str_in hx
  have hri := fun q hq => Vat.rust_in hx (q := q) hq
  have hso := stepsB_ok (b := x.bath) l hl
  have hsl := stepsB_len x.bath l
  have hrl : x.rusts.length = x.bath.plates.length := by simp [Vat.rusts, Vat.bath]
  have hrb : ∀ r ∈ x.rusts, 0 ≤ r ∧ r ≤ 600 := fun r hr => by
    obtain ⟨v, hv, rfl⟩ := List.mem_map.1 hr
    have := (hx.p v (List.mem_of_mem_take hv)).a
    simp only [Byte] at this
    omega
  obtain ⟨s1, s2, s3, hb5, _⟩ := id hok
  refine PC.run (fun k => k == 35) tt_ok (fn := f10) (rs := [.tmp 4]) rfl rfl rfl rfl rfl rfl rfl ?_
  simp only [go_sem, Nat.reduceBEq, Nat.reduceEqDiff, Nat.reduceLT, Nat.reduceLeDiff, Nat.reduceAdd, Nat.reduceSub, Nat.reduceMul, reduceCtorEq, Int.reduceToNat, Int.reduceEq, Int.reduceLT, Int.reduceLE, Int.reduceNe, Int.reduceNeg, Vat.d]
  refine (c58 hx).call rfl rfl rfl ?_
  simp only [go_sem, Nat.reduceBEq, Nat.reduceEqDiff, Nat.reduceLT, Nat.reduceLeDiff, Nat.reduceAdd, Nat.reduceSub, Nat.reduceMul, reduceCtorEq, Int.reduceToNat, Int.reduceEq, Int.reduceLT, Int.reduceLE, Int.reduceNe, Int.reduceNeg]
  generalize x.bath = b at *
  generalize x.str = str at *
  generalize x.rusts = rusts at *
  simp only [go_sem, Nat.reduceBEq, Nat.reduceEqDiff, Nat.reduceLT, Nat.reduceLeDiff, Nat.reduceAdd, Nat.reduceSub, Nat.reduceMul, reduceCtorEq, Int.reduceToNat, Int.reduceEq, Int.reduceLT, Int.reduceLE, Int.reduceNe, Int.reduceNeg, Bath.d]
  refine (c59 b l hb5 hl).call rfl rfl rfl ?_
  simp only [go_sem, Nat.reduceBEq, Nat.reduceEqDiff, Nat.reduceLT, Nat.reduceLeDiff, Nat.reduceAdd, Nat.reduceSub, Nat.reduceMul, reduceCtorEq, Int.reduceToNat, Int.reduceEq, Int.reduceLT, Int.reduceLE, Int.reduceNe, Int.reduceNeg]
  generalize stepsB b l = all at *
  have hmem := stepsOk_mem hso
  have hpl : (platesOf all).length = all.length := by simp [platesOf]
  have hd0 : ∀ {α : Type} [DecidableEq α] (l : α), decide (l = l) = true := fun l => by simp
  refine ALoop.by (S := Nat) (fun i => [(10, .d (.int .i64 i)), (9, .ref 2 i 0 i), (8, .d (.sl (all.map Step.d))), (7, .d (.sl (rusts.map (.int .i64)))), (6, .d (.int .i64 str)), (5, .ptr 1 0)])
    (fun i => [.cells [.d (.int .u8 x.s.a), .d (.int .u8 x.s.b), .d (.int .u8 x.s.c), .d (.sl (x.plates.map B4.d))], bthB b, .arr 1 false ((platesOf (all.take i)).map (.int .i64))]) (fun i => all.length - i) (fun i => i ≤ all.length) 0 (Nat.zero_le _) (fun _ h => nomatch h) (Nat.zero_le _) ?_ ?_
  · exact ForgetTo.same' (Nat.zero_le _) (by simp [EWe, Env.look]) (by simp [bthB, platesOf])
  rintro i hi hn
  refine AWP.run (fun k => k == 35) tt_ok (fun _ h => nomatch h) (Nat.zero_le _) rfl ?_
  simp only [go_sem, Nat.reduceBEq, Nat.reduceEqDiff, Nat.reduceLT, Nat.reduceLeDiff, Nat.reduceAdd, Nat.reduceSub, Nat.reduceMul, reduceCtorEq, Int.reduceToNat, Int.reduceEq, Int.reduceLT, Int.reduceLE, Int.reduceNe, Int.reduceNeg, bthB]
  refine Br_split (fun hd => ?_) (fun hd => ?_) <;> simp only [go_sem, Nat.reduceBEq, Nat.reduceEqDiff, Nat.reduceLT, Nat.reduceLeDiff, Nat.reduceAdd, Nat.reduceSub, Nat.reduceMul, reduceCtorEq, Int.reduceToNat, Int.reduceEq, Int.reduceLT, Int.reduceLE, Int.reduceNe, Int.reduceNeg, hd]
  · have hlt : i < all.length := by simpa using hd
    have hix : idx? (all.map Step.d) (i : Int) = some (all[i]).d := by simp [idx?, List.getElem?_eq_getElem hlt]
    have hst : (platesOf (all.take (i + 1))).map (D.int .i64) = (platesOf (all.take i)).map (D.int .i64) ++ [.int .i64 all[i].plate] := by
      rw [List.take_add_one, List.getElem?_eq_getElem hlt]; simp only [platesOf, List.map_append, Option.toList_some, List.map_cons, List.map_nil]
    have hln : ((platesOf (all.take i)).map (D.int .i64)).length = i := by simp [platesOf]; omega
    have hln2 : (platesOf (all.take i)).length = i := by simp [platesOf]; omega
    have hi1 : i + 1 ≤ 4294967296 := by omega
    generalize all[i] = y at hix hst
    simp only [go_sem, Nat.reduceBEq, Nat.reduceEqDiff, Nat.reduceLT, Nat.reduceLeDiff, Nat.reduceAdd, Nat.reduceSub, Nat.reduceMul, reduceCtorEq, Int.reduceToNat, Int.reduceEq, Int.reduceLT, Int.reduceLE, Int.reduceNe, Int.reduceNeg, hix, hln, hln2, hi1, Step.d]
    refine ⟨i + 1, hlt, by omega, ?_⟩
    exact ForgetTo.same' (Nat.zero_le _) (by simp [EWe, Env.look, w64 (n := (i : Int) + 1) (by omega) (by omega)]) (by rw [hst])
  have hie : i = all.length := by simp at hd; omega
  subst hie
  rw [List.take_length]
  have hst2 := stepsOk_ones hso
  have hc0 : checkP b = 0 := checkP_iff.2 hok
  have hsp : strengthsP b (platesOf all) = (strengthsL b (platesOf all) (all.length + 1), 0) := by simp only [strengthsP, hc0, if_true, hst2, hpl]
  have hop : outP b all = (outL b all all.length, 0) := by simp only [outP, hc0, if_true, hso]
  have htk : ((platesOf all).map (D.int .i64)).take all.length = (platesOf all).map (D.int .i64) := List.take_of_length_le (by simp [hpl])
  have hszs := sized_steps all
  have hle : all.length ≤ 4294967296 := by omega
  refine (c60 b (by omega)).call rfl rfl rfl ?_
  simp only [go_sem, Nat.reduceBEq, Nat.reduceEqDiff, Nat.reduceLT, Nat.reduceLeDiff, Nat.reduceAdd, Nat.reduceSub, Nat.reduceMul, reduceCtorEq, Int.reduceToNat, Int.reduceEq, Int.reduceLT, Int.reduceLE, Int.reduceNe, Int.reduceNeg, Bath.d]
  refine DCall_sound (PC.callF 2 (c20 b (platesOf all) (by omega) (by omega)) rfl rfl (by simp [frzVs, frzV, dz, Bath.d, htk, hpl]) rfl rfl ?_)
  rw [hsp]
  simp only [go_sem, Nat.reduceBEq, Nat.reduceEqDiff, Nat.reduceLT, Nat.reduceLeDiff, Nat.reduceAdd, Nat.reduceSub, Nat.reduceMul, reduceCtorEq, Int.reduceToNat, Int.reduceEq, Int.reduceLT, Int.reduceLE, Int.reduceNe, Int.reduceNeg, Bath.d]
  refine (c60 b (by omega)).call rfl rfl rfl ?_
  simp only [go_sem, Nat.reduceBEq, Nat.reduceEqDiff, Nat.reduceLT, Nat.reduceLeDiff, Nat.reduceAdd, Nat.reduceSub, Nat.reduceMul, reduceCtorEq, Int.reduceToNat, Int.reduceEq, Int.reduceLT, Int.reduceLE, Int.reduceNe, Int.reduceNeg, Bath.d, hszs, hle, List.length_map, List.nil_append, Nat.zero_add]
  refine (c28 b all (by omega) (by omega)).call rfl rfl rfl ?_
  have hw : IntKind.i64.wrap ((all.length : Int) + 1) = ((all.length + 1 : Nat) : Int) := by rw [w64 (by omega) (by omega)]; omega
  rw [hop]
  simp only [go_sem, Nat.reduceBEq, Nat.reduceEqDiff, Nat.reduceLT, Nat.reduceLeDiff, Nat.reduceAdd, Nat.reduceSub, Nat.reduceMul, reduceCtorEq, Int.reduceToNat, Int.reduceEq, Int.reduceLT, Int.reduceLE, Int.reduceNe, Int.reduceNeg, strengthsL_len, outL_len, List.length_map, hw, hd0]
  have hmt : ∀ i, ∀ x ∈ all.take i, (0 ≤ x.plate ∧ x.plate < b.plates.length) ∧ 1 ≤ x.hours ∧ x.hours ≤ 24 := fun i y hy => hmem y (List.mem_of_mem_take hy)
  have c0 : ∀ i : Nat, 0 ≤ i := fun i => Nat.zero_le _
  have hlen1 : (all.map Step.d).length = all.length := by simp
  have CC := fun (i : Nat) (st : Int) (h0 : 0 ≤ st) (h4 : st ≤ 40) => c61 hok (all.take i) st rusts (by simp; omega) ⟨h0, h4⟩ hrl hrb (hmt i)
  refine ALoop.by (S := Nat) (fun i => [(15, .d (.int .i64 i)), (13, .d (.sl ((outL b all all.length).map intsD))), (11, .d (.sl ((strengthsL b (platesOf all) (all.length + 1)).map Sp.d))), (8, .d (.sl (all.map Step.d))), (7, .d (.sl (rusts.map (.int .i64)))), (6, .d (.int .i64 str)), (5, .ptr 1 0)])
    (fun i => [.cells [.d (.int .u8 x.s.a), .d (.int .u8 x.s.b), .d (.int .u8 x.s.c), .d (.sl (x.plates.map B4.d))], bthB b]) (fun i => all.length + 1 - i) (fun i => i ≤ all.length + 1) 0 (Nat.zero_le _) (fun _ h => nomatch h) (Nat.zero_le _) ?_ ?_
  · refine ForgetTo.drop (H0 := [_, _]) (Y := [_]) (Nat.zero_le _) rfl (by simp [BBs, BB, VBs, VB, bthB]) ?_
    simp [EWp, Env.look, pubV]
  · rintro i hi hn2
    refine AWP.run (fun k => k == 35) tt_ok (fun _ h => nomatch h) (Nat.zero_le _) rfl ?_
    simp only [go_sem, Nat.reduceBEq, Nat.reduceEqDiff, Nat.reduceLT, Nat.reduceLeDiff, Nat.reduceAdd, Nat.reduceSub, Nat.reduceMul, reduceCtorEq, Int.reduceToNat, Int.reduceEq, Int.reduceLT, Int.reduceLE, Int.reduceNe, Int.reduceNeg, bthB]
    refine Br_split (fun he => ?_) (fun he => ?_) <;> simp only [go_sem, Nat.reduceBEq, Nat.reduceEqDiff, Nat.reduceLT, Nat.reduceLeDiff, Nat.reduceAdd, Nat.reduceSub, Nat.reduceMul, reduceCtorEq, Int.reduceToNat, Int.reduceEq, Int.reduceLT, Int.reduceLE, Int.reduceNe, Int.reduceNeg, he]
    · have hle2 : i ≤ all.length := by simp only [decide_eq_true_eq] at he; omega
      have hpt : platesOf (all.take i) = (platesOf all).take i := by simp [platesOf, List.map_take]
      have hix : idx? ((strengthsL b (platesOf all) (all.length + 1)).map Sp.d) (i : Int) = some (aftS (fellF b ((platesOf all).take i)) b.str).d := by
        rw [idx_nat, List.getElem?_map, strengthsL, List.getElem?_map, List.getElem?_range (by omega)]; rfl
      have hwk := fun st (h0 : (0 : Int) ≤ st) => show (comesR b rusts (all.take i) st).2 = aft (fellF b ((platesOf all).take i)) st by rw [comesR_weak, hpt, weak_aft hok _ _ h0]
      have k1 := CC i str (by omega) (by omega)
      have k2 := CC i b.str.lo (by omega) (by omega)
      have k3 := CC i b.str.hi (by omega) (by omega)
      rw [hwk _ (by omega)] at k1 k2 k3
      generalize fellF b ((platesOf all).take i) = F at hix k1 k2 k3
      have hin : (decide (aft F str ≥ (aftS F b.str).lo) && decide (aft F str ≤ (aftS F b.str).hi)) = true := by
        rw [Bool.and_eq_true, decide_eq_true_eq, decide_eq_true_eq]
        simp only [aftS, aft]
        omega
      refine ADrw.treeG (fun k => k == 35) tt_ok (by kernel_rfl) (fun k => if k = 0 then some .L else some .S) (.ones [0, 1, 2, 3, 4, 5, 6, 7, 8, 9, 10, 11] .done) (Nat.zero_le _) (fun _ h => nomatch h) rfl rfl (by kernel_rfl) ?_
      simp only [go_sem, Nat.reduceBEq, Nat.reduceEqDiff, Nat.reduceLT, Nat.reduceLeDiff, Nat.reduceAdd, Nat.reduceSub, Nat.reduceMul, reduceCtorEq, Int.reduceToNat, Int.reduceEq, Int.reduceLT, Int.reduceLE, Int.reduceNe, Int.reduceNeg, c0, hle2, Int.natCast_nonneg, Int.toNat_natCast, hszs, hlen1, if_true, true_and, and_self, and_true, List.drop_zero]
      refine k1.callS (by simp [Bath.d, dz, List.map_take]) rfl rfl rfl rfl rfl ?_
      simp only [go_sem, Nat.reduceBEq, Nat.reduceEqDiff, Nat.reduceLT, Nat.reduceLeDiff, Nat.reduceAdd, Nat.reduceSub, Nat.reduceMul, reduceCtorEq, Int.reduceToNat, Int.reduceEq, Int.reduceLT, Int.reduceLE, Int.reduceNe, Int.reduceNeg]
      refine ADrw.treeG (fun k => k == 35) tt_ok (by kernel_rfl) (fun k => if k = 0 ∨ k = 6 then some .L else some .S) (.ones [0, 1, 2, 3, 4, 5, 6, 7, 8, 9, 10, 11, 12, 13] .done) (Nat.zero_le _) (fun _ h => nomatch h) rfl rfl (by kernel_rfl) ?_
      simp only [go_sem, Nat.reduceBEq, Nat.reduceEqDiff, Nat.reduceLT, Nat.reduceLeDiff, Nat.reduceAdd, Nat.reduceSub, Nat.reduceMul, reduceCtorEq, Int.reduceToNat, Int.reduceEq, Int.reduceLT, Int.reduceLE, Int.reduceNe, Int.reduceNeg, c0, hle2, Int.natCast_nonneg, Int.toNat_natCast, hszs, hlen1, if_true, true_and, and_self, and_true, List.drop_zero]
      refine k2.callS (by simp [Bath.d, dz, List.map_take]) rfl rfl rfl rfl rfl ?_
      simp only [go_sem, Nat.reduceBEq, Nat.reduceEqDiff, Nat.reduceLT, Nat.reduceLeDiff, Nat.reduceAdd, Nat.reduceSub, Nat.reduceMul, reduceCtorEq, Int.reduceToNat, Int.reduceEq, Int.reduceLT, Int.reduceLE, Int.reduceNe, Int.reduceNeg]
      refine ADrw.treeG (fun k => k == 35) tt_ok (by kernel_rfl) (fun k => if k = 0 ∨ k = 6 then some .L else some .S) (.ones [0, 1, 2, 3, 4, 5, 6, 7, 8, 9, 10, 11, 12, 13] .done) (Nat.zero_le _) (fun _ h => nomatch h) rfl rfl (by kernel_rfl) ?_
      simp only [go_sem, Nat.reduceBEq, Nat.reduceEqDiff, Nat.reduceLT, Nat.reduceLeDiff, Nat.reduceAdd, Nat.reduceSub, Nat.reduceMul, reduceCtorEq, Int.reduceToNat, Int.reduceEq, Int.reduceLT, Int.reduceLE, Int.reduceNe, Int.reduceNeg, c0, hle2, Int.natCast_nonneg, Int.toNat_natCast, hszs, hlen1, if_true, true_and, and_self, and_true, List.drop_zero]
      refine k3.callS (by simp [Bath.d, dz, List.map_take]) rfl rfl rfl rfl rfl ?_
      simp only [go_sem, Nat.reduceBEq, Nat.reduceEqDiff, Nat.reduceLT, Nat.reduceLeDiff, Nat.reduceAdd, Nat.reduceSub, Nat.reduceMul, reduceCtorEq, Int.reduceToNat, Int.reduceEq, Int.reduceLT, Int.reduceLE, Int.reduceNe, Int.reduceNeg]
      refine ADrw.treeG (fun k => k == 35) tt_ok (by kernel_rfl) (fun _ => some .S) (.ones [0, 1, 2, 3, 4, 5, 6, 7, 8, 9, 10, 11, 12, 13, 14, 15, 16] .done) (Nat.zero_le _) (fun _ h => nomatch h) rfl rfl (by kernel_rfl) ?_
      simp only [go_sem, Nat.reduceBEq, Nat.reduceEqDiff, Nat.reduceLT, Nat.reduceLeDiff, Nat.reduceAdd, Nat.reduceSub, Nat.reduceMul, reduceCtorEq, Int.reduceToNat, Int.reduceEq, Int.reduceLT, Int.reduceLE, Int.reduceNe, Int.reduceNeg, hix, Sp.d]
      refine (c62 (aft F str) (aftS F b.str)).callS rfl rfl rfl rfl rfl rfl ?_
      rw [hin]
      simp only [go_sem, Nat.reduceBEq, Nat.reduceEqDiff, Nat.reduceLT, Nat.reduceLeDiff, Nat.reduceAdd, Nat.reduceSub, Nat.reduceMul, reduceCtorEq, Int.reduceToNat, Int.reduceEq, Int.reduceLT, Int.reduceLE, Int.reduceNe, Int.reduceNeg, hix, Sp.d]
      refine (c26 (aft F b.str.lo) (aft F b.str.hi)).callS rfl rfl rfl rfl rfl rfl ?_
      simp only [go_sem, Nat.reduceBEq, Nat.reduceEqDiff, Nat.reduceLT, Nat.reduceLeDiff, Nat.reduceAdd, Nat.reduceSub, Nat.reduceMul, reduceCtorEq, Int.reduceToNat, Int.reduceEq, Int.reduceLT, Int.reduceLE, Int.reduceNe, Int.reduceNeg, hix, Sp.d, aftS, hd0]
      refine ⟨i + 1, by omega, by omega, ?_⟩
      exact ForgetTo.same' (Nat.zero_le _) (by simp [EWe, Env.look, aftS, w64 (n := (i : Int) + 1) (by omega) (by omega)]) rfl
    · refine (c61 hok all str rusts (by omega) (by omega) hrl hrb hmem).call rfl rfl rfl ?_
      have hcg := comesR_get b rusts all str
      have hcl := comesR_len b rusts all str
      simp only [go_sem, Nat.reduceBEq, Nat.reduceEqDiff, Nat.reduceLT, Nat.reduceLeDiff, Nat.reduceAdd, Nat.reduceSub, Nat.reduceMul, reduceCtorEq, Int.reduceToNat, Int.reduceEq, Int.reduceLT, Int.reduceLE, Int.reduceNe, Int.reduceNeg]
      refine ALoop.by (S := Nat) (fun i => [(24, .d (.int .i64 i)), (22, .d (.sl ((comesR b rusts all str).1.map (.int .i64)))), (13, .d (.sl ((outL b all all.length).map intsD))), (8, .d (.sl (all.map Step.d)))])
        (fun i => []) (fun i => all.length - i) (fun i => i ≤ all.length) 0 (Nat.zero_le _) (fun _ h => nomatch h) (Nat.zero_le _) ?_ ?_
      · refine ForgetTo.drop (H0 := []) (Y := [_, _]) (Nat.zero_le _) rfl (by simp [BBs]) ?_
        simp [EWp, Env.look, pubV]
      rintro j hj hn3
      refine AWP.run (fun k => k == 35) tt_ok (fun _ h => nomatch h) (Nat.zero_le _) rfl ?_
      simp only [go_sem, Nat.reduceBEq, Nat.reduceEqDiff, Nat.reduceLT, Nat.reduceLeDiff, Nat.reduceAdd, Nat.reduceSub, Nat.reduceMul, reduceCtorEq, Int.reduceToNat, Int.reduceEq, Int.reduceLT, Int.reduceLE, Int.reduceNe, Int.reduceNeg]
      refine Br_split (fun hf => ?_) (fun hf => ?_) <;> simp only [go_sem, Nat.reduceBEq, Nat.reduceEqDiff, Nat.reduceLT, Nat.reduceLeDiff, Nat.reduceAdd, Nat.reduceSub, Nat.reduceMul, reduceCtorEq, Int.reduceToNat, Int.reduceEq, Int.reduceLT, Int.reduceLE, Int.reduceNe, Int.reduceNeg, hf]
      · have hlt : j < all.length := by simpa using hf
        have hgx : all[j]? = some all[j] := List.getElem?_eq_getElem hlt
        have hgd : all.getD j ⟨0, 0⟩ = all[j] := by rw [List.getD_eq_getElem?_getD, hgx]; rfl
        have hio : idx? ((outL b all all.length).map intsD) (j : Int) = some (intsD (waysL b all[j] (fellF b ((platesOf all).take j)))) := by
          rw [idx_nat, List.getElem?_map, outL, List.getElem?_map, List.getElem?_range hlt]; simp only [Option.map_some, hgd]
        have hit : idx? ((comesR b rusts all str).1.map (D.int .i64)) (j : Int) = some (.int .i64 (trueHow b rusts (comesR b rusts (all.take j) str).2 all[j])) := by
          rw [idx_nat, List.getElem?_map, hcg j hlt]; rfl
        obtain ⟨m1, m2⟩ := hmem _ (List.getElem_mem hlt)
        have hti := true_in hok ((platesOf all).take j) all[j] rusts str ⟨g1, g2⟩ m1.1 (by
          have := hri all[j].plate.toNat (by omega)
          rw [show ((all[j].plate.toNat : Nat) : Int) = all[j].plate by omega] at this
          exact this)
        rw [comesR_weak, show platesOf (all.take j) = (platesOf all).take j by simp [platesOf, List.map_take]] at hit
        generalize trueHow b rusts (weakF b ((platesOf all).take j) str) all[j] = tr at hit hti
        have hasc := waysL_asc b all[j] (fellF b ((platesOf all).take j))
        have hinn : ∀ h ∈ waysL b all[j] (fellF b ((platesOf all).take j)), 1 ≤ h ∧ h ≤ 3 := fun h hh => waysL_in hh
        have hwl := waysL_len b all[j] (fellF b ((platesOf all).take j))
        generalize waysL b all[j] (fellF b ((platesOf all).take j)) = W at hio hti hasc hinn hwl
        refine ADrw.treeG (fun k => k == 35) tt_ok (by kernel_rfl) (fun _ => some .S) (.ones [0, 1, 2, 3, 4, 5, 6, 7, 8, 9] .done) (Nat.zero_le _) (fun _ h => nomatch h) rfl rfl (by kernel_rfl) ?_
        simp only [go_sem, Nat.reduceBEq, Nat.reduceEqDiff, Nat.reduceLT, Nat.reduceLeDiff, Nat.reduceAdd, Nat.reduceSub, Nat.reduceMul, reduceCtorEq, Int.reduceToNat, Int.reduceEq, Int.reduceLT, Int.reduceLE, Int.reduceNe, Int.reduceNeg, hio, hit, intsD]
        refine (c63 W tr (by omega)).callS rfl rfl rfl rfl rfl rfl ?_
        rw [show decide (tr ∈ W) = true by simpa using hti]
        simp only [go_sem, Nat.reduceBEq, Nat.reduceEqDiff, Nat.reduceLT, Nat.reduceLeDiff, Nat.reduceAdd, Nat.reduceSub, Nat.reduceMul, reduceCtorEq, Int.reduceToNat, Int.reduceEq, Int.reduceLT, Int.reduceLE, Int.reduceNe, Int.reduceNeg, hio]
        refine ALoop.by (S := Nat) (fun k => [(25, .d (.int .i64 k)), (24, .d (.int .i64 j)), (22, .d (.sl ((comesR b rusts all str).1.map (.int .i64)))), (13, .d (.sl ((outL b all all.length).map intsD))), (8, .d (.sl (all.map Step.d)))])
          (fun k => []) (fun k => W.length - k) (fun k => k ≤ W.length) 0 (Nat.zero_le _) (fun _ h => nomatch h) (Nat.zero_le _) ?_ ?_
        · exact ForgetTo.same' (Nat.zero_le _) (by simp [EWe, Env.look]) rfl
        rintro k hk hnk
        refine AWP.run (fun k => k == 35) tt_ok (fun _ h => nomatch h) (Nat.zero_le _) rfl ?_
        simp only [go_sem, Nat.reduceBEq, Nat.reduceEqDiff, Nat.reduceLT, Nat.reduceLeDiff, Nat.reduceAdd, Nat.reduceSub, Nat.reduceMul, reduceCtorEq, Int.reduceToNat, Int.reduceEq, Int.reduceLT, Int.reduceLE, Int.reduceNe, Int.reduceNeg, hio, intsD]
        refine Br_split (fun hg => ?_) (fun hg => ?_) <;> simp only [go_sem, Nat.reduceBEq, Nat.reduceEqDiff, Nat.reduceLT, Nat.reduceLeDiff, Nat.reduceAdd, Nat.reduceSub, Nat.reduceMul, reduceCtorEq, Int.reduceToNat, Int.reduceEq, Int.reduceLT, Int.reduceLE, Int.reduceNe, Int.reduceNeg, hg]
        · have hkl : k < W.length := by simpa using hg
          have hwk : idx? (W.map (D.int .i64)) (k : Int) = some (.int .i64 W[k]) := by simp [idx?, List.getElem?_eq_getElem hkl]
          obtain ⟨n1, n2⟩ := hinn _ (List.getElem_mem hkl)
          have d1 : decide (W[k] < 1) = false := by simp; omega
          have d2 : decide (3 < W[k]) = false := by simp; omega
          have hnx : IntKind.i64.wrap ((k : Int) + 1) = ((k + 1 : Nat) : Int) := w64 (by omega) (by omega)
          refine ADrw.treeG (fun k => k == 35) tt_ok (by kernel_rfl) (fun _ => some .S) (.ones [0, 1, 2, 3, 4, 5, 6, 7, 8, 9, 10, 11, 12, 13, 14, 15, 16, 17, 18, 19, 20, 21, 22, 23, 24, 25, 26, 27, 28, 29, 30, 31, 32, 33, 34, 35, 36, 37, 38, 39] .done) (Nat.zero_le _) (fun _ h => nomatch h) rfl rfl (by kernel_rfl) ?_
          simp only [go_sem, Nat.reduceBEq, Nat.reduceEqDiff, Nat.reduceLT, Nat.reduceLeDiff, Nat.reduceAdd, Nat.reduceSub, Nat.reduceMul, reduceCtorEq, Int.reduceToNat, Int.reduceEq, Int.reduceLT, Int.reduceLE, Int.reduceNe, Int.reduceNeg, hio, intsD, hwk, d1, d2]
          refine Br_split (fun hp => ?_) (fun hp => ?_) <;> simp only [go_sem, Nat.reduceBEq, Nat.reduceEqDiff, Nat.reduceLT, Nat.reduceLeDiff, Nat.reduceAdd, Nat.reduceSub, Nat.reduceMul, reduceCtorEq, Int.reduceToNat, Int.reduceEq, Int.reduceLT, Int.reduceLE, Int.reduceNe, Int.reduceNeg, hp, hio, intsD, hwk]
          · have hk0 : 0 < k := by simp only [decide_eq_true_eq] at hp; omega
            have hkm : IntKind.i64.wrap ((k : Int) - 1) = ((k - 1 : Nat) : Int) := by rw [w64 (by omega) (by omega)]; omega
            have hwm : idx? (W.map (D.int .i64)) ((k - 1 : Nat) : Int) = some (.int .i64 W[k - 1]) := by simp [idx?, List.getElem?_eq_getElem (show k - 1 < W.length by omega)]
            have hlt3 : W[k - 1] < W[k] := List.pairwise_iff_getElem.1 hasc (k - 1) k (by omega) hkl (by omega)
            have d3 : decide (W[k] ≤ W[k - 1]) = false := by simp; omega
            simp only [go_sem, Nat.reduceBEq, Nat.reduceEqDiff, Nat.reduceLT, Nat.reduceLeDiff, Nat.reduceAdd, Nat.reduceSub, Nat.reduceMul, reduceCtorEq, Int.reduceToNat, Int.reduceEq, Int.reduceLT, Int.reduceLE, Int.reduceNe, Int.reduceNeg, hp, hio, intsD, hwk, hkm, hwm, d3]
            refine ⟨k + 1, hkl, by omega, ?_⟩
            exact ForgetTo.same' (Nat.zero_le _) (by simp [EWe, Env.look, hnx]) rfl
          · refine ⟨k + 1, hkl, by omega, ?_⟩
            exact ForgetTo.same' (Nat.zero_le _) (by simp [EWe, Env.look, hnx]) rfl
        · refine ⟨j + 1, hlt, by omega, ?_⟩
          exact ForgetTo.same' (Nat.zero_le _) (by simp [EWe, Env.look, w64 (n := (j : Int) + 1) (by omega) (by omega)]) rfl
      · refine c17.call rfl rfl rfl ?_
        simp only [go_sem, Nat.reduceBEq, Nat.reduceEqDiff, Nat.reduceLT, Nat.reduceLeDiff, Nat.reduceAdd, Nat.reduceSub, Nat.reduceMul, reduceCtorEq, Int.reduceToNat, Int.reduceEq, Int.reduceLT, Int.reduceLE, Int.reduceNe, Int.reduceNeg]
end Go.Aw
end

section
set_option maxRecDepth 100000
namespace Go.Aw
open Go Go.Proofs

theorem has_b2 {f : Nat} {y : D} (h : HasT Try.prog (f + 3) 119 y) : ∃ s : B2, y = s.d ∧ s.Ok := by
  unfold HasT at h
  rw [Try.underlying119] at h
  obtain ⟨l, rfl, h⟩ := h
  simp only [HasN] at h
  obtain ⟨y1, r1, rfl, h1, y2, r2, rfl, h2, rfl⟩ := h
  obtain ⟨n1, rfl, b1⟩ := has_u8 h1
  obtain ⟨n2, rfl, b2⟩ := has_u8 h2
  exact ⟨⟨n1, n2⟩, rfl, ⟨b1, b2⟩⟩

theorem has_b2s {f : Nat} {y : D} (h : HasT Try.prog (f + 4) 101 y) : ∃ l : List B2, y = .sl (l.map B2.d) ∧ ∀ p ∈ l, p.Ok := by
  unfold HasT at h
  rw [Try.underlying101] at h
  obtain ⟨l, rfl, _, hl⟩ := h
  obtain ⟨ss, rfl⟩ := has_list (enc := fun n : {n : B2 // n.Ok} => n.1.d) (fun y hy => by obtain ⟨n, rfl, hn⟩ := has_b2 hy; exact ⟨⟨n, hn⟩, rfl⟩) l hl
  refine ⟨ss.map Subtype.val, by simp, fun n hn => ?_⟩
  obtain ⟨x, _, rfl⟩ := List.mem_map.1 hn
  exact x.2

theorem has_b4s {f : Nat} {y : D} (h : HasT Try.prog (f + 4) 98 y) : ∃ l : List B4, y = .sl (l.map B4.d) ∧ ∀ p ∈ l, p.Ok := by
  unfold HasT at h
  rw [Try.underlying98] at h
  obtain ⟨l, rfl, _, hl⟩ := h
  obtain ⟨ss, rfl⟩ := has_list (enc := fun n : {n : B4 // n.Ok} => n.1.d) (fun y hy => by obtain ⟨n, rfl, hn⟩ := has_b4 hy; exact ⟨⟨n, hn⟩, rfl⟩) l hl
  refine ⟨ss.map Subtype.val, by simp, fun n hn => ?_⟩
  obtain ⟨x, _, rfl⟩ := List.mem_map.1 hn
  exact x.2

theorem has_vat {f : Nat} {y : D} (h : HasT Try.prog (f + 5) 100 y) : ∃ x : Vat, y = x.d ∧ x.Ok := by
  unfold HasT at h
  rw [Try.underlying100] at h
  obtain ⟨l, rfl, h⟩ := h
  simp only [HasFs] at h
  obtain ⟨y1, r1, rfl, h1, y2, r2, rfl, h2, rfl⟩ := h
  obtain ⟨s, rfl, hs⟩ := has_b3 h1
  obtain ⟨p, rfl, hp⟩ := has_b4s h2
  exact ⟨⟨s, p⟩, rfl, ⟨hs, hp⟩⟩
end Go.Aw
end

section
set_option maxRecDepth 100000
namespace Go.Aw
open Go Go.Proofs.Try

def extR (b : Bath) (most : Bool) : List Int := b.plates.map fun p => if most = true then p.rust.hi else p.rust.lo

theorem c65 (b : Bath) (most : Bool) (hb : b.plates.length ≤ 1000) : PC prog 65 [.d b.d, .d (.bool most)] (.d (.sl ((extR b most).map (.int .i64)))) := by
  refine PC.run (fun k => k == 8) tt_ok (fn := f65) (rs := [.tmp 4]) rfl rfl rfl rfl rfl rfl rfl ?_
  simp only [go_sem, Nat.reduceBEq, Nat.reduceEqDiff, Nat.reduceLT, Nat.reduceLeDiff, Nat.reduceAdd, Nat.reduceSub, Nat.reduceMul, reduceCtorEq, Int.reduceToNat, Int.reduceEq, Int.reduceLT, Int.reduceLE, Int.reduceNe, Int.reduceNeg, Bath.d]
  refine ALoop.by (S := Nat) (fun i => [(6, .d (.int .i64 i)), (5, .ref 1 i 0 i), (2, .ptr 0 0), (1, .d (.bool most))]) (fun i => [bthB b, .arr 1 false (((b.plates.take i).map fun p => if most = true then p.rust.hi else p.rust.lo).map (.int .i64))]) (fun i => b.plates.length - i) (fun i => i ≤ b.plates.length) 0 (by simp) (fun _ h => nomatch h) (Nat.zero_le _) ?_ ?_
  · exact ForgetTo.same' (by simp) (by simp [EWe, Env.look]) (by simp [bthB])
  rintro i hi hn
  refine AWP.run (fun k => k == 8) tt_ok (fun _ h => nomatch h) (by simp) rfl ?_
  simp only [go_sem, Nat.reduceBEq, Nat.reduceEqDiff, Nat.reduceLT, Nat.reduceLeDiff, Nat.reduceAdd, Nat.reduceSub, Nat.reduceMul, reduceCtorEq, Int.reduceToNat, Int.reduceEq, Int.reduceLT, Int.reduceLE, Int.reduceNe, Int.reduceNeg, bthB]
  refine Br_split (fun hd => ?_) (fun hd => ?_) <;> simp only [go_sem, Nat.reduceBEq, Nat.reduceEqDiff, Nat.reduceLT, Nat.reduceLeDiff, Nat.reduceAdd, Nat.reduceSub, Nat.reduceMul, reduceCtorEq, Int.reduceToNat, Int.reduceEq, Int.reduceLT, Int.reduceLE, Int.reduceNe, Int.reduceNeg, hd]
  · have hlt : i < b.plates.length := by simpa using hd
    have hix : idx? (b.plates.map Plate.d) (i : Int) = some (b.plates[i]).d := by simp [idx?, List.getElem?_eq_getElem hlt]
    have hst : (b.plates.take (i + 1)) = b.plates.take i ++ [b.plates[i]] := List.take_succ_eq_append_getElem hlt
    have hln : (b.plates.take i).length = i := by simp; omega
    have hi1 : i + 1 ≤ 4294967296 := by omega
    generalize b.plates[i] = x at hix hst
    simp only [go_sem, Nat.reduceBEq, Nat.reduceEqDiff, Nat.reduceLT, Nat.reduceLeDiff, Nat.reduceAdd, Nat.reduceSub, Nat.reduceMul, reduceCtorEq, Int.reduceToNat, Int.reduceEq, Int.reduceLT, Int.reduceLE, Int.reduceNe, Int.reduceNeg, hix, Plate.d]
    refine Br_split (fun hm => ?_) (fun hm => ?_) <;> simp only [go_sem, Nat.reduceBEq, Nat.reduceEqDiff, Nat.reduceLT, Nat.reduceLeDiff, Nat.reduceAdd, Nat.reduceSub, Nat.reduceMul, reduceCtorEq, Int.reduceToNat, Int.reduceEq, Int.reduceLT, Int.reduceLE, Int.reduceNe, Int.reduceNeg, hix, Plate.d, hm, List.length_map, hln, hi1]
    · refine ⟨i + 1, hlt, by omega, ?_⟩
      exact ForgetTo.same' (by simp) (by simp [EWe, Env.look, w64 (n := (i : Int) + 1) (by omega) (by omega)]) (by rw [hst]; simp)
    · refine ⟨i + 1, hlt, by omega, ?_⟩
      exact ForgetTo.same' (by simp) (by simp [EWe, Env.look, w64 (n := (i : Int) + 1) (by omega) (by omega)]) (by rw [hst]; simp)
  · have hie : i = b.plates.length := by simp at hd; omega
    subst hie
    rw [List.take_length]
    have htk : ((b.plates.map fun p => if most = true then p.rust.hi else p.rust.lo).map (D.int .i64)).take b.plates.length = (extR b most).map (D.int .i64) := List.take_of_length_le (by simp)
    simp only [go_sem, Nat.reduceBEq, Nat.reduceEqDiff, Nat.reduceLT, Nat.reduceLeDiff, Nat.reduceAdd, Nat.reduceSub, Nat.reduceMul, reduceCtorEq, Int.reduceToNat, Int.reduceEq, Int.reduceLT, Int.reduceLE, Int.reduceNe, Int.reduceNeg, htk, List.length_map]

/-- For which hours the plate surely comes out good. -/
theorem hoursW_iff {b : Bath} (hok : b.Ok) (before : List Int) (q : Int) {h : Int} (hh : 1 ≤ h ∧ h ≤ 24) :
    ((hoursW b q (fellF b before)).2 = true ∧ (hoursW b q (fellF b before)).1.lo ≤ h ∧ h ≤ (hoursW b q (fellF b before)).1.hi) ↔ (b.pl q).rust.hi ≤ (aftS (fellF b before) b.str).lo * h ∧ (aftS (fellF b before) b.str).hi * h ≤ (b.pl q).rust.lo + (b.pl q).thin := by
  obtain ⟨s1, s2, s3, _, _⟩ := id hok
  have hp := hok.pl q
  simp only [Plate.Ok] at hp
  have hA : 0 ≤ (aftS (fellF b before) b.str).lo ∧ (aftS (fellF b before) b.str).lo ≤ (aftS (fellF b before) b.str).hi := by simp only [aftS, aft]; omega
  have hlo : 0 < (aftS (fellF b before) b.str).lo → ((b.pl q).rust.hi ≤ (aftS (fellF b before) b.str).lo * h ↔ ((b.pl q).rust.hi + (aftS (fellF b before) b.str).lo - 1).tdiv (aftS (fellF b before) b.str).lo ≤ h) := fun hA0 => by
    rw [Int.tdiv_eq_ediv_of_nonneg (by omega)]
    have := Int.ediv_lt_iff_lt_mul (a := (b.pl q).rust.hi + (aftS (fellF b before) b.str).lo - 1) (b := h + 1) hA0
    rw [Int.add_mul, Int.mul_comm h] at this
    omega
  have hhi : 0 < (aftS (fellF b before) b.str).hi → ((aftS (fellF b before) b.str).hi * h ≤ (b.pl q).rust.lo + (b.pl q).thin ↔ h ≤ ((b.pl q).rust.lo + (b.pl q).thin).tdiv (aftS (fellF b before) b.str).hi) := fun hB0 => by
    rw [Int.tdiv_eq_ediv_of_nonneg (by omega)]
    have := Int.le_ediv_iff_mul_le (a := h) (b := (b.pl q).rust.lo + (b.pl q).thin) hB0
    rw [Int.mul_comm h] at this
    omega
  have z1 : ¬ 0 < (aftS (fellF b before) b.str).lo → (aftS (fellF b before) b.str).lo * h = 0 := fun hn => by rw [show (aftS (fellF b before) b.str).lo = 0 by omega]; simp
  have z2 : ¬ 0 < (aftS (fellF b before) b.str).hi → (aftS (fellF b before) b.str).hi * h = 0 := fun hn => by rw [show (aftS (fellF b before) b.str).hi = 0 by omega]; simp
  by_cases h0 : (aftS (fellF b before) b.str).lo ≤ 0 ∧ 0 < (b.pl q).rust.hi
  · have e : hoursW b q (fellF b before) = (⟨0, 0⟩, false) := by simp only [hoursW, if_pos h0]
    rw [e]
    have := z1 (by omega)
    simp only [Bool.false_eq_true, false_and, false_iff]
    omega
  · have e : hoursW b q (fellF b before) = (⟨hourLo b (b.pl q) (fellF b before), hourHi b (b.pl q) (fellF b before)⟩, decide (hourLo b (b.pl q) (fellF b before) ≤ hourHi b (b.pl q) (fellF b before))) := by simp only [hoursW, if_neg h0]
    rw [e]
    simp only [decide_eq_true_eq]
    unfold hourLo hourHi
    by_cases hA0 : 0 < (aftS (fellF b before) b.str).lo
    · have hB0 : 0 < (aftS (fellF b before) b.str).hi := by omega
      have k1 := hlo hA0
      have k2 := hhi hB0
      rw [if_pos hA0, if_pos hB0]
      omega
    · have k1 := z1 hA0
      rw [if_neg hA0]
      by_cases hB0 : 0 < (aftS (fellF b before) b.str).hi
      · have k2 := hhi hB0
        rw [if_pos hB0]
        omega
      · have k2 := z2 hB0
        rw [if_neg hB0]
        omega

/-- Good in a truth and in both worst ones. -/
def goodB (b : Bath) (rusts : List Int) (str : Int) (before : List Step) (p h : Int) : Bool :=
  decide (trueHow b rusts (weakF b (platesOf before) str) ⟨p, h⟩ = 2) && decide (trueHow b (extR b true) (weakF b (platesOf before) b.str.lo) ⟨p, h⟩ = 2) && decide (trueHow b (extR b false) (weakF b (platesOf before) b.str.hi) ⟨p, h⟩ = 2)

theorem extR_get {b : Bath} {q : Nat} (hq : q < b.plates.length) (m : Bool) : (extR b m).getD q 0 = if m = true then (b.pl q).rust.hi else (b.pl q).rust.lo := by
  simp only [extR, Bath.pl, Int.toNat_natCast, List.getD_eq_getElem?_getD, List.getElem?_map, List.getElem?_eq_getElem hq, Option.map_some, Option.getD_some]

theorem goodB_iff {b : Bath} (hok : b.Ok) {rusts : List Int} {str : Int} (before : List Step) {p h : Int} (hp : 0 ≤ p ∧ p < b.plates.length) (hs : b.str.lo ≤ str ∧ str ≤ b.str.hi) (hr : (b.pl p).rust.lo ≤ rusts.getD p.toNat 0 ∧ rusts.getD p.toNat 0 ≤ (b.pl p).rust.hi) (hh : 1 ≤ h ∧ h ≤ 24) :
    goodB b rusts str before p h = true ↔ ((hoursW b p (fellF b (platesOf before))).2 = true ∧ (hoursW b p (fellF b (platesOf before))).1.lo ≤ h ∧ h ≤ (hoursW b p (fellF b (platesOf before))).1.hi) := by
  rw [hoursW_iff hok (platesOf before) p hh]
  obtain ⟨s1, s2, s3, _, _⟩ := id hok
  have hpl := hok.pl p
  simp only [Plate.Ok] at hpl
  obtain ⟨q, rfl⟩ : ∃ q : Nat, p = q := ⟨p.toNat, by omega⟩
  have e1 := extR_get (b := b) (q := q) (by omega) true
  have e2 := extR_get (b := b) (q := q) (by omega) false
  simp only [if_true, Bool.false_eq_true, if_false] at e1 e2
  have hF := fellF_nn hok (platesOf before)
  simp only [goodB, Bool.and_eq_true, decide_eq_true_eq]
  simp only [trueHow, Int.toNat_natCast, e1, e2, aftS] at hr ⊢
  rw [weak_aft hok _ _ (show 0 ≤ str by omega), weak_aft hok _ _ (show 0 ≤ b.str.lo by omega), weak_aft hok _ _ (show 0 ≤ b.str.hi by omega)]
  have t : ∀ r l : Int, howP ⟨⟨0, 0⟩, 0, (b.pl q).thin⟩ r l = 2 ↔ r ≤ l ∧ l ≤ r + (b.pl q).thin := fun r l => howP_two
  rw [t, t, t]
  generalize fellF b (platesOf before) = F at hF
  have m1 : aft F b.str.lo * h ≤ aft F str * h := Int.mul_le_mul_of_nonneg_right (by simp only [aft]; omega) (by omega)
  have m2 : aft F str * h ≤ aft F b.str.hi * h := Int.mul_le_mul_of_nonneg_right (by simp only [aft]; omega) (by omega)
  generalize aft F b.str.lo * h = X at m1
  generalize aft F str * h = Y at m1 m2
  generalize aft F b.str.hi * h = Z at m2
  omega

theorem stepsOk_filter {np : Nat} (f : Step → Bool) : ∀ {d d' : Nat} {l : List Step}, (∀ q, d'.testBit q = true → d.testBit q = true) → stepsOk np d l = true → stepsOk np d' (l.filter f) = true
  | d, d', [], _, _ => rfl
  | d, d', x :: r, hd, h => by
    simp only [stepsOk] at h
    split at h
    · cases h
    · rename_i hb
      have hor : ∀ q, (d' ||| 2 ^ x.plate.toNat).testBit q = true → (d ||| 2 ^ x.plate.toNat).testBit q = true := fun q hq => by
        rw [Nat.testBit_or, Bool.or_eq_true] at hq ⊢
        exact hq.imp_left (hd q)
      rw [List.filter_cons]
      split
      · simp only [stepsOk]
        have hb' : stepBad np d' x = false := by
          simp only [stepBad, Bool.not_eq_true, Bool.or_eq_false_iff] at hb ⊢
          refine ⟨hb.1, ?_⟩
          cases hq : d'.testBit x.plate.toNat with
          | false => rfl
          | true => rw [hd _ hq] at hb; exact absurd hb.2 (by simp)
        rw [hb', if_neg (by simp)]
        exact stepsOk_filter f hor h
      · refine stepsOk_filter f (fun q hq => ?_) h
        rw [Nat.testBit_or, hd q hq]; rfl
end Go.Aw
end

section
set_option maxRecDepth 100000
namespace Go.Aw
open Go Go.Proofs.Try

def othersOf (p : Int) (l : List Step) : List Step := l.filter fun s => decide (s.plate ≠ p)

/-- The heap of the law. -/
def hL (x : Vat) (b : Bath) (str : Int) (rusts : List Int) (p : Int) (all : List Step) : Heap :=
  [.cells [.d (.int .u8 x.s.a), .d (.int .u8 x.s.b), .d (.int .u8 x.s.c), .d (.sl (x.plates.map B4.d))], bthB b, .cells [.d (.int .i64 str)], .cells [.d (.sl (rusts.map (.int .i64)))],
    .arr 2 false (all.map Step.d), .cells [.d (.int .i64 p)], .cells [.ref 4 all.length 0 all.length]]

theorem c64 {x : Vat} {b : Bath} (hok : b.Ok) {str : Int} (hs : b.str.lo ≤ str ∧ str ≤ b.str.hi) {rusts : List Int} (hrl : rusts.length = b.plates.length) (hrb : ∀ r ∈ rusts, 0 ≤ r ∧ r ≤ 600) {p : Int} (hp : 0 ≤ p ∧ p < b.plates.length) {all : List Step} (hal : all.length ≤ 5)
    (hm : ∀ x ∈ all, (0 ≤ x.plate ∧ x.plate < b.plates.length) ∧ 1 ≤ x.hours ∧ x.hours ≤ 24) (w : Sp) {h : Int} (hh : 1 ≤ h ∧ h ≤ 24) {Q : V → Heap → Prop} (hq : Q (.d (.bool (goodB b rusts str all p h))) (hL x b str rusts p all ++ [.cells [.d (.int .i64 w.lo), .d (.int .i64 w.hi)]])) :
    ACalls prog 64 [.d (.int .i64 h), .ptr 6 0, .ptr 5 0, .ptr 1 0, .ptr 2 0, .ptr 3 0] (hL x b str rusts p all ++ [.cells [.d (.int .i64 w.lo), .d (.int .i64 w.hi)]]) Q := by
  obtain ⟨s1, s2, s3, hb5, _⟩ := id hok
  have hsz := sized_steps all
  have hle : all.length + 1 ≤ 4294967296 := by omega
  have hle2 : all.length ≤ 4294967296 := by omega
  have htk : (all.map Step.d).take all.length = all.map Step.d := List.take_of_length_le (by simp)
  have hmm : ∀ y ∈ all ++ [Step.mk p h], (0 ≤ y.plate ∧ y.plate < b.plates.length) ∧ 1 ≤ y.hours ∧ y.hours ≤ 24 := fun y hy => by
    rcases List.mem_append.1 hy with hy | hy
    · exact hm y hy
    · rw [List.mem_singleton.1 hy]; exact ⟨hp, hh⟩
  have hel : ∀ m, (extR b m).length = b.plates.length := fun m => by simp [extR]
  have heb : ∀ m, ∀ r ∈ extR b m, 0 ≤ r ∧ r ≤ 600 := fun m r hr => by
    obtain ⟨q, hq, rfl⟩ := List.mem_map.1 hr
    have := hok.2.2.2.2 q hq
    simp only [Plate.Ok] at this
    split <;> omega
  have hmap : (all ++ [Step.mk p h]).map Step.d = all.map Step.d ++ [.agg [.int .i64 p, .int .i64 h]] := by simp [Step.d]
  have hdr : ∀ (rs : List Int) (st : Int), idx? ((comesR b rs (all ++ [Step.mk p h]) st).1.map (D.int .i64)) (all.length : Int) = some (.int .i64 (trueHow b rs (weakF b (platesOf all) st) ⟨p, h⟩)) := fun rs st => by
    rw [comesR_append, comesR_weak, idx_nat, List.map_append, List.getElem?_append_right (by rw [List.length_map, comesR_len]; exact Nat.le_refl _), List.length_map, comesR_len, Nat.sub_self]
    rfl
  refine ACalls.of_body tt_ok (fn := f64) (c := bodyOf f64) rfl rfl rfl (of_decide_eq_true rfl) ?_
  change AWP prog f64.ntmps _ none (bodyOf f64) _ _ (FnPost Tt [.tmp 7] 8 Q)
  refine AWP.stepN 2 [(8, .d (.sl ((all ++ [Step.mk p h]).map Step.d))), (5, .ptr 3 0), (4, .ptr 2 0), (3, .ptr 1 0), (1, .ptr 6 0)] (hL x b str rusts p all ++ [.cells [.d (.int .i64 w.lo), .d (.int .i64 w.hi)]]) (fun k => k == 18) tt_ok (fun _ h => nomatch h) (Nat.le_refl _) rfl ?_ ?_
  · simp only [go_sem, Nat.reduceBEq, Nat.reduceEqDiff, Nat.reduceLT, Nat.reduceLeDiff, Nat.reduceAdd, Nat.reduceSub, Nat.reduceMul, reduceCtorEq, Int.reduceToNat, Int.reduceEq, Int.reduceLT, Int.reduceLE, Int.reduceNe, Int.reduceNeg, hL, bthB]
    refine ADrw.treeG (fun k => k == 18) tt_ok (by kernel_rfl) (fun k => if k = 1 ∨ k = 3 then some .L else if k = 2 ∨ k = 7 then some .W else some .S) (.ones [0, 1, 4] (.two 2 (.ones [3, 5, 6, 7, 8] .done) 3 (.ones [2, 5, 6, 7, 8] .done))) (by simp) (fun _ h => nomatch h) rfl rfl (by kernel_rfl) ?_
    simp only [go_sem, Nat.reduceBEq, Nat.reduceEqDiff, Nat.reduceLT, Nat.reduceLeDiff, Nat.reduceAdd, Nat.reduceSub, Nat.reduceMul, reduceCtorEq, Int.reduceToNat, Int.reduceEq, Int.reduceLT, Int.reduceLE, Int.reduceNe, Int.reduceNeg, hsz, hle, hle2, htk, List.length_map, List.nil_append, Nat.zero_add]
    have htk2 : (all.map Step.d ++ [D.agg [.int .i64 p, .int .i64 h]]).take (all.length + 1) = all.map Step.d ++ [D.agg [.int .i64 p, .int .i64 h]] := List.take_of_length_le (by simp)
    refine ⟨?_, ?_⟩
    all_goals
      refine (c24 p h).callS rfl rfl rfl rfl rfl rfl ?_
      simp only [go_sem, Nat.reduceBEq, Nat.reduceEqDiff, Nat.reduceLT, Nat.reduceLeDiff, Nat.reduceAdd, Nat.reduceSub, Nat.reduceMul, reduceCtorEq, Int.reduceToNat, Int.reduceEq, Int.reduceLT, Int.reduceLE, Int.reduceNe, Int.reduceNeg, hle, Step.d]
      have hls : (all.map Step.d ++ [D.agg [.int .i64 p, .int .i64 h]]).length = all.length + 1 := by simp
      rw [hmap]
      refine ⟨Nat.le_refl _, by simp, .inr (by simp [BBs, BB, VBs, VB]), rfl, ?_⟩
      simp [EW, VW, Env.look, pubV, htk2]
  · refine AWP.runS (fun _ => false) tt_ok (fun _ h => nomatch h) (Nat.le_refl _) rfl ?_
    simp only [go_sem, Nat.reduceBEq, Nat.reduceEqDiff, Nat.reduceLT, Nat.reduceLeDiff, Nat.reduceAdd, Nat.reduceSub, Nat.reduceMul, reduceCtorEq, Int.reduceToNat, Int.reduceEq, Int.reduceLT, Int.reduceLE, Int.reduceNe, Int.reduceNeg, hL, bthB]
    have hl6 : (all ++ [Step.mk p h]).length ≤ 1000 := by simp; omega
    refine (c61 hok (all ++ [Step.mk p h]) str rusts hl6 (by omega) hrl hrb hmm).call rfl rfl rfl ?_
    simp only [go_sem, Nat.reduceBEq, Nat.reduceEqDiff, Nat.reduceLT, Nat.reduceLeDiff, Nat.reduceAdd, Nat.reduceSub, Nat.reduceMul, reduceCtorEq, Int.reduceToNat, Int.reduceEq, Int.reduceLT, Int.reduceLE, Int.reduceNe, Int.reduceNeg]
    refine ADrw.treeG (fun _ => false) tt_ok (by kernel_rfl) (fun k => if k = 0 ∨ k = 4 ∨ k = 5 then some .L else some .S) (.ones [0, 1, 2, 3, 4, 5, 6, 7, 8, 9, 10, 11, 12] .done) (Nat.le_refl _) (fun _ h => nomatch h) rfl rfl (by kernel_rfl) ?_
    simp only [go_sem, Nat.reduceBEq, Nat.reduceEqDiff, Nat.reduceLT, Nat.reduceLeDiff, Nat.reduceAdd, Nat.reduceSub, Nat.reduceMul, reduceCtorEq, Int.reduceToNat, Int.reduceEq, Int.reduceLT, Int.reduceLE, Int.reduceNe, Int.reduceNeg]
    refine (c65 b true (by omega)).callS rfl rfl rfl rfl rfl rfl ?_
    simp only [go_sem, Nat.reduceBEq, Nat.reduceEqDiff, Nat.reduceLT, Nat.reduceLeDiff, Nat.reduceAdd, Nat.reduceSub, Nat.reduceMul, reduceCtorEq, Int.reduceToNat, Int.reduceEq, Int.reduceLT, Int.reduceLE, Int.reduceNe, Int.reduceNeg]
    refine (c61 hok (all ++ [Step.mk p h]) b.str.lo (extR b true) hl6 (by omega) (hel true) (heb true) hmm).callS rfl rfl rfl rfl rfl rfl ?_
    simp only [go_sem, Nat.reduceBEq, Nat.reduceEqDiff, Nat.reduceLT, Nat.reduceLeDiff, Nat.reduceAdd, Nat.reduceSub, Nat.reduceMul, reduceCtorEq, Int.reduceToNat, Int.reduceEq, Int.reduceLT, Int.reduceLE, Int.reduceNe, Int.reduceNeg]
    refine ADrw.treeG (fun _ => false) tt_ok (by kernel_rfl) (fun k => if k = 0 ∨ k = 4 ∨ k = 5 then some .L else some .S) (.ones [0, 1, 2, 3, 4, 5, 6, 7, 8, 9, 10, 11, 12] .done) (Nat.le_refl _) (fun _ h => nomatch h) rfl rfl (by kernel_rfl) ?_
    simp only [go_sem, Nat.reduceBEq, Nat.reduceEqDiff, Nat.reduceLT, Nat.reduceLeDiff, Nat.reduceAdd, Nat.reduceSub, Nat.reduceMul, reduceCtorEq, Int.reduceToNat, Int.reduceEq, Int.reduceLT, Int.reduceLE, Int.reduceNe, Int.reduceNeg]
    refine (c65 b false (by omega)).callS rfl rfl rfl rfl rfl rfl ?_
    simp only [go_sem, Nat.reduceBEq, Nat.reduceEqDiff, Nat.reduceLT, Nat.reduceLeDiff, Nat.reduceAdd, Nat.reduceSub, Nat.reduceMul, reduceCtorEq, Int.reduceToNat, Int.reduceEq, Int.reduceLT, Int.reduceLE, Int.reduceNe, Int.reduceNeg]
    refine (c61 hok (all ++ [Step.mk p h]) b.str.hi (extR b false) hl6 (by omega) (hel false) (heb false) hmm).callS rfl rfl rfl rfl rfl rfl ?_
    simp only [hL, bthB] at hq
    simp only [goodB] at hq
    have hd1 := hdr rusts str
    have hd2 := hdr (extR b true) b.str.lo
    have hd3 := hdr (extR b false) b.str.hi
    generalize trueHow b rusts (weakF b (platesOf all) str) ⟨p, h⟩ = a1 at hq hd1
    generalize trueHow b (extR b true) (weakF b (platesOf all) b.str.lo) ⟨p, h⟩ = a2 at hq hd2
    generalize trueHow b (extR b false) (weakF b (platesOf all) b.str.hi) ⟨p, h⟩ = a3 at hq hd3
    simp only [go_sem, Nat.reduceBEq, Nat.reduceEqDiff, Nat.reduceLT, Nat.reduceLeDiff, Nat.reduceAdd, Nat.reduceSub, Nat.reduceMul, reduceCtorEq, Int.reduceToNat, Int.reduceEq, Int.reduceLT, Int.reduceLE, Int.reduceNe, Int.reduceNeg, hd1]
    refine Br_split (fun h1 => ?_) (fun h1 => ?_) <;> simp only [go_sem, Nat.reduceBEq, Nat.reduceEqDiff, Nat.reduceLT, Nat.reduceLeDiff, Nat.reduceAdd, Nat.reduceSub, Nat.reduceMul, reduceCtorEq, Int.reduceToNat, Int.reduceEq, Int.reduceLT, Int.reduceLE, Int.reduceNe, Int.reduceNeg, h1, hd1, hd2]
    · refine Br_split (fun h2 => ?_) (fun h2 => ?_) <;> simp only [go_sem, Nat.reduceBEq, Nat.reduceEqDiff, Nat.reduceLT, Nat.reduceLeDiff, Nat.reduceAdd, Nat.reduceSub, Nat.reduceMul, reduceCtorEq, Int.reduceToNat, Int.reduceEq, Int.reduceLT, Int.reduceLE, Int.reduceNe, Int.reduceNeg, h1, h2, hd1, hd2, hd3]
      · rw [h1, h2] at hq
        exact hq
      · rw [h1, h2] at hq
        exact hq
    · rw [h1] at hq
      exact hq

theorem othersOf_no (p : Int) (l : List Step) : p ∉ platesOf (othersOf p l) := by
  intro h
  simp only [platesOf, othersOf, List.mem_map, List.mem_filter, decide_eq_true_eq] at h
  obtain ⟨s, ⟨_, h1⟩, h2⟩ := h
  exact h1 h2

theorem c11 {x : Vat} (hx : x.Ok) (l : List B2) (hl : ∀ v ∈ l, v.Ok) (pb : Int) (hpb : Byte pb) : PC prog 11 [.d x.d, .d (.sl (l.map B2.d)), .d (.int .u8 pb)] (.d (.bool true)) := by
  have hok := Vat.bathOk hx
  obtain ⟨g1, g2⟩ := Vat.str_in hx
  have hri := fun q hq => Vat.rust_in hx (q := q) hq
  have hso := stepsB_ok (b := x.bath) l hl
  have hsl := stepsB_len x.bath l
  have hrl : x.rusts.length = x.bath.plates.length := by simp [Vat.rusts, Vat.bath]
  have hrb : ∀ r ∈ x.rusts, 0 ≤ r ∧ r ≤ 600 := fun r hr => by
    obtain ⟨v, hv, rfl⟩ := List.mem_map.1 hr
    have := (hx.p v (List.mem_of_mem_take hv)).a
    simp only [Byte] at this
    omega
  obtain ⟨s1, s2, s3, hb5, _⟩ := id hok
  have hd0 : ∀ {α : Type} [DecidableEq α] (l : α), decide (l = l) = true := fun l => by simp
  have ep := byte_conv hpb
  simp only [Byte] at hpb
  refine PC.run (fun k => k == 35) tt_ok (fn := f11) (rs := [.tmp 6]) rfl rfl rfl rfl rfl rfl rfl ?_
  simp only [go_sem, Nat.reduceBEq, Nat.reduceEqDiff, Nat.reduceLT, Nat.reduceLeDiff, Nat.reduceAdd, Nat.reduceSub, Nat.reduceMul, reduceCtorEq, Int.reduceToNat, Int.reduceEq, Int.reduceLT, Int.reduceLE, Int.reduceNe, Int.reduceNeg, Vat.d]
  refine (c58 hx).call rfl rfl rfl ?_
  simp only [go_sem, Nat.reduceBEq, Nat.reduceEqDiff, Nat.reduceLT, Nat.reduceLeDiff, Nat.reduceAdd, Nat.reduceSub, Nat.reduceMul, reduceCtorEq, Int.reduceToNat, Int.reduceEq, Int.reduceLT, Int.reduceLE, Int.reduceNe, Int.reduceNeg]
  generalize x.bath = b at *
  generalize x.str = str at *
  generalize x.rusts = rusts at *
  simp only [go_sem, Nat.reduceBEq, Nat.reduceEqDiff, Nat.reduceLT, Nat.reduceLeDiff, Nat.reduceAdd, Nat.reduceSub, Nat.reduceMul, reduceCtorEq, Int.reduceToNat, Int.reduceEq, Int.reduceLT, Int.reduceLE, Int.reduceNe, Int.reduceNeg, Bath.d]
  refine Br_split (fun h0 => ?_) (fun h0 => ?_) <;> simp only [go_sem, Nat.reduceBEq, Nat.reduceEqDiff, Nat.reduceLT, Nat.reduceLeDiff, Nat.reduceAdd, Nat.reduceSub, Nat.reduceMul, reduceCtorEq, Int.reduceToNat, Int.reduceEq, Int.reduceLT, Int.reduceLE, Int.reduceNe, Int.reduceNeg, h0]
  · refine c17.call rfl rfl rfl ?_
    simp only [go_sem, Nat.reduceBEq, Nat.reduceEqDiff, Nat.reduceLT, Nat.reduceLeDiff, Nat.reduceAdd, Nat.reduceSub, Nat.reduceMul, reduceCtorEq, Int.reduceToNat, Int.reduceEq, Int.reduceLT, Int.reduceLE, Int.reduceNe, Int.reduceNeg]
  have hn0 : 0 < b.plates.length := by
    rcases Nat.eq_zero_or_pos b.plates.length with h | h
    · simp [h] at h0
    · exact h
  have zn : (b.plates.length : Int) ≠ 0 := by omega
  have mp : pb.tmod b.plates.length = pb % b.plates.length := Int.tmod_eq_emod_of_nonneg hpb.1
  have hp : 0 ≤ pb % b.plates.length ∧ pb % b.plates.length < b.plates.length := ⟨Int.emod_nonneg _ zn, Int.emod_lt_of_pos _ (by omega)⟩
  simp only [go_sem, Nat.reduceBEq, Nat.reduceEqDiff, Nat.reduceLT, Nat.reduceLeDiff, Nat.reduceAdd, Nat.reduceSub, Nat.reduceMul, reduceCtorEq, Int.reduceToNat, Int.reduceEq, Int.reduceLT, Int.reduceLE, Int.reduceNe, Int.reduceNeg, ep, mp, remO_ne zn]
  generalize pb % b.plates.length = p at hp
  refine (c59 b l hb5 hl).call rfl rfl rfl ?_
  simp only [go_sem, Nat.reduceBEq, Nat.reduceEqDiff, Nat.reduceLT, Nat.reduceLeDiff, Nat.reduceAdd, Nat.reduceSub, Nat.reduceMul, reduceCtorEq, Int.reduceToNat, Int.reduceEq, Int.reduceLT, Int.reduceLE, Int.reduceNe, Int.reduceNeg]
  generalize stepsB b l = steps at hso hsl
  have hf1 : ∀ i, othersOf p (steps.take i) = (steps.take i).filter fun s => decide (s.plate ≠ p) := fun i => rfl
  refine ALoop.by (S := Nat) (fun i => [(40, .d (.int .i64 i)), (39, .d (.int .i64 steps.length)), (38, .d (.sl (steps.map Step.d))), (11, .ptr 6 0), (10, .ptr 5 0), (9, .ptr 3 0), (8, .ptr 2 0), (7, .ptr 1 0)])
    (fun i => hL x b str rusts p (othersOf p (steps.take i))) (fun i => steps.length - i) (fun i => i ≤ steps.length) 0 (Nat.zero_le _) (fun _ h => nomatch h) (Nat.zero_le _) ?_ ?_
  · exact ForgetTo.same' (Nat.zero_le _) (by simp [EWe, Env.look]) (by simp [hL, bthB, othersOf])
  rintro i hi hn
  refine AWP.run (fun k => k == 35) tt_ok (fun _ h => nomatch h) (Nat.zero_le _) rfl ?_
  simp only [go_sem, Nat.reduceBEq, Nat.reduceEqDiff, Nat.reduceLT, Nat.reduceLeDiff, Nat.reduceAdd, Nat.reduceSub, Nat.reduceMul, reduceCtorEq, Int.reduceToNat, Int.reduceEq, Int.reduceLT, Int.reduceLE, Int.reduceNe, Int.reduceNeg, hL, bthB]
  refine Br_split (fun hd => ?_) (fun hd => ?_) <;> simp only [go_sem, Nat.reduceBEq, Nat.reduceEqDiff, Nat.reduceLT, Nat.reduceLeDiff, Nat.reduceAdd, Nat.reduceSub, Nat.reduceMul, reduceCtorEq, Int.reduceToNat, Int.reduceEq, Int.reduceLT, Int.reduceLE, Int.reduceNe, Int.reduceNeg, hd]
  · have hlt : i < steps.length := by simpa using hd
    have hix : idx? (steps.map Step.d) (i : Int) = some (steps[i]).d := by simp [idx?, List.getElem?_eq_getElem hlt]
    have hst : othersOf p (steps.take (i + 1)) = othersOf p (steps.take i) ++ (if decide (steps[i].plate ≠ p) = true then [steps[i]] else []) := by
      rw [List.take_succ_eq_append_getElem hlt]
      simp only [othersOf, List.filter_append, List.filter_cons, List.filter_nil]
    have hol : (othersOf p (steps.take i)).length ≤ i := by
      have h1 := List.length_filter_le (fun s : Step => decide (s.plate ≠ p)) (steps.take i)
      have h2 : (steps.take i).length = i := by simp; omega
      rw [← hf1] at h1
      omega
    have hi1 : (othersOf p (steps.take i)).length + 1 ≤ 4294967296 := by omega
    have hnx : IntKind.i64.wrap ((i : Int) + 1) = ((i + 1 : Nat) : Int) := w64 (by omega) (by omega)
    generalize steps[i] = s at hix hst
    generalize othersOf p (steps.take i) = o at hst hol hi1
    simp only [go_sem, Nat.reduceBEq, Nat.reduceEqDiff, Nat.reduceLT, Nat.reduceLeDiff, Nat.reduceAdd, Nat.reduceSub, Nat.reduceMul, reduceCtorEq, Int.reduceToNat, Int.reduceEq, Int.reduceLT, Int.reduceLE, Int.reduceNe, Int.reduceNeg, hix, Step.d]
    refine Br_split (fun h1 => ?_) (fun h1 => ?_) <;> simp only [go_sem, Nat.reduceBEq, Nat.reduceEqDiff, Nat.reduceLT, Nat.reduceLeDiff, Nat.reduceAdd, Nat.reduceSub, Nat.reduceMul, reduceCtorEq, Int.reduceToNat, Int.reduceEq, Int.reduceLT, Int.reduceLE, Int.reduceNe, Int.reduceNeg, h1, hi1]
    · have h1' : s.plate ≠ p := by simpa using h1
      rw [if_pos (by simpa using h1')] at hst
      refine ⟨i + 1, hlt, by omega, ?_⟩
      refine ForgetTo.drop (H0 := [_, _, _, _, _, _, _]) (Y := [_]) (Nat.zero_le _) ?_ (by simp [BBs, BB, VBs, VB]) ?_
      · rw [hst]; simp [hL, bthB, Step.d]
      · simp [EWp, Env.look, pubV, hL, hnx]
    · have h1' : s.plate = p := by simpa using h1
      rw [if_neg (by simpa using h1'), List.append_nil] at hst
      refine ⟨i + 1, hlt, by omega, ?_⟩
      refine ForgetTo.drop (H0 := [_, _, _, _, _, _, _]) (Y := [_]) (Nat.zero_le _) ?_ (by simp [BBs, BB, VBs, VB]) ?_
      · rw [hst] <;> simp [hL, bthB]
      · simp [EWp, Env.look, pubV, hL, hnx]
  have hie : i = steps.length := by simp at hd; omega
  subst hie
  rw [List.take_length]
  have hmem : ∀ y ∈ othersOf p steps, (0 ≤ y.plate ∧ y.plate < b.plates.length) ∧ 1 ≤ y.hours ∧ y.hours ≤ 24 := fun y hy => stepsOk_mem hso y (List.mem_filter.1 hy).1
  have hol : (othersOf p steps).length ≤ 5 := by
    have h1 := List.length_filter_le (fun s : Step => decide (s.plate ≠ p)) steps
    simp only [othersOf]
    omega
  have hok2 : stepsOk b.plates.length 0 (othersOf p steps) = true := stepsOk_filter _ (fun q h => h) hso
  have hsm := stepsOk_more hok2 p
  rw [show decide (p ∈ platesOf (othersOf p steps)) = false by simpa using othersOf_no p steps, show within 0 ((b.plates.length : Int) - 1) [p] = true from within_one.2 (by omega)] at hsm
  generalize othersOf p steps = all at *
  have hc0 : checkP b = 0 := checkP_iff.2 hok
  have hsp : hoursP b all p = if (hoursW b p (fellF b (platesOf all))).2 = true then ((hoursW b p (fellF b (platesOf all))).1, 0) else (⟨0, 0⟩, 9) := by simp [hoursP, hc0, hok2, hsm]
  have hgi := fun h hh => goodB_iff hok (rusts := rusts) (str := str) all (p := p) (h := h) hp ⟨g1, g2⟩ (by
    have := hri p.toNat (by omega)
    rw [show ((p.toNat : Nat) : Int) = p by omega] at this
    exact this) hh
  have hlo := fun h => hoursW_lo (p := p) (fell := fellF b (platesOf all)) hok h
  have hhi : (hoursW b p (fellF b (platesOf all))).2 = true → (hoursW b p (fellF b (platesOf all))).1.lo ≤ (hoursW b p (fellF b (platesOf all))).1.hi ∧ (hoursW b p (fellF b (platesOf all))).1.hi ≤ 24 := fun h => by
    unfold hoursW at h ⊢
    split
    · rename_i hc; rw [if_pos hc] at h; cases h
    · rename_i hc
      rw [if_neg hc] at h
      simp only [decide_eq_true_eq] at h
      refine ⟨h, ?_⟩
      simp only
      unfold hourHi
      split <;> omega
  have htk : (all.map Step.d).take all.length = all.map Step.d := List.take_of_length_le (by simp)
  have hsz := sized_steps all
  have hle : all.length ≤ 4294967296 := by omega
  refine ADrw.treeG (fun k => k == 35) tt_ok (by kernel_rfl) (fun k => if k = 0 ∨ k = 3 ∨ k = 4 ∨ k = 5 then some .L else if k = 11 then some .W else if k = 10 then some .A else some .S) (.ones [0, 1, 2, 3, 4, 5, 6, 7, 8, 9, 10, 11, 12] .done) (Nat.zero_le _) (fun _ h => nomatch h) rfl rfl (by kernel_rfl) ?_
  simp only [go_sem, Nat.reduceBEq, Nat.reduceEqDiff, Nat.reduceLT, Nat.reduceLeDiff, Nat.reduceAdd, Nat.reduceSub, Nat.reduceMul, reduceCtorEq, Int.reduceToNat, Int.reduceEq, Int.reduceLT, Int.reduceLE, Int.reduceNe, Int.reduceNeg]
  refine (c60 b (by omega)).callS rfl rfl rfl rfl rfl rfl ?_
  simp only [go_sem, Nat.reduceBEq, Nat.reduceEqDiff, Nat.reduceLT, Nat.reduceLeDiff, Nat.reduceAdd, Nat.reduceSub, Nat.reduceMul, reduceCtorEq, Int.reduceToNat, Int.reduceEq, Int.reduceLT, Int.reduceLE, Int.reduceNe, Int.reduceNeg, htk, hsz, hle, List.nil_append, Nat.zero_add]
  refine (c33 b all p (by omega) (by omega)).callS rfl rfl rfl rfl rfl rfl ?_
  rw [hsp]
  -- the closure, hour by hour
  have hCL := fun (w : Sp) (h : Int) (hh : 1 ≤ h ∧ h ≤ 24) Q hq => c64 (x := x) hok ⟨g1, g2⟩ hrl hrb hp hol hmem w hh (Q := Q) hq
  generalize hW : hoursW b p (fellF b (platesOf all)) = W at hgi hlo hhi
  obtain ⟨w, ok⟩ := W
  simp only at hgi hlo hhi
  cases ok with
  | true =>
    obtain ⟨k1, k2⟩ := hlo rfl
    obtain ⟨k3, k4⟩ := hhi rfl
    have d1 : decide (w.lo < 1) = false := by simp; omega
    have d2 : decide (24 < w.hi) = false := by simp; omega
    have d3 : decide (w.hi < w.lo) = false := by simp; omega
    simp only [go_sem, Nat.reduceBEq, Nat.reduceEqDiff, Nat.reduceLT, Nat.reduceLeDiff, Nat.reduceAdd, Nat.reduceSub, Nat.reduceMul, reduceCtorEq, Int.reduceToNat, Int.reduceEq, Int.reduceLT, Int.reduceLE, Int.reduceNe, Int.reduceNeg, Sp.d, if_true]
    refine ADrw.treeG (fun k => k == 35) tt_ok (by kernel_rfl) (fun k => if k = 6 ∨ k = 16 ∨ k = 20 ∨ k = 25 ∨ k = 27 then some .L else some .S) (.ones [0, 1, 2, 3, 4, 5, 6, 7, 8, 9, 10, 11, 12, 13, 14, 15, 16, 17, 18, 19, 20, 21, 22, 23, 24, 25, 26, 27, 28, 29, 30, 31] .done) (Nat.zero_le _) (fun _ h => nomatch h) rfl rfl (by kernel_rfl) ?_
    simp only [go_sem, Nat.reduceBEq, Nat.reduceEqDiff, Nat.reduceLT, Nat.reduceLeDiff, Nat.reduceAdd, Nat.reduceSub, Nat.reduceMul, reduceCtorEq, Int.reduceToNat, Int.reduceEq, Int.reduceLT, Int.reduceLE, Int.reduceNe, Int.reduceNeg, d1, d2, d3]
    refine ALoop.by (S := Nat) (fun h => [(17, .d (.int .i64 h)), (16, .fn (.func 64) [] [.ptr 6 0, .ptr 5 0, .ptr 1 0, .ptr 2 0, .ptr 3 0]), (15, .d (.int .i64 0)), (14, .ptr 7 0)])
      (fun _ => hL x b str rusts p all ++ [.cells [.d (.int .i64 w.lo), .d (.int .i64 w.hi)]]) (fun h => 25 - h) (fun h => 1 ≤ h ∧ h ≤ 25) 1 (Nat.zero_le _) (fun _ h => nomatch h) ⟨Nat.le_refl _, by omega⟩ ?_ ?_
    · refine ForgetTo.same' (Nat.zero_le _) (by simp [EWe, Env.look]) (by simp [hL, bthB])
    rintro h ⟨h1, h2⟩ hn
    refine AWP.run (fun k => k == 35) tt_ok (fun _ h => nomatch h) (Nat.zero_le _) rfl ?_
    simp only [go_sem, Nat.reduceBEq, Nat.reduceEqDiff, Nat.reduceLT, Nat.reduceLeDiff, Nat.reduceAdd, Nat.reduceSub, Nat.reduceMul, reduceCtorEq, Int.reduceToNat, Int.reduceEq, Int.reduceLT, Int.reduceLE, Int.reduceNe, Int.reduceNeg, hL, bthB]
    refine Br_split (fun hd => ?_) (fun hd => ?_) <;> simp only [go_sem, Nat.reduceBEq, Nat.reduceEqDiff, Nat.reduceLT, Nat.reduceLeDiff, Nat.reduceAdd, Nat.reduceSub, Nat.reduceMul, reduceCtorEq, Int.reduceToNat, Int.reduceEq, Int.reduceLT, Int.reduceLE, Int.reduceNe, Int.reduceNeg, hd]
    · have hh : 1 ≤ (h : Int) ∧ (h : Int) ≤ 24 := by simp at hd; omega
      have hg := hgi h hh
      have hnx : IntKind.i64.wrap ((h : Int) + 1) = ((h + 1 : Nat) : Int) := w64 (by omega) (by omega)
      refine ACallV.of rfl (hCL w h hh _ ?_)
      generalize goodB b rusts str all p h = g at hg
      simp only [go_sem, Nat.reduceBEq, Nat.reduceEqDiff, Nat.reduceLT, Nat.reduceLeDiff, Nat.reduceAdd, Nat.reduceSub, Nat.reduceMul, reduceCtorEq, Int.reduceToNat, Int.reduceEq, Int.reduceLT, Int.reduceLE, Int.reduceNe, Int.reduceNeg, hL, bthB]
      refine (c62 h w).call rfl rfl rfl ?_
      have hgv : g = (decide ((h : Int) ≥ w.lo) && decide ((h : Int) ≤ w.hi)) := by rw [Bool.eq_iff_iff]; simpa using hg
      rw [hgv]
      generalize (decide ((h : Int) ≥ w.lo) && decide ((h : Int) ≤ w.hi)) = g
      have hgg : (!g == g) = false := by cases g <;> rfl
      simp only [go_sem, Nat.reduceBEq, Nat.reduceEqDiff, Nat.reduceLT, Nat.reduceLeDiff, Nat.reduceAdd, Nat.reduceSub, Nat.reduceMul, reduceCtorEq, Int.reduceToNat, Int.reduceEq, Int.reduceLT, Int.reduceLE, Int.reduceNe, Int.reduceNeg, hgg]
      refine ⟨h + 1, ⟨by omega, by omega⟩, by omega, ?_⟩
      exact ForgetTo.same' (Nat.zero_le _) (by simp [EWe, Env.look, hnx]) (by simp [hL, bthB])
    · refine c17.call rfl rfl rfl ?_
      simp only [go_sem, Nat.reduceBEq, Nat.reduceEqDiff, Nat.reduceLT, Nat.reduceLeDiff, Nat.reduceAdd, Nat.reduceSub, Nat.reduceMul, reduceCtorEq, Int.reduceToNat, Int.reduceEq, Int.reduceLT, Int.reduceLE, Int.reduceNe, Int.reduceNeg]
  | false =>
    simp only [go_sem, Nat.reduceBEq, Nat.reduceEqDiff, Nat.reduceLT, Nat.reduceLeDiff, Nat.reduceAdd, Nat.reduceSub, Nat.reduceMul, reduceCtorEq, Int.reduceToNat, Int.reduceEq, Int.reduceLT, Int.reduceLE, Int.reduceNe, Int.reduceNeg, Sp.d, if_false, Bool.false_eq_true]
    refine ADrw.treeG (fun k => k == 35) tt_ok (by kernel_rfl) (fun k => if k = 6 ∨ k = 16 ∨ k = 20 ∨ k = 25 ∨ k = 27 then some .L else some .S) (.ones [0, 1, 2, 3, 4, 5, 6, 7, 8, 9, 10, 11, 12, 13, 14, 15, 16, 17, 18, 19, 20, 21, 22, 23, 24, 25, 26, 27, 28, 29, 30, 31] .done) (Nat.zero_le _) (fun _ h => nomatch h) rfl rfl (by kernel_rfl) ?_
    simp only [go_sem, Nat.reduceBEq, Nat.reduceEqDiff, Nat.reduceLT, Nat.reduceLeDiff, Nat.reduceAdd, Nat.reduceSub, Nat.reduceMul, reduceCtorEq, Int.reduceToNat, Int.reduceEq, Int.reduceLT, Int.reduceLE, Int.reduceNe, Int.reduceNeg]
    refine (c26 0 0).callS rfl rfl rfl rfl rfl rfl ?_
    simp only [go_sem, Nat.reduceBEq, Nat.reduceEqDiff, Nat.reduceLT, Nat.reduceLeDiff, Nat.reduceAdd, Nat.reduceSub, Nat.reduceMul, reduceCtorEq, Int.reduceToNat, Int.reduceEq, Int.reduceLT, Int.reduceLE, Int.reduceNe, Int.reduceNeg, Sp.d]
    refine ALoop.by (S := Nat) (fun h => [(17, .d (.int .i64 h)), (16, .fn (.func 64) [] [.ptr 6 0, .ptr 5 0, .ptr 1 0, .ptr 2 0, .ptr 3 0]), (15, .d (.int .i64 9)), (14, .ptr 7 0)])
      (fun _ => hL x b str rusts p all ++ [.cells [.d (.int .i64 (⟨0, 0⟩ : Sp).lo), .d (.int .i64 (⟨0, 0⟩ : Sp).hi)]]) (fun h => 25 - h) (fun h => 1 ≤ h ∧ h ≤ 25) 1 (Nat.zero_le _) (fun _ h => nomatch h) ⟨Nat.le_refl _, by omega⟩ ?_ ?_
    · refine ForgetTo.same' (Nat.zero_le _) (by simp [EWe, Env.look]) (by simp [hL, bthB])
    rintro h ⟨h1, h2⟩ hn
    refine AWP.run (fun k => k == 35) tt_ok (fun _ h => nomatch h) (Nat.zero_le _) rfl ?_
    simp only [go_sem, Nat.reduceBEq, Nat.reduceEqDiff, Nat.reduceLT, Nat.reduceLeDiff, Nat.reduceAdd, Nat.reduceSub, Nat.reduceMul, reduceCtorEq, Int.reduceToNat, Int.reduceEq, Int.reduceLT, Int.reduceLE, Int.reduceNe, Int.reduceNeg, hL, bthB]
    refine Br_split (fun hd => ?_) (fun hd => ?_) <;> simp only [go_sem, Nat.reduceBEq, Nat.reduceEqDiff, Nat.reduceLT, Nat.reduceLeDiff, Nat.reduceAdd, Nat.reduceSub, Nat.reduceMul, reduceCtorEq, Int.reduceToNat, Int.reduceEq, Int.reduceLT, Int.reduceLE, Int.reduceNe, Int.reduceNeg, hd]
    · have hh : 1 ≤ (h : Int) ∧ (h : Int) ≤ 24 := by simp at hd; omega
      have hg := hgi h hh
      have hnx : IntKind.i64.wrap ((h : Int) + 1) = ((h + 1 : Nat) : Int) := w64 (by omega) (by omega)
      refine ACallV.of rfl (hCL (⟨0, 0⟩ : Sp) h hh _ ?_)
      generalize goodB b rusts str all p h = g at hg
      simp only [go_sem, Nat.reduceBEq, Nat.reduceEqDiff, Nat.reduceLT, Nat.reduceLeDiff, Nat.reduceAdd, Nat.reduceSub, Nat.reduceMul, reduceCtorEq, Int.reduceToNat, Int.reduceEq, Int.reduceLT, Int.reduceLE, Int.reduceNe, Int.reduceNeg, hL, bthB]
      have hgv : g = false := by cases g <;> simp at hg ⊢
      subst hgv
      simp only [go_sem, Nat.reduceBEq, Nat.reduceEqDiff, Nat.reduceLT, Nat.reduceLeDiff, Nat.reduceAdd, Nat.reduceSub, Nat.reduceMul, reduceCtorEq, Int.reduceToNat, Int.reduceEq, Int.reduceLT, Int.reduceLE, Int.reduceNe, Int.reduceNeg]
      refine ⟨h + 1, ⟨by omega, by omega⟩, by omega, ?_⟩
      exact ForgetTo.same' (Nat.zero_le _) (by simp [EWe, Env.look, hnx]) (by simp [hL, bthB])
    · refine c17.call rfl rfl rfl ?_
      simp only [go_sem, Nat.reduceBEq, Nat.reduceEqDiff, Nat.reduceLT, Nat.reduceLeDiff, Nat.reduceAdd, Nat.reduceSub, Nat.reduceMul, reduceCtorEq, Int.reduceToNat, Int.reduceEq, Int.reduceLT, Int.reduceLE, Int.reduceNe, Int.reduceNeg]
end Go.Aw
end
