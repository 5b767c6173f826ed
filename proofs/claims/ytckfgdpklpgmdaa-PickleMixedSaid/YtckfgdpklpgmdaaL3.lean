/- The law of the strengths. Arguments of the program's types. The reference: how plates come out. The reference: all ways in which a plate comes out. The law of the ways. The reference: for how long a plate may lie; the law of it. The law of the hours. The reference: acids that are mixed. The law of the mixtures. Bytes as arguments; the law of what is missing, without the reference. Bytes as arguments of the law. A bath of bytes, with a truth. Steps of bytes. Vats and pairs of bytes as arguments. Mixtures, without the reference: the plain law and the closure. The law of the mixtures, without the reference. -/
import Derived.Test.YtckfgdpklpgmdaaL2
set_option linter.unusedSimpArgs false
set_option linter.unusedVariables false

section
set_option maxRecDepth 100000
namespace Go.Aw
open Go Go.Proofs.Try

theorem fellF_nn {b : Bath} (hok : b.Ok) : ∀ l : List Int, 0 ≤ fellF b l
  | [] => by simp [fellF]
  | p :: r => by
    have hp := hok.pl p
    simp only [Plate.Ok] at hp
    have := fellF_nn hok r
    simp only [fellF, List.map_cons, List.sum_cons] at this ⊢
    omega

/-- Plate by plate, or all at once. -/
theorem weak_aft {b : Bath} (hok : b.Ok) : ∀ (l : List Int) (s : Int), 0 ≤ s → weakF b l s = aft (fellF b l) s
  | [], s, hs => by simp [weakF, fellF, aft]; omega
  | p :: r, s, hs => by
    have hp := hok.pl p
    simp only [Plate.Ok] at hp
    have hn := fellF_nn hok r
    have h1 : weakF b (p :: r) s = weakF b r (max 0 (s - (b.pl p).takes)) := rfl
    have h2 : fellF b (p :: r) = (b.pl p).takes + fellF b r := by simp [fellF]
    rw [h1, weak_aft hok r _ (by omega), h2]
    simp only [aft]
    omega

theorem ones_len (l : List Int) : (ones l).length = l.length := by simp [ones]

theorem c3 (b : Bath) (l : List Int) : PC prog 3 [.d b.d, .d (.sl (l.map (.int .i64)))] (.d (.bool true)) := by
  refine PC.run (fun k => k == 54) tt_ok (fn := f3) (rs := [.tmp 4]) rfl rfl rfl rfl rfl rfl rfl ?_
  simp only [go_sem, Nat.reduceBEq, Nat.reduceEqDiff, Nat.reduceLT, Nat.reduceLeDiff, Nat.reduceAdd, Nat.reduceSub, Nat.reduceMul, reduceCtorEq, Int.reduceToNat, Int.reduceEq, Int.reduceLT, Int.reduceLE, Int.reduceNe, Int.reduceNeg, Bath.d]
  refine Br_split (fun h1 => ?_) (fun h1 => ?_) <;> simp only [go_sem, Nat.reduceBEq, Nat.reduceEqDiff, Nat.reduceLT, Nat.reduceLeDiff, Nat.reduceAdd, Nat.reduceSub, Nat.reduceMul, reduceCtorEq, Int.reduceToNat, Int.reduceEq, Int.reduceLT, Int.reduceLE, Int.reduceNe, Int.reduceNeg, h1]
  · refine c17.call rfl rfl rfl ?_
    simp only [go_sem, Nat.reduceBEq, Nat.reduceEqDiff, Nat.reduceLT, Nat.reduceLeDiff, Nat.reduceAdd, Nat.reduceSub, Nat.reduceMul, reduceCtorEq, Int.reduceToNat, Int.reduceEq, Int.reduceLT, Int.reduceLE, Int.reduceNe, Int.reduceNeg, h1]
  refine Br_split (fun h2 => ?_) (fun h2 => ?_) <;> simp only [go_sem, Nat.reduceBEq, Nat.reduceEqDiff, Nat.reduceLT, Nat.reduceLeDiff, Nat.reduceAdd, Nat.reduceSub, Nat.reduceMul, reduceCtorEq, Int.reduceToNat, Int.reduceEq, Int.reduceLT, Int.reduceLE, Int.reduceNe, Int.reduceNeg, h1, h2]
  · refine c17.call rfl rfl rfl ?_
    simp only [go_sem, Nat.reduceBEq, Nat.reduceEqDiff, Nat.reduceLT, Nat.reduceLeDiff, Nat.reduceAdd, Nat.reduceSub, Nat.reduceMul, reduceCtorEq, Int.reduceToNat, Int.reduceEq, Int.reduceLT, Int.reduceLE, Int.reduceNe, Int.reduceNeg, h1, h2]
  have hb : b.plates.length ≤ 20 := by simp only [decide_eq_false_iff_not] at h1; omega
  have hl : l.length ≤ 20 := by simp only [decide_eq_false_iff_not] at h2; omega
  refine (c18 b (by omega)).call rfl rfl rfl ?_
  have hle : l.length ≤ 4294967296 := by omega
  have hsz : sized 1 (l.map (D.int .i64)) = true := by simp [sized, dcells]
  simp only [go_sem, Nat.reduceBEq, Nat.reduceEqDiff, Nat.reduceLT, Nat.reduceLeDiff, Nat.reduceAdd, Nat.reduceSub, Nat.reduceMul, reduceCtorEq, Int.reduceToNat, Int.reduceEq, Int.reduceLT, Int.reduceLE, Int.reduceNe, Int.reduceNeg, h1, h2, Bath.d, hle, hsz, List.length_map, List.nil_append, Nat.zero_add]
  refine (c19 b (by omega)).call rfl rfl rfl ?_
  simp only [go_sem, Nat.reduceBEq, Nat.reduceEqDiff, Nat.reduceLT, Nat.reduceLeDiff, Nat.reduceAdd, Nat.reduceSub, Nat.reduceMul, reduceCtorEq, Int.reduceToNat, Int.reduceEq, Int.reduceLT, Int.reduceLE, Int.reduceNe, Int.reduceNeg, h1, h2]
  refine (c20 b l (by omega) (by omega)).call rfl rfl rfl ?_
  simp only [go_sem, Nat.reduceBEq, Nat.reduceEqDiff, Nat.reduceLT, Nat.reduceLeDiff, Nat.reduceAdd, Nat.reduceSub, Nat.reduceMul, reduceCtorEq, Int.reduceToNat, Int.reduceEq, Int.reduceLT, Int.reduceLE, Int.reduceNe, Int.reduceNeg, h1, h2]
  refine (c21 b (by omega)).call rfl rfl rfl ?_
  simp only [go_sem, Nat.reduceBEq, Nat.reduceEqDiff, Nat.reduceLT, Nat.reduceLeDiff, Nat.reduceAdd, Nat.reduceSub, Nat.reduceMul, reduceCtorEq, Int.reduceToNat, Int.reduceEq, Int.reduceLT, Int.reduceLE, Int.reduceNe, Int.reduceNeg, h1, h2]
  refine (c22 b b (by omega) (by omega)).call rfl rfl rfl ?_
  have hd0 : ∀ {α : Type} [DecidableEq α] (l : α), decide (l = l) = true := fun l => by simp
  simp only [go_sem, Nat.reduceBEq, Nat.reduceEqDiff, Nat.reduceLT, Nat.reduceLeDiff, Nat.reduceAdd, Nat.reduceSub, Nat.reduceMul, reduceCtorEq, Int.reduceToNat, Int.reduceEq, Int.reduceLT, Int.reduceLE, Int.reduceNe, Int.reduceNeg, h1, h2, hd0]
  refine (c23 l l (by omega) (by omega)).call rfl rfl rfl ?_
  simp only [go_sem, Nat.reduceBEq, Nat.reduceEqDiff, Nat.reduceLT, Nat.reduceLeDiff, Nat.reduceAdd, Nat.reduceSub, Nat.reduceMul, reduceCtorEq, Int.reduceToNat, Int.reduceEq, Int.reduceLT, Int.reduceLE, Int.reduceNe, Int.reduceNeg, h1, h2, hd0]
  refine ALoop.by (S := Nat) (fun i => [(12, .d (.int .i64 i)), (11, .ref 2 i 0 i), (10, .d (.int .i64 (checkP b))), (9, .d (.int .i64 (strengthsP b l).2)), (8, .d (.sl ((strengthsP b l).1.map Sp.d))), (2, .ptr 0 0), (1, .d (.sl (l.map (.int .i64))))])
    (fun i => [.cells [.d (.int .i64 b.str.lo), .d (.int .i64 b.str.hi), .d (.sl (b.plates.map Plate.d))], .cells [.d (.int .i64 b.str.lo), .d (.int .i64 b.str.hi), .d (.sl (b.plates.map Plate.d))], .arr 2 false ((ones (l.take i)).map Step.d)]) (fun i => l.length - i) (fun i => i ≤ l.length) 0 (by simp) (fun _ h => nomatch h) (Nat.zero_le _) ?_ ?_
  · exact ForgetTo.same' (by simp) (by simp [EWe, Env.look]) (by simp [ones])
  rintro i hi hn
  refine AWP.run (fun k => k == 54) tt_ok (fun _ h => nomatch h) (by simp) rfl ?_
  simp only [go_sem, Nat.reduceBEq, Nat.reduceEqDiff, Nat.reduceLT, Nat.reduceLeDiff, Nat.reduceAdd, Nat.reduceSub, Nat.reduceMul, reduceCtorEq, Int.reduceToNat, Int.reduceEq, Int.reduceLT, Int.reduceLE, Int.reduceNe, Int.reduceNeg]
  refine Br_split (fun hd => ?_) (fun hd => ?_) <;> simp only [go_sem, Nat.reduceBEq, Nat.reduceEqDiff, Nat.reduceLT, Nat.reduceLeDiff, Nat.reduceAdd, Nat.reduceSub, Nat.reduceMul, reduceCtorEq, Int.reduceToNat, Int.reduceEq, Int.reduceLT, Int.reduceLE, Int.reduceNe, Int.reduceNeg, hd]
  · have hlt : i < l.length := by simpa using hd
    have hix : idx? (l.map (D.int .i64)) (i : Int) = some (.int .i64 l[i]) := by simp [idx?, List.getElem?_eq_getElem hlt]
    have hst : (ones (l.take (i + 1))).map Step.d = (ones (l.take i)).map Step.d ++ [(Step.mk l[i] 1).d] := by
      rw [List.take_add_one, List.getElem?_eq_getElem hlt]; simp only [ones, List.map_append, Option.toList_some, List.map_cons, List.map_nil]
    have hln : ((ones (l.take i)).map Step.d).length = i := by simp [ones]; omega
    have hln2 : (ones (l.take i)).length = i := by simp [ones]; omega
    have hi1 : i + 1 ≤ 4294967296 := by omega
    have hi95 : i ≤ 4294967295 := by omega
    generalize l[i] = x at hix hst
    simp only [go_sem, Nat.reduceBEq, Nat.reduceEqDiff, Nat.reduceLT, Nat.reduceLeDiff, Nat.reduceAdd, Nat.reduceSub, Nat.reduceMul, reduceCtorEq, Int.reduceToNat, Int.reduceEq, Int.reduceLT, Int.reduceLE, Int.reduceNe, Int.reduceNeg, hix]
    refine (c24 x 1).call rfl rfl rfl ?_
    simp only [go_sem, Nat.reduceBEq, Nat.reduceEqDiff, Nat.reduceLT, Nat.reduceLeDiff, Nat.reduceAdd, Nat.reduceSub, Nat.reduceMul, reduceCtorEq, Int.reduceToNat, Int.reduceEq, Int.reduceLT, Int.reduceLE, Int.reduceNe, Int.reduceNeg, hln, hln2, hi1, hi95, Step.d]
    refine ⟨i + 1, hlt, by omega, ?_⟩
    exact ForgetTo.same' (by simp) (by simp [EWe, Env.look, w64 (n := (i : Int) + 1) (by omega) (by omega)]) (by rw [hst]; rfl)
  have hie : i = l.length := by simp at hd; omega
  subst hie
  rw [List.take_length]
  have htk : ((ones l).map Step.d).take l.length = (ones l).map Step.d := List.take_of_length_le (by simp [ones])
  have hon := ones_len l
  refine Br_split (fun h0 => ?_) (fun h0 => ?_) <;> simp only [go_sem, Nat.reduceBEq, Nat.reduceEqDiff, Nat.reduceLT, Nat.reduceLeDiff, Nat.reduceAdd, Nat.reduceSub, Nat.reduceMul, reduceCtorEq, Int.reduceToNat, Int.reduceEq, Int.reduceLT, Int.reduceLE, Int.reduceNe, Int.reduceNeg, h0]
  · have hc0 : checkP b = 0 := by simpa using h0
    have hok := checkP_iff.1 hc0
    have hok' := hok
    obtain ⟨s1, s2, s3, _, _⟩ := hok'
    refine (c25 b (ones l) (by omega) (by simp [ones]; omega)).callL rfl (by simp [pubVs, pubV, dz, Bath.d, htk, hon]) rfl ?_
    simp only [go_sem, Nat.reduceBEq, Nat.reduceEqDiff, Nat.reduceLT, Nat.reduceLeDiff, Nat.reduceAdd, Nat.reduceSub, Nat.reduceMul, reduceCtorEq, Int.reduceToNat, Int.reduceEq, Int.reduceLT, Int.reduceLE, Int.reduceNe, Int.reduceNeg, h0]
    refine Br_split (fun h3 => ?_) (fun h3 => ?_) <;> simp only [go_sem, Nat.reduceBEq, Nat.reduceEqDiff, Nat.reduceLT, Nat.reduceLeDiff, Nat.reduceAdd, Nat.reduceSub, Nat.reduceMul, reduceCtorEq, Int.reduceToNat, Int.reduceEq, Int.reduceLT, Int.reduceLE, Int.reduceNe, Int.reduceNeg, h0, h3]
    · have h3' : ¬ stepsOk b.plates.length 0 (ones l) = true := by simpa using h3
      have hsp : strengthsP b l = ([], 4) := by simp [strengthsP, hc0, h3']
      simp only [go_sem, Nat.reduceBEq, Nat.reduceEqDiff, Nat.reduceLT, Nat.reduceLeDiff, Nat.reduceAdd, Nat.reduceSub, Nat.reduceMul, reduceCtorEq, Int.reduceToNat, Int.reduceEq, Int.reduceLT, Int.reduceLE, Int.reduceNe, Int.reduceNeg, h0, h3, hsp, List.map_nil, List.length_nil]
      refine c17.call rfl rfl rfl ?_
      simp only [go_sem, Nat.reduceBEq, Nat.reduceEqDiff, Nat.reduceLT, Nat.reduceLeDiff, Nat.reduceAdd, Nat.reduceSub, Nat.reduceMul, reduceCtorEq, Int.reduceToNat, Int.reduceEq, Int.reduceLT, Int.reduceLE, Int.reduceNe, Int.reduceNeg, h0, h3, hsp]
    · have h3' : stepsOk b.plates.length 0 (ones l) = true := by simpa using h3
      have hsp : strengthsP b l = (strengthsL b l (l.length + 1), 0) := by simp [strengthsP, hc0, h3']
      have hmem : ∀ p ∈ l, 0 ≤ p ∧ p < b.plates.length := fun p hp => (stepsOk_mem h3' ⟨p, 1⟩ (List.mem_map.2 ⟨p, hp, rfl⟩)).1
      simp only [go_sem, Nat.reduceBEq, Nat.reduceEqDiff, Nat.reduceLT, Nat.reduceLeDiff, Nat.reduceAdd, Nat.reduceSub, Nat.reduceMul, reduceCtorEq, Int.reduceToNat, Int.reduceEq, Int.reduceLT, Int.reduceLE, Int.reduceNe, Int.reduceNeg, h0, h3, hc0, hsp, strengthsL_len]
      have hw : IntKind.i64.wrap ((l.length : Int) + 1) = ((l.length + 1 : Nat) : Int) := by rw [w64 (by omega) (by omega)]; omega
      rw [hw]
      simp only [go_sem, Nat.reduceBEq, Nat.reduceEqDiff, Nat.reduceLT, Nat.reduceLeDiff, Nat.reduceAdd, Nat.reduceSub, Nat.reduceMul, reduceCtorEq, Int.reduceToNat, Int.reduceEq, Int.reduceLT, Int.reduceLE, Int.reduceNe, Int.reduceNeg, hd0]
      refine ALoop.by (S := Nat) (fun i => [(13, .d (.int .i64 i)), (8, .d (.sl ((strengthsL b l (l.length + 1)).map Sp.d))), (2, .ptr 0 0), (1, .d (.sl (l.map (.int .i64))))])
        (fun i => [.cells [.d (.int .i64 b.str.lo), .d (.int .i64 b.str.hi), .d (.sl (b.plates.map Plate.d))]]) (fun i => l.length + 1 - i) (fun i => i ≤ l.length + 1) 0 (by simp) (fun _ h => nomatch h) (Nat.zero_le _) ?_ ?_
      · refine ForgetTo.drop (H0 := [_]) (Y := [_, _]) (Nat.zero_le _) rfl (by simp [BBs, BB, VBs, VB]) ?_
        simp [EWp, Env.look, pubV]
      rintro i hi2 hn2
      refine AWP.run (fun k => k == 54) tt_ok (fun _ h => nomatch h) (by simp) rfl ?_
      simp only [go_sem, Nat.reduceBEq, Nat.reduceEqDiff, Nat.reduceLT, Nat.reduceLeDiff, Nat.reduceAdd, Nat.reduceSub, Nat.reduceMul, reduceCtorEq, Int.reduceToNat, Int.reduceEq, Int.reduceLT, Int.reduceLE, Int.reduceNe, Int.reduceNeg]
      refine Br_split (fun he => ?_) (fun he => ?_) <;> simp only [go_sem, Nat.reduceBEq, Nat.reduceEqDiff, Nat.reduceLT, Nat.reduceLeDiff, Nat.reduceAdd, Nat.reduceSub, Nat.reduceMul, reduceCtorEq, Int.reduceToNat, Int.reduceEq, Int.reduceLT, Int.reduceLE, Int.reduceNe, Int.reduceNeg, he]
      · have hle2 : i ≤ l.length := by simp only [decide_eq_true_eq] at he; omega
        have hix : idx? ((strengthsL b l (l.length + 1)).map Sp.d) (i : Int) = some (aftS (fellF b (l.take i)) b.str).d := by
          rw [idx_nat, List.getElem?_map, strengthsL, List.getElem?_map, List.getElem?_range (by omega)]; rfl
        have hw1 := weak_aft hok (l.take i) b.str.lo (by omega)
        have hw2 := weak_aft hok (l.take i) b.str.hi (by omega)
        have hmt : ∀ p ∈ l.take i, 0 ≤ p ∧ p < b.plates.length := fun p hp => hmem p (List.mem_of_mem_take hp)
        have c1 : (0 : Int) ≤ (i : Int) := by omega
        have c2 : (i : Int) ≤ (l.length : Int) := by omega
        refine ADrw.treeG (fun k => k == 54) tt_ok (by kernel_rfl) (fun k => if k = 4 ∨ k = 10 ∨ k = 12 ∨ k = 18 then some .L else some .S) (.ones [0, 1, 2, 3, 4, 5, 6, 7, 8, 9, 10, 11, 12, 13, 14, 15, 16, 17, 18, 19, 20, 21] .done) (by simp) (fun _ h => nomatch h) rfl rfl (by kernel_rfl) ?_
        have hsz1 := hsz
        have hlen1 : (l.map (D.int .i64)).length = l.length := by simp
        have c0 : 0 ≤ i := Nat.zero_le _
        simp only [go_sem, Nat.reduceBEq, Nat.reduceEqDiff, Nat.reduceLT, Nat.reduceLeDiff, Nat.reduceAdd, Nat.reduceSub, Nat.reduceMul, reduceCtorEq, Int.reduceToNat, Int.reduceEq, Int.reduceLT, Int.reduceLE, Int.reduceNe, Int.reduceNeg, hix, Sp.d, c1, c0, hle2, Int.toNat_natCast, hsz1, hlen1, if_true, Nat.zero_le, true_and, and_self, and_true, List.drop_zero]
        refine (c27 hok (l.take i) b.str.lo (by simp; omega) (by omega) hmt).callS (by simp [Bath.d, dz, List.map_take]) rfl rfl rfl rfl rfl ?_
        rw [hw1]
        simp only [go_sem, Nat.reduceBEq, Nat.reduceEqDiff, Nat.reduceLT, Nat.reduceLeDiff, Nat.reduceAdd, Nat.reduceSub, Nat.reduceMul, reduceCtorEq, Int.reduceToNat, Int.reduceEq, Int.reduceLT, Int.reduceLE, Int.reduceNe, Int.reduceNeg, hix, Sp.d, c1, c0, hle2, Int.toNat_natCast, hsz1, hlen1, if_true, Nat.zero_le, true_and, and_self, and_true, List.drop_zero]
        refine (c27 hok (l.take i) b.str.hi (by simp; omega) (by omega) hmt).callS (by simp [Bath.d, dz, List.map_take]) rfl rfl rfl rfl rfl ?_
        rw [hw2]
        simp only [go_sem, Nat.reduceBEq, Nat.reduceEqDiff, Nat.reduceLT, Nat.reduceLeDiff, Nat.reduceAdd, Nat.reduceSub, Nat.reduceMul, reduceCtorEq, Int.reduceToNat, Int.reduceEq, Int.reduceLT, Int.reduceLE, Int.reduceNe, Int.reduceNeg, hix, Sp.d, c1, c0, hle2]
        refine (c26 (aft (fellF b (l.take i)) b.str.lo) (aft (fellF b (l.take i)) b.str.hi)).callS rfl rfl rfl rfl rfl rfl ?_
        simp only [go_sem, Nat.reduceBEq, Nat.reduceEqDiff, Nat.reduceLT, Nat.reduceLeDiff, Nat.reduceAdd, Nat.reduceSub, Nat.reduceMul, reduceCtorEq, Int.reduceToNat, Int.reduceEq, Int.reduceLT, Int.reduceLE, Int.reduceNe, Int.reduceNeg, hix, Sp.d, c1, c0, hle2, aftS, hd0]
        refine ⟨i + 1, by omega, by omega, ?_⟩
        exact ForgetTo.same' (by simp) (by simp [EWe, Env.look, aftS, w64 (n := (i : Int) + 1) (by omega) (by omega)]) rfl
      · refine c17.call rfl rfl rfl ?_
        simp only [go_sem, Nat.reduceBEq, Nat.reduceEqDiff, Nat.reduceLT, Nat.reduceLeDiff, Nat.reduceAdd, Nat.reduceSub, Nat.reduceMul, reduceCtorEq, Int.reduceToNat, Int.reduceEq, Int.reduceLT, Int.reduceLE, Int.reduceNe, Int.reduceNeg, he]
  · have hc0 : ¬ checkP b = 0 := by simpa using h0
    have hsp : strengthsP b l = ([], checkP b) := by simp [strengthsP, hc0]
    simp only [go_sem, Nat.reduceBEq, Nat.reduceEqDiff, Nat.reduceLT, Nat.reduceLeDiff, Nat.reduceAdd, Nat.reduceSub, Nat.reduceMul, reduceCtorEq, Int.reduceToNat, Int.reduceEq, Int.reduceLT, Int.reduceLE, Int.reduceNe, Int.reduceNeg, h0, hsp, List.map_nil, List.length_nil, hd0]
    refine c17.call rfl rfl rfl ?_
    simp only [go_sem, Nat.reduceBEq, Nat.reduceEqDiff, Nat.reduceLT, Nat.reduceLeDiff, Nat.reduceAdd, Nat.reduceSub, Nat.reduceMul, reduceCtorEq, Int.reduceToNat, Int.reduceEq, Int.reduceLT, Int.reduceLE, Int.reduceNe, Int.reduceNeg, h0, hsp]
end Go.Aw
end

section
set_option maxRecDepth 100000
namespace Go.Aw
open Go Go.Proofs

theorem has_int {f : Nat} {y : D} (h : HasT Try.prog (f + 1) 3 y) : ∃ n, y = .int .i64 n ∧ (Lit.int .i64 n).wf = true := by
  unfold HasT at h
  rw [Try.underlying3] at h
  exact h

theorem has_sp {f : Nat} {y : D} (h : HasT Try.prog (f + 2) 23 y) : ∃ s : Sp, y = s.d := by
  unfold HasT at h
  rw [Try.underlying23] at h
  obtain ⟨l, rfl, h⟩ := h
  simp only [HasFs] at h
  obtain ⟨y1, r1, rfl, h1, y2, r2, rfl, h2, rfl⟩ := h
  obtain ⟨n1, rfl, _⟩ := has_int h1
  obtain ⟨n2, rfl, _⟩ := has_int h2
  exact ⟨⟨n1, n2⟩, rfl⟩

theorem has_list {α : Type} {enc : α → D} {p : D → Prop} (he : ∀ y, p y → ∃ s, y = enc s) : ∀ l : List D, (∀ y ∈ l, p y) → ∃ ss : List α, l = ss.map enc
  | [], _ => ⟨[], rfl⟩
  | y :: r, h => by
    obtain ⟨s, rfl⟩ := he y (h y (by simp))
    obtain ⟨ss, rfl⟩ := has_list he r fun z hz => h z (List.mem_cons_of_mem _ hz)
    exact ⟨s :: ss, rfl⟩

theorem has_ints {f : Nat} {y : D} (h : HasT Try.prog (f + 2) 27 y) : ∃ l : List Int, y = .sl (l.map (.int .i64)) := by
  unfold HasT at h
  rw [Try.underlying27] at h
  obtain ⟨l, rfl, h1, hl⟩ := h
  obtain ⟨ss, rfl⟩ := has_list (fun y hy => by obtain ⟨n, rfl, hn⟩ := has_int hy; exact ⟨n, rfl⟩) l hl
  exact ⟨ss, rfl⟩

theorem has_plate {f : Nat} {y : D} (h : HasT Try.prog (f + 3) 117 y) : ∃ s : Plate, y = s.d := by
  unfold HasT at h
  rw [Try.underlying117] at h
  obtain ⟨l, rfl, h⟩ := h
  simp only [HasFs] at h
  obtain ⟨y1, r1, rfl, h1, y2, r2, rfl, h2, y3, r3, rfl, h3, rfl⟩ := h
  obtain ⟨n1, rfl⟩ := has_sp h1
  obtain ⟨n2, rfl, _⟩ := has_int h2
  obtain ⟨n3, rfl, _⟩ := has_int h3
  exact ⟨⟨n1, n2, n3⟩, rfl⟩

theorem has_bath {f : Nat} {y : D} (h : HasT Try.prog (f + 5) 26 y) : ∃ s : Bath, y = s.d := by
  unfold HasT at h
  rw [Try.underlying26] at h
  obtain ⟨l, rfl, h⟩ := h
  simp only [HasFs] at h
  obtain ⟨y1, r1, rfl, h1, y2, r2, rfl, h2, rfl⟩ := h
  obtain ⟨n1, rfl⟩ := has_sp h1
  unfold HasT at h2
  rw [Try.underlying24] at h2
  obtain ⟨l2, rfl, _, k2⟩ := h2
  obtain ⟨es, rfl⟩ := has_list (fun y hy => has_plate hy) l2 k2
  exact ⟨⟨n1, es⟩, rfl⟩

theorem has_step {f : Nat} {y : D} (h : HasT Try.prog (f + 2) 39 y) : ∃ s : Step, y = s.d := by
  unfold HasT at h
  rw [Try.underlying39] at h
  obtain ⟨l, rfl, h⟩ := h
  simp only [HasFs] at h
  obtain ⟨y1, r1, rfl, h1, y2, r2, rfl, h2, rfl⟩ := h
  obtain ⟨n1, rfl, _⟩ := has_int h1
  obtain ⟨n2, rfl, _⟩ := has_int h2
  exact ⟨⟨n1, n2⟩, rfl⟩

theorem has_steps {f : Nat} {y : D} (h : HasT Try.prog (f + 3) 37 y) : ∃ l : List Step, y = .sl (l.map Step.d) := by
  unfold HasT at h
  rw [Try.underlying37] at h
  obtain ⟨l, rfl, h1, hl⟩ := h
  obtain ⟨ss, rfl⟩ := has_list (fun y hy => has_step hy) l hl
  exact ⟨ss, rfl⟩
end Go.Aw
end

section
set_option maxRecDepth 100000
namespace Go.Aw
open Go Go.Proofs.Try

theorem c80 (p : Plate) (rust str hours : Int) (hp : p.Ok) (hr : 0 ≤ rust ∧ rust ≤ 600) (hs : 0 ≤ str ∧ str ≤ 40) (hh : 0 ≤ hours ∧ hours ≤ 24) : PC prog 80 [.d p.d, .d (.int .i64 rust), .d (.int .i64 str), .d (.int .i64 hours)] (.d (.int .i64 (howP p rust (str * hours)))) := by
  refine PC.run (fun _ => false) tt_ok (fn := f80) (rs := [.tmp 8]) rfl rfl rfl rfl rfl rfl rfl ?_
  simp only [Plate.Ok] at hp
  have hmul : 0 ≤ str * hours ∧ str * hours ≤ 960 := by
    refine ⟨Int.mul_nonneg hs.1 hh.1, ?_⟩
    have := Int.mul_le_mul hs.2 hh.2 hh.1 (by omega : (0 : Int) ≤ 40)
    omega
  have hw : IntKind.i64.wrap (str * hours) = str * hours := w64 (by omega) (by omega)
  have hw2 : IntKind.i64.wrap (rust + p.thin) = rust + p.thin := w64 (by omega) (by omega)
  simp only [go_sem, Nat.reduceBEq, Nat.reduceEqDiff, Nat.reduceLT, Nat.reduceLeDiff, Nat.reduceAdd, Nat.reduceSub, Nat.reduceMul, reduceCtorEq, Int.reduceToNat, Int.reduceEq, Int.reduceLT, Int.reduceLE, Int.reduceNe, Int.reduceNeg, Plate.d, hw]
  generalize str * hours = loses
  refine Br_split (fun h1 => ?_) (fun h1 => ?_) <;> simp only [go_sem, Nat.reduceBEq, Nat.reduceEqDiff, Nat.reduceLT, Nat.reduceLeDiff, Nat.reduceAdd, Nat.reduceSub, Nat.reduceMul, reduceCtorEq, Int.reduceToNat, Int.reduceEq, Int.reduceLT, Int.reduceLE, Int.reduceNe, Int.reduceNeg, h1, hw2]
  · have h1' : loses < rust := by simpa using h1
    simp [howP, h1']
  · have h1' : ¬ loses < rust := by simpa using h1
    refine Br_split (fun h2 => ?_) (fun h2 => ?_) <;> simp only [go_sem, Nat.reduceBEq, Nat.reduceEqDiff, Nat.reduceLT, Nat.reduceLeDiff, Nat.reduceAdd, Nat.reduceSub, Nat.reduceMul, reduceCtorEq, Int.reduceToNat, Int.reduceEq, Int.reduceLT, Int.reduceLE, Int.reduceNe, Int.reduceNeg, h2]
    · have h2' : loses > rust + p.thin := by simpa using h2
      simp [howP, h1', h2']
    · have h2' : ¬ loses > rust + p.thin := by simpa using h2
      simp [howP, h1', h2']

theorem c32 (l : List Step) (hl : l.length ≤ 1000) : PC prog 32 [.d (.sl (l.map Step.d))] (.d (.sl ((platesOf l).map (.int .i64)))) := by
  refine PC.run (fun k => k == 5) tt_ok (fn := f32) (rs := [.tmp 2]) rfl rfl rfl rfl rfl rfl rfl ?_
  simp only [go_sem, Nat.reduceBEq, Nat.reduceEqDiff, Nat.reduceLT, Nat.reduceLeDiff, Nat.reduceAdd, Nat.reduceSub, Nat.reduceMul, reduceCtorEq, Int.reduceToNat, Int.reduceEq, Int.reduceLT, Int.reduceLE, Int.reduceNe, Int.reduceNeg]
  refine ALoop.by (S := Nat) (fun i => [(4, .d (.int .i64 i)), (3, .ref 0 i 0 i), (0, .d (.sl (l.map Step.d)))]) (fun i => [.arr 1 false ((platesOf (l.take i)).map (.int .i64))]) (fun i => l.length - i) (fun i => i ≤ l.length) 0 (by simp) (fun _ h => nomatch h) (Nat.zero_le _) ?_ ?_
  · exact ForgetTo.same' (by simp) (by simp [EWe, Env.look]) (by simp [platesOf])
  rintro i hi hn
  refine AWP.run (fun k => k == 5) tt_ok (fun _ h => nomatch h) (by simp) rfl ?_
  simp only [go_sem, Nat.reduceBEq, Nat.reduceEqDiff, Nat.reduceLT, Nat.reduceLeDiff, Nat.reduceAdd, Nat.reduceSub, Nat.reduceMul, reduceCtorEq, Int.reduceToNat, Int.reduceEq, Int.reduceLT, Int.reduceLE, Int.reduceNe, Int.reduceNeg]
  refine Br_split (fun hd => ?_) (fun hd => ?_) <;> simp only [go_sem, Nat.reduceBEq, Nat.reduceEqDiff, Nat.reduceLT, Nat.reduceLeDiff, Nat.reduceAdd, Nat.reduceSub, Nat.reduceMul, reduceCtorEq, Int.reduceToNat, Int.reduceEq, Int.reduceLT, Int.reduceLE, Int.reduceNe, Int.reduceNeg, hd]
  · have hlt : i < l.length := by simpa using hd
    have hix : idx? (l.map Step.d) (i : Int) = some (l[i]).d := by simp [idx?, List.getElem?_eq_getElem hlt]
    have hst : (platesOf (l.take (i + 1))).map (D.int .i64) = (platesOf (l.take i)).map (D.int .i64) ++ [.int .i64 l[i].plate] := by
      rw [List.take_add_one, List.getElem?_eq_getElem hlt]; simp only [platesOf, List.map_append, Option.toList_some, List.map_cons, List.map_nil]
    have hln : ((platesOf (l.take i)).map (D.int .i64)).length = i := by simp [platesOf]; omega
    have hln2 : (platesOf (l.take i)).length = i := by simp [platesOf]; omega
    have hi1 : i + 1 ≤ 4294967296 := by omega
    generalize l[i] = x at hix hst
    simp only [go_sem, Nat.reduceBEq, Nat.reduceEqDiff, Nat.reduceLT, Nat.reduceLeDiff, Nat.reduceAdd, Nat.reduceSub, Nat.reduceMul, reduceCtorEq, Int.reduceToNat, Int.reduceEq, Int.reduceLT, Int.reduceLE, Int.reduceNe, Int.reduceNeg, hix, hln, hln2, hi1, Step.d]
    refine ⟨i + 1, hlt, by omega, ?_⟩
    exact ForgetTo.same' (by simp) (by simp [EWe, Env.look, w64 (n := (i : Int) + 1) (by omega) (by omega)]) (by rw [hst])
  · have hie : i = l.length := by simp at hd; omega
    subst hie
    rw [List.take_length]
    have hln : (platesOf l).length = l.length := by simp [platesOf]
    have htk : ((platesOf l).map (D.int .i64)).take l.length = (platesOf l).map (D.int .i64) := List.take_of_length_le (by simp [platesOf])
    simp only [go_sem, Nat.reduceBEq, Nat.reduceEqDiff, Nat.reduceLT, Nat.reduceLeDiff, Nat.reduceAdd, Nat.reduceSub, Nat.reduceMul, reduceCtorEq, Int.reduceToNat, Int.reduceEq, Int.reduceLT, Int.reduceLE, Int.reduceNe, Int.reduceNeg, hln, htk]
end Go.Aw
end

section
set_option maxRecDepth 100000
namespace Go.Aw
open Go Go.Proofs.Try

/-- How many integers a span has. -/
def nR (p : Plate) : Nat := (p.rust.hi + 1 - p.rust.lo).toNat

/-- Some strengths and rusts by which a plate comes out so. -/
def rowW (p : Plate) (loses : Int) (j : Nat) (h : Int) : Bool := (List.range j).any fun j' => decide (howP p (p.rust.lo + (j' : Int)) loses = h)

def strW (b : Bath) (before : List Int) (p : Plate) (hours : Int) (i : Nat) (h : Int) : Bool := (List.range i).any fun i' => rowW p (weakF b before (b.str.lo + (i' : Int)) * hours) (nR p) h

def nS (b : Bath) : Nat := (b.str.hi + 1 - b.str.lo).toNat

def waysR (b : Bath) (before : List Int) (p : Plate) (hours : Int) : List Int := [1, 2, 3].filter fun h => strW b before p hours (nS b) h

theorem rowW_succ (p : Plate) (loses : Int) (j : Nat) (h : Int) : rowW p loses (j + 1) h = (rowW p loses j h || decide (howP p (p.rust.lo + j) loses = h)) := by
  simp [rowW, List.range_succ, List.any_append]

theorem strW_succ (b : Bath) (before : List Int) (p : Plate) (hours : Int) (i : Nat) (h : Int) : strW b before p hours (i + 1) h = (strW b before p hours i h || rowW p (weakF b before (b.str.lo + i) * hours) (nR p) h) := by
  simp [strW, List.range_succ, List.any_append]

def canB (c : Int → Bool) : Blk := .cells [.d (.bool false), .d (.bool (c 1)), .d (.bool (c 2)), .d (.bool (c 3))]

def pltB (p : Plate) : Blk := .cells [.d (.int .i64 p.rust.lo), .d (.int .i64 p.rust.hi), .d (.int .i64 p.takes), .d (.int .i64 p.thin)]

def bthB (b : Bath) : Blk := .cells [.d (.int .i64 b.str.lo), .d (.int .i64 b.str.hi), .d (.sl (b.plates.map Plate.d))]

/-- The heap of Ways; the two blocks may lie either way. -/
def hpW (b : Bath) (p : Plate) (o : Bool) (c : Int → Bool) : Heap := if o = true then [bthB b, canB c, pltB p] else [bthB b, pltB p, canB c]

def outW (c : Int → Bool) (i : Nat) : List Int := ([1, 2, 3].take i).filter c

theorem outW_len (c : Int → Bool) (i : Nat) : (outW c i).length ≤ 3 := by
  have h1 := List.length_filter_le c (([1, 2, 3] : List Int).take i)
  have h2 := List.length_take_le' i ([1, 2, 3] : List Int)
  simp only [outW]
  simp only [List.length_cons, List.length_nil] at h2
  omega

theorem outW_succ (c : Int → Bool) : ∀ i : Nat, i < 3 → outW c (i + 1) = outW c i ++ (if c ((i : Int) + 1) = true then [(i : Int) + 1] else [])
  | 0, _ => by simp [outW, List.filter_cons]
  | 1, _ => by simp [outW, List.filter_cons]; split <;> rfl
  | 2, _ => by simp [outW, List.filter_cons]; split <;> split <;> rfl

theorem c31 {b : Bath} (hok : b.Ok) (before : List Int) (plate hours : Int) (hl : before.length ≤ 1000) (hm : ∀ p ∈ before, 0 ≤ p ∧ p < b.plates.length) (hp : 0 ≤ plate ∧ plate < b.plates.length) (hh : 1 ≤ hours ∧ hours ≤ 24) :
    PC prog 31 [.d b.d, .d (.sl (before.map (.int .i64))), .d (.int .i64 plate), .d (.int .i64 hours)] (.d (.sl ((waysR b before (b.pl plate) hours).map (.int .i64)))) := by
  have hat := Bath.at (b := b) hp
  have hpl := hok.pl plate
  generalize b.pl plate = p at hat hpl
  have hpl' := hpl
  simp only [Plate.Ok] at hpl'
  obtain ⟨s1, s2, s3, _, _⟩ := id hok
  refine PC.of_body tt_ok (fn := f31) (c := bodyOf f31) (rs := [.tmp 8]) rfl rfl rfl rfl rfl rfl ?_
  refine AWP.stepS (S := Bool) 2 (fun o => [(10, .ptr (if o = true then 2 else 1) 0), (9, .ptr (if o = true then 1 else 2) 0), (4, .ptr 0 0), (3, .d (.int .i64 hours)), (1, .d (.sl (before.map (.int .i64))))])
    (fun o => hpW b p o fun _ => false) (fun _ => True) (fun k => k == 52) tt_ok (fun _ h => nomatch h) (Nat.zero_le _) rfl ?_ ?_
  · simp only [go_sem, Nat.reduceBEq, Nat.reduceEqDiff, Nat.reduceLT, Nat.reduceLeDiff, Nat.reduceAdd, Nat.reduceSub, Nat.reduceMul, reduceCtorEq, Int.reduceToNat, Int.reduceEq, Int.reduceLT, Int.reduceLE, Int.reduceNe, Int.reduceNeg, Bath.d]
    refine ADrw.treeG (fun k => k == 52) tt_ok (by kernel_rfl) (fun k => if k = 2 then some .L else if k = 8 ∨ k = 9 then some .W else if k = 6 ∨ k = 7 then some .A else some .S)
      (.ones [0, 1, 3] (.three 2 (.ones [4, 5] (.two 6 (.ones [7, 8, 9] .done) 7 (.ones [6, 8, 9] .done))) 6 (.two 2 (.ones [4, 5, 7, 8, 9] .done) 7 (.two 2 (.ones [4, 5, 8, 9] .done) 8 (.ones [2, 4, 5, 9] .done))) 7 (.two 2 (.ones [4, 5, 6, 8, 9] .done) 6 (.two 2 (.ones [4, 5, 8, 9] .done) 8 (.ones [2, 4, 5, 9] .done)))))
      (Nat.zero_le _) (fun _ h => nomatch h) rfl rfl (by kernel_rfl) ?_
    simp only [go_sem, Nat.reduceBEq, Nat.reduceEqDiff, Nat.reduceLT, Nat.reduceLeDiff, Nat.reduceAdd, Nat.reduceSub, Nat.reduceMul, reduceCtorEq, Int.reduceToNat, Int.reduceEq, Int.reduceLT, Int.reduceLE, Int.reduceNe, Int.reduceNeg, hat, Plate.d]
    repeat' refine And.intro ?_ ?_
    all_goals first
      | (refine ⟨true, ForgetTo.same' ?_ ?_ ?_⟩ <;> simp [EWe, Env.look, hpW, bthB, canB, pltB]; done)
      | (refine ⟨false, ForgetTo.same' ?_ ?_ ?_⟩ <;> simp [EWe, Env.look, hpW, bthB, canB, pltB]; done)
  rintro o - hn0
  have hnr : p.rust.lo + (nR p : Int) = p.rust.hi + 1 := by simp only [nR]; omega
  have hns : b.str.lo + (nS b : Int) = b.str.hi + 1 := by simp only [nS]; omega
  have hf0 : ∀ x : Bool, (x || false) = x := fun x => by simp
  cases o
  · refine AWP.runS (fun k => k == 52) tt_ok (fun _ h => nomatch h) (Nat.zero_le _) rfl ?_
    simp only [go_sem, Nat.reduceBEq, Nat.reduceEqDiff, Nat.reduceLT, Nat.reduceLeDiff, Nat.reduceAdd, Nat.reduceSub, Nat.reduceMul, reduceCtorEq, Int.reduceToNat, Int.reduceEq, Int.reduceLT, Int.reduceLE, Int.reduceNe, Int.reduceNeg, hpW, bthB, canB, pltB, Bool.false_eq_true, if_false, if_true]
    refine ALoop.by (S := Nat) (fun i => [(11, .d (.int .i64 (b.str.lo + i))), (10, .ptr 1 0), (9, .ptr 2 0), (4, .ptr 0 0), (3, .d (.int .i64 hours)), (1, .d (.sl (before.map (.int .i64))))])
      (fun i => hpW b p false (strW b before p hours i)) (fun i => nS b - i) (fun i => i ≤ nS b) 0 (Nat.zero_le _) (fun _ h => nomatch h) (Nat.zero_le _) ?_ ?_
    · exact ForgetTo.same' (by simp [hpW]) (by simp [EWe, Env.look]) (by simp [hpW, bthB, canB, pltB, strW])
    rintro i hi hn
    refine AWP.run (fun k => k == 52) tt_ok (fun _ h => nomatch h) (Nat.zero_le _) rfl ?_
    simp only [go_sem, Nat.reduceBEq, Nat.reduceEqDiff, Nat.reduceLT, Nat.reduceLeDiff, Nat.reduceAdd, Nat.reduceSub, Nat.reduceMul, reduceCtorEq, Int.reduceToNat, Int.reduceEq, Int.reduceLT, Int.reduceLE, Int.reduceNe, Int.reduceNeg, hpW, bthB, canB, pltB, Bool.false_eq_true, if_false, if_true]
    refine Br_split (fun hd => ?_) (fun hd => ?_) <;> simp only [go_sem, Nat.reduceBEq, Nat.reduceEqDiff, Nat.reduceLT, Nat.reduceLeDiff, Nat.reduceAdd, Nat.reduceSub, Nat.reduceMul, reduceCtorEq, Int.reduceToNat, Int.reduceEq, Int.reduceLT, Int.reduceLE, Int.reduceNe, Int.reduceNeg, hd]
    · have hlt : i < nS b := by simp only [decide_eq_true_eq] at hd; omega
      have hwb := weakF_bnd hok before (b.str.lo + i) (by omega) (by omega)
      have hsx : IntKind.i64.wrap (b.str.lo + i + 1) = b.str.lo + ((i + 1 : Nat) : Int) := by rw [w64 (by omega) (by omega)]; omega
      have hss := strW_succ b before p hours i
      refine (c27 hok before (b.str.lo + i) (by omega) (by omega) hm).call rfl rfl rfl ?_
      generalize weakF b before (b.str.lo + i) = now at hwb hss
      generalize strW b before p hours i = c at hss
      simp only [go_sem, Nat.reduceBEq, Nat.reduceEqDiff, Nat.reduceLT, Nat.reduceLeDiff, Nat.reduceAdd, Nat.reduceSub, Nat.reduceMul, reduceCtorEq, Int.reduceToNat, Int.reduceEq, Int.reduceLT, Int.reduceLE, Int.reduceNe, Int.reduceNeg]
      refine ALoop.by (S := Nat) (fun j => [(13, .d (.int .i64 (p.rust.lo + j))), (12, .d (.int .i64 now)), (11, .d (.int .i64 (b.str.lo + i))), (10, .ptr 1 0), (9, .ptr 2 0), (4, .ptr 0 0), (3, .d (.int .i64 hours)), (1, .d (.sl (before.map (.int .i64))))])
        (fun j => hpW b p false fun h => (c h || rowW p (now * hours) j h)) (fun j => nR p - j) (fun j => j ≤ nR p) 0 (Nat.zero_le _) (fun _ h => nomatch h) (Nat.zero_le _) ?_ ?_
      · exact ForgetTo.same' (by simp [hpW]) (by simp [EWe, Env.look]) (by simp [hpW, bthB, canB, pltB, rowW])
      rintro j hj hnj
      refine AWP.run (fun k => k == 52) tt_ok (fun _ h => nomatch h) (Nat.zero_le _) rfl ?_
      simp only [go_sem, Nat.reduceBEq, Nat.reduceEqDiff, Nat.reduceLT, Nat.reduceLeDiff, Nat.reduceAdd, Nat.reduceSub, Nat.reduceMul, reduceCtorEq, Int.reduceToNat, Int.reduceEq, Int.reduceLT, Int.reduceLE, Int.reduceNe, Int.reduceNeg, hpW, bthB, canB, pltB, Bool.false_eq_true, if_false, if_true]
      refine Br_split (fun he => ?_) (fun he => ?_) <;> simp only [go_sem, Nat.reduceBEq, Nat.reduceEqDiff, Nat.reduceLT, Nat.reduceLeDiff, Nat.reduceAdd, Nat.reduceSub, Nat.reduceMul, reduceCtorEq, Int.reduceToNat, Int.reduceEq, Int.reduceLT, Int.reduceLE, Int.reduceNe, Int.reduceNeg, he]
      · have hlt2 : j < nR p := by simp only [decide_eq_true_eq] at he; omega
        have hrx : IntKind.i64.wrap (p.rust.lo + j + 1) = p.rust.lo + ((j + 1 : Nat) : Int) := by rw [w64 (by omega) (by omega)]; omega
        have hrs := rowW_succ p (now * hours) j
        have hin := howP_in p (p.rust.lo + j) (now * hours)
        simp only [go_sem, Nat.reduceBEq, Nat.reduceEqDiff, Nat.reduceLT, Nat.reduceLeDiff, Nat.reduceAdd, Nat.reduceSub, Nat.reduceMul, reduceCtorEq, Int.reduceToNat, Int.reduceEq, Int.reduceLT, Int.reduceLE, Int.reduceNe, Int.reduceNeg]
        refine (c80 p (p.rust.lo + j) now hours hpl (by omega) (by omega) (by omega)).call rfl rfl rfl ?_
        generalize rowW p (now * hours) j = r at hrs
        generalize howP p (p.rust.lo + j) (now * hours) = v at hrs hin
        rcases hin with rfl | rfl | rfl
        all_goals
          simp only [go_sem, Nat.reduceBEq, Nat.reduceEqDiff, Nat.reduceLT, Nat.reduceLeDiff, Nat.reduceAdd, Nat.reduceSub, Nat.reduceMul, reduceCtorEq, Int.reduceToNat, Int.reduceEq, Int.reduceLT, Int.reduceLE, Int.reduceNe, Int.reduceNeg]
          refine ⟨j + 1, hlt2, by omega, ?_⟩
          exact ForgetTo.same' (Nat.zero_le _) (by simp [EWe, Env.look, hrx]) (by simp [hpW, bthB, canB, pltB, hrs])
      · have hje : j = nR p := by simp only [decide_eq_false_iff_not] at he; omega
        subst hje
        refine ⟨i + 1, hlt, by omega, ?_⟩
        exact ForgetTo.same' (Nat.zero_le _) (by simp [EWe, Env.look, hsx]) (by simp [hpW, bthB, canB, pltB, hss])
    · have hie : i = nS b := by simp only [decide_eq_false_iff_not] at hd; omega
      subst hie
      have hwr : waysR b before p hours = [1, 2, 3].filter fun h => strW b before p hours (nS b) h := rfl
      rw [hwr]
      generalize strW b before p hours (nS b) = c
      simp only [go_sem, Nat.reduceBEq, Nat.reduceEqDiff, Nat.reduceLT, Nat.reduceLeDiff, Nat.reduceAdd, Nat.reduceSub, Nat.reduceMul, reduceCtorEq, Int.reduceToNat, Int.reduceEq, Int.reduceLT, Int.reduceLE, Int.reduceNe, Int.reduceNeg]
      refine ALoop.by (S := Nat) (fun i => [(15, .d (.int .i64 ((i : Int) + 1))), (14, .ref 3 (outW c i).length 0 (outW c i).length), (9, .ptr 2 0)])
        (fun i => hpW b p false c ++ [.arr 1 false ((outW c i).map (.int .i64))]) (fun i => 3 - i) (fun i => i ≤ 3) 0 (Nat.zero_le _) (fun _ h => nomatch h) (Nat.zero_le _) ?_ ?_
      · exact ForgetTo.same' (Nat.zero_le _) (by simp [EWe, Env.look, outW]) (by simp [hpW, bthB, canB, pltB, outW])
      rintro i hi3 hni
      refine AWP.run (fun k => k == 52) tt_ok (fun _ h => nomatch h) (Nat.zero_le _) rfl ?_
      simp only [go_sem, Nat.reduceBEq, Nat.reduceEqDiff, Nat.reduceLT, Nat.reduceLeDiff, Nat.reduceAdd, Nat.reduceSub, Nat.reduceMul, reduceCtorEq, Int.reduceToNat, Int.reduceEq, Int.reduceLT, Int.reduceLE, Int.reduceNe, Int.reduceNeg, hpW, bthB, canB, pltB, Bool.false_eq_true, if_false, if_true]
      refine Br_split (fun he => ?_) (fun he => ?_) <;> simp only [go_sem, Nat.reduceBEq, Nat.reduceEqDiff, Nat.reduceLT, Nat.reduceLeDiff, Nat.reduceAdd, Nat.reduceSub, Nat.reduceMul, reduceCtorEq, Int.reduceToNat, Int.reduceEq, Int.reduceLT, Int.reduceLE, Int.reduceNe, Int.reduceNeg, he]
      · have hlt2 : (i : Int) + 1 = 1 ∨ (i : Int) + 1 = 2 ∨ (i : Int) + 1 = 3 := by simp only [decide_eq_true_eq] at he; omega
        have hol := outW_len c i
        have hol2 : (outW c i).length + 1 ≤ 4294967296 := by omega
        have hos := outW_succ c i (by omega)
        rcases hlt2 with hz | hz | hz
        all_goals
          rw [hz] at hos
          simp only [go_sem, Nat.reduceBEq, Nat.reduceEqDiff, Nat.reduceLT, Nat.reduceLeDiff, Nat.reduceAdd, Nat.reduceSub, Nat.reduceMul, reduceCtorEq, Int.reduceToNat, Int.reduceEq, Int.reduceLT, Int.reduceLE, Int.reduceNe, Int.reduceNeg, Int.reduceAdd, hz]
          refine Br_split (fun hg => ?_) (fun hg => ?_) <;> simp only [go_sem, Nat.reduceBEq, Nat.reduceEqDiff, Nat.reduceLT, Nat.reduceLeDiff, Nat.reduceAdd, Nat.reduceSub, Nat.reduceMul, reduceCtorEq, Int.reduceToNat, Int.reduceEq, Int.reduceLT, Int.reduceLE, Int.reduceNe, Int.reduceNeg, Int.reduceAdd, hg, hol2, List.length_map, hz]
          · refine ⟨i + 1, by omega, by omega, ForgetTo.same' (Nat.zero_le _) ?_ ?_⟩
            · simp [EWe, Env.look, hos, hg, wrap_i2, wrap_i3, wrap_i4, hz]
            · simp [hpW, bthB, canB, pltB, hos, hg]
          · refine ⟨i + 1, by omega, by omega, ForgetTo.same' (Nat.zero_le _) ?_ ?_⟩
            · simp [EWe, Env.look, hos, hg, wrap_i2, wrap_i3, wrap_i4, hz]
            · simp [hpW, bthB, canB, pltB, hos, hg]
      · have hie : i = 3 := by simp only [decide_eq_false_iff_not] at he; omega
        subst hie
        have htk : ((outW c 3).map (D.int .i64)).take (outW c 3).length = (outW c 3).map (D.int .i64) := List.take_of_length_le (by simp)
        simp only [go_sem, Nat.reduceBEq, Nat.reduceEqDiff, Nat.reduceLT, Nat.reduceLeDiff, Nat.reduceAdd, Nat.reduceSub, Nat.reduceMul, reduceCtorEq, Int.reduceToNat, Int.reduceEq, Int.reduceLT, Int.reduceLE, Int.reduceNe, Int.reduceNeg, htk, List.length_map]
        rfl

  · refine AWP.runS (fun k => k == 52) tt_ok (fun _ h => nomatch h) (Nat.zero_le _) rfl ?_
    simp only [go_sem, Nat.reduceBEq, Nat.reduceEqDiff, Nat.reduceLT, Nat.reduceLeDiff, Nat.reduceAdd, Nat.reduceSub, Nat.reduceMul, reduceCtorEq, Int.reduceToNat, Int.reduceEq, Int.reduceLT, Int.reduceLE, Int.reduceNe, Int.reduceNeg, hpW, bthB, canB, pltB, Bool.false_eq_true, if_false, if_true]
    refine ALoop.by (S := Nat) (fun i => [(11, .d (.int .i64 (b.str.lo + i))), (10, .ptr 2 0), (9, .ptr 1 0), (4, .ptr 0 0), (3, .d (.int .i64 hours)), (1, .d (.sl (before.map (.int .i64))))])
      (fun i => hpW b p true (strW b before p hours i)) (fun i => nS b - i) (fun i => i ≤ nS b) 0 (Nat.zero_le _) (fun _ h => nomatch h) (Nat.zero_le _) ?_ ?_
    · exact ForgetTo.same' (by simp [hpW]) (by simp [EWe, Env.look]) (by simp [hpW, bthB, canB, pltB, strW])
    rintro i hi hn
    refine AWP.run (fun k => k == 52) tt_ok (fun _ h => nomatch h) (Nat.zero_le _) rfl ?_
    simp only [go_sem, Nat.reduceBEq, Nat.reduceEqDiff, Nat.reduceLT, Nat.reduceLeDiff, Nat.reduceAdd, Nat.reduceSub, Nat.reduceMul, reduceCtorEq, Int.reduceToNat, Int.reduceEq, Int.reduceLT, Int.reduceLE, Int.reduceNe, Int.reduceNeg, hpW, bthB, canB, pltB, Bool.false_eq_true, if_false, if_true]
    refine Br_split (fun hd => ?_) (fun hd => ?_) <;> simp only [go_sem, Nat.reduceBEq, Nat.reduceEqDiff, Nat.reduceLT, Nat.reduceLeDiff, Nat.reduceAdd, Nat.reduceSub, Nat.reduceMul, reduceCtorEq, Int.reduceToNat, Int.reduceEq, Int.reduceLT, Int.reduceLE, Int.reduceNe, Int.reduceNeg, hd]
    · have hlt : i < nS b := by simp only [decide_eq_true_eq] at hd; omega
      have hwb := weakF_bnd hok before (b.str.lo + i) (by omega) (by omega)
      have hsx : IntKind.i64.wrap (b.str.lo + i + 1) = b.str.lo + ((i + 1 : Nat) : Int) := by rw [w64 (by omega) (by omega)]; omega
      have hss := strW_succ b before p hours i
      refine (c27 hok before (b.str.lo + i) (by omega) (by omega) hm).call rfl rfl rfl ?_
      generalize weakF b before (b.str.lo + i) = now at hwb hss
      generalize strW b before p hours i = c at hss
      simp only [go_sem, Nat.reduceBEq, Nat.reduceEqDiff, Nat.reduceLT, Nat.reduceLeDiff, Nat.reduceAdd, Nat.reduceSub, Nat.reduceMul, reduceCtorEq, Int.reduceToNat, Int.reduceEq, Int.reduceLT, Int.reduceLE, Int.reduceNe, Int.reduceNeg]
      refine ALoop.by (S := Nat) (fun j => [(13, .d (.int .i64 (p.rust.lo + j))), (12, .d (.int .i64 now)), (11, .d (.int .i64 (b.str.lo + i))), (10, .ptr 2 0), (9, .ptr 1 0), (4, .ptr 0 0), (3, .d (.int .i64 hours)), (1, .d (.sl (before.map (.int .i64))))])
        (fun j => hpW b p true fun h => (c h || rowW p (now * hours) j h)) (fun j => nR p - j) (fun j => j ≤ nR p) 0 (Nat.zero_le _) (fun _ h => nomatch h) (Nat.zero_le _) ?_ ?_
      · exact ForgetTo.same' (by simp [hpW]) (by simp [EWe, Env.look]) (by simp [hpW, bthB, canB, pltB, rowW])
      rintro j hj hnj
      refine AWP.run (fun k => k == 52) tt_ok (fun _ h => nomatch h) (Nat.zero_le _) rfl ?_
      simp only [go_sem, Nat.reduceBEq, Nat.reduceEqDiff, Nat.reduceLT, Nat.reduceLeDiff, Nat.reduceAdd, Nat.reduceSub, Nat.reduceMul, reduceCtorEq, Int.reduceToNat, Int.reduceEq, Int.reduceLT, Int.reduceLE, Int.reduceNe, Int.reduceNeg, hpW, bthB, canB, pltB, Bool.false_eq_true, if_false, if_true]
      refine Br_split (fun he => ?_) (fun he => ?_) <;> simp only [go_sem, Nat.reduceBEq, Nat.reduceEqDiff, Nat.reduceLT, Nat.reduceLeDiff, Nat.reduceAdd, Nat.reduceSub, Nat.reduceMul, reduceCtorEq, Int.reduceToNat, Int.reduceEq, Int.reduceLT, Int.reduceLE, Int.reduceNe, Int.reduceNeg, he]
      · have hlt2 : j < nR p := by simp only [decide_eq_true_eq] at he; omega
        have hrx : IntKind.i64.wrap (p.rust.lo + j + 1) = p.rust.lo + ((j + 1 : Nat) : Int) := by rw [w64 (by omega) (by omega)]; omega
        have hrs := rowW_succ p (now * hours) j
        have hin := howP_in p (p.rust.lo + j) (now * hours)
        simp only [go_sem, Nat.reduceBEq, Nat.reduceEqDiff, Nat.reduceLT, Nat.reduceLeDiff, Nat.reduceAdd, Nat.reduceSub, Nat.reduceMul, reduceCtorEq, Int.reduceToNat, Int.reduceEq, Int.reduceLT, Int.reduceLE, Int.reduceNe, Int.reduceNeg]
        refine (c80 p (p.rust.lo + j) now hours hpl (by omega) (by omega) (by omega)).call rfl rfl rfl ?_
        generalize rowW p (now * hours) j = r at hrs
        generalize howP p (p.rust.lo + j) (now * hours) = v at hrs hin
        rcases hin with rfl | rfl | rfl
        all_goals
          simp only [go_sem, Nat.reduceBEq, Nat.reduceEqDiff, Nat.reduceLT, Nat.reduceLeDiff, Nat.reduceAdd, Nat.reduceSub, Nat.reduceMul, reduceCtorEq, Int.reduceToNat, Int.reduceEq, Int.reduceLT, Int.reduceLE, Int.reduceNe, Int.reduceNeg]
          refine ⟨j + 1, hlt2, by omega, ?_⟩
          exact ForgetTo.same' (Nat.zero_le _) (by simp [EWe, Env.look, hrx]) (by simp [hpW, bthB, canB, pltB, hrs])
      · have hje : j = nR p := by simp only [decide_eq_false_iff_not] at he; omega
        subst hje
        refine ⟨i + 1, hlt, by omega, ?_⟩
        exact ForgetTo.same' (Nat.zero_le _) (by simp [EWe, Env.look, hsx]) (by simp [hpW, bthB, canB, pltB, hss])
    · have hie : i = nS b := by simp only [decide_eq_false_iff_not] at hd; omega
      subst hie
      have hwr : waysR b before p hours = [1, 2, 3].filter fun h => strW b before p hours (nS b) h := rfl
      rw [hwr]
      generalize strW b before p hours (nS b) = c
      simp only [go_sem, Nat.reduceBEq, Nat.reduceEqDiff, Nat.reduceLT, Nat.reduceLeDiff, Nat.reduceAdd, Nat.reduceSub, Nat.reduceMul, reduceCtorEq, Int.reduceToNat, Int.reduceEq, Int.reduceLT, Int.reduceLE, Int.reduceNe, Int.reduceNeg]
      refine ALoop.by (S := Nat) (fun i => [(15, .d (.int .i64 ((i : Int) + 1))), (14, .ref 3 (outW c i).length 0 (outW c i).length), (9, .ptr 1 0)])
        (fun i => hpW b p true c ++ [.arr 1 false ((outW c i).map (.int .i64))]) (fun i => 3 - i) (fun i => i ≤ 3) 0 (Nat.zero_le _) (fun _ h => nomatch h) (Nat.zero_le _) ?_ ?_
      · exact ForgetTo.same' (Nat.zero_le _) (by simp [EWe, Env.look, outW]) (by simp [hpW, bthB, canB, pltB, outW])
      rintro i hi3 hni
      refine AWP.run (fun k => k == 52) tt_ok (fun _ h => nomatch h) (Nat.zero_le _) rfl ?_
      simp only [go_sem, Nat.reduceBEq, Nat.reduceEqDiff, Nat.reduceLT, Nat.reduceLeDiff, Nat.reduceAdd, Nat.reduceSub, Nat.reduceMul, reduceCtorEq, Int.reduceToNat, Int.reduceEq, Int.reduceLT, Int.reduceLE, Int.reduceNe, Int.reduceNeg, hpW, bthB, canB, pltB, Bool.false_eq_true, if_false, if_true]
      refine Br_split (fun he => ?_) (fun he => ?_) <;> simp only [go_sem, Nat.reduceBEq, Nat.reduceEqDiff, Nat.reduceLT, Nat.reduceLeDiff, Nat.reduceAdd, Nat.reduceSub, Nat.reduceMul, reduceCtorEq, Int.reduceToNat, Int.reduceEq, Int.reduceLT, Int.reduceLE, Int.reduceNe, Int.reduceNeg, he]
      · have hlt2 : (i : Int) + 1 = 1 ∨ (i : Int) + 1 = 2 ∨ (i : Int) + 1 = 3 := by simp only [decide_eq_true_eq] at he; omega
        have hol := outW_len c i
        have hol2 : (outW c i).length + 1 ≤ 4294967296 := by omega
        have hos := outW_succ c i (by omega)
        rcases hlt2 with hz | hz | hz
        all_goals
          rw [hz] at hos
          simp only [go_sem, Nat.reduceBEq, Nat.reduceEqDiff, Nat.reduceLT, Nat.reduceLeDiff, Nat.reduceAdd, Nat.reduceSub, Nat.reduceMul, reduceCtorEq, Int.reduceToNat, Int.reduceEq, Int.reduceLT, Int.reduceLE, Int.reduceNe, Int.reduceNeg, Int.reduceAdd, hz]
          refine Br_split (fun hg => ?_) (fun hg => ?_) <;> simp only [go_sem, Nat.reduceBEq, Nat.reduceEqDiff, Nat.reduceLT, Nat.reduceLeDiff, Nat.reduceAdd, Nat.reduceSub, Nat.reduceMul, reduceCtorEq, Int.reduceToNat, Int.reduceEq, Int.reduceLT, Int.reduceLE, Int.reduceNe, Int.reduceNeg, Int.reduceAdd, hg, hol2, List.length_map, hz]
          · refine ⟨i + 1, by omega, by omega, ForgetTo.same' (Nat.zero_le _) ?_ ?_⟩
            · simp [EWe, Env.look, hos, hg, wrap_i2, wrap_i3, wrap_i4, hz]
            · simp [hpW, bthB, canB, pltB, hos, hg]
          · refine ⟨i + 1, by omega, by omega, ForgetTo.same' (Nat.zero_le _) ?_ ?_⟩
            · simp [EWe, Env.look, hos, hg, wrap_i2, wrap_i3, wrap_i4, hz]
            · simp [hpW, bthB, canB, pltB, hos, hg]
      · have hie : i = 3 := by simp only [decide_eq_false_iff_not] at he; omega
        subst hie
        have htk : ((outW c 3).map (D.int .i64)).take (outW c 3).length = (outW c 3).map (D.int .i64) := List.take_of_length_le (by simp)
        simp only [go_sem, Nat.reduceBEq, Nat.reduceEqDiff, Nat.reduceLT, Nat.reduceLeDiff, Nat.reduceAdd, Nat.reduceSub, Nat.reduceMul, reduceCtorEq, Int.reduceToNat, Int.reduceEq, Int.reduceLT, Int.reduceLE, Int.reduceNe, Int.reduceNeg, htk, List.length_map]
        rfl
end Go.Aw
end

section
set_option maxRecDepth 100000
namespace Go.Aw
open Go Go.Proofs.Try

theorem stepM_mem (p : Plate) (M : List Int) (loses h : Int) : h ∈ stepM p M loses ↔ h ∈ M ∨ h = howP p p.rust.lo loses ∨ h = howP p p.rust.hi loses ∨ (loses ≥ p.rust.lo ∧ loses ≤ p.rust.hi + p.thin ∧ h = 2) := by
  unfold stepM
  split
  · rename_i hc
    simp only [Bool.and_eq_true, decide_eq_true_eq] at hc
    rw [insM_mem, insM_mem, insM_mem]
    constructor
    · rintro (((h | h) | h) | h)
      · exact .inl h
      · exact .inr (.inl h)
      · exact .inr (.inr (.inl h))
      · exact .inr (.inr (.inr ⟨hc.1, hc.2, h⟩))
    · rintro (h | h | h | h)
      · exact .inl (.inl (.inl h))
      · exact .inl (.inl (.inr h))
      · exact .inl (.inr h)
      · exact .inr h.2.2
  · rename_i hc
    simp only [Bool.and_eq_true, decide_eq_true_eq] at hc
    rw [insM_mem, insM_mem]
    constructor
    · rintro ((h | h) | h)
      · exact .inl h
      · exact .inr (.inl h)
      · exact .inr (.inr (.inl h))
    · rintro (h | h | h | h)
      · exact .inl (.inl h)
      · exact .inl (.inr h)
      · exact .inr h
      · exact absurd ⟨h.1, h.2.1⟩ hc

theorem rowW_iff {p : Plate} (hp : p.Ok) (loses h : Int) : rowW p loses (nR p) h = true ↔ h = howP p p.rust.lo loses ∨ h = howP p p.rust.hi loses ∨ (loses ≥ p.rust.lo ∧ loses ≤ p.rust.hi + p.thin ∧ h = 2) := by
  simp only [Plate.Ok] at hp
  simp only [rowW, List.any_eq_true, List.mem_range, decide_eq_true_eq]
  have hnr : p.rust.lo + (nR p : Int) = p.rust.hi + 1 := by simp only [nR]; omega
  constructor
  · rintro ⟨j, hj, rfl⟩
    unfold howP
    repeat' split
    all_goals omega
  · have mk : ∀ r : Int, p.rust.lo ≤ r → r ≤ p.rust.hi → h = howP p r loses → ∃ j : Nat, j < nR p ∧ howP p (p.rust.lo + j) loses = h := fun r h1 h2 h3 =>
      ⟨(r - p.rust.lo).toNat, by omega, by rw [show p.rust.lo + ((r - p.rust.lo).toNat : Int) = r by omega, h3]⟩
    rintro (h1 | h1 | ⟨h1, h2, h3⟩)
    · exact mk p.rust.lo (by omega) (by omega) h1
    · exact mk p.rust.hi (by omega) (by omega) h1
    · refine mk (min p.rust.hi loses) (by omega) (by omega) ?_
      rw [h3]
      unfold howP
      repeat' split
      all_goals omega

theorem canM_mem (b : Bath) (x : Step) (fell h : Int) : ∀ n, h ∈ canM b x fell n ↔ ∃ i, i < n ∧ (h = howP (b.pl x.plate) (b.pl x.plate).rust.lo (losesAt b x fell i) ∨ h = howP (b.pl x.plate) (b.pl x.plate).rust.hi (losesAt b x fell i) ∨ (losesAt b x fell i ≥ (b.pl x.plate).rust.lo ∧ losesAt b x fell i ≤ (b.pl x.plate).rust.hi + (b.pl x.plate).thin ∧ h = 2))
  | 0 => by simp [canM]
  | n + 1 => by
    rw [canM_succ, stepM_mem, canM_mem b x fell h n]
    constructor
    · rintro (⟨i, hi, hh⟩ | hh)
      · exact ⟨i, by omega, hh⟩
      · exact ⟨n, by omega, hh⟩
    · rintro ⟨i, hi, hh⟩
      by_cases h2 : i = n
      · subst h2; exact .inr hh
      · exact .inl ⟨i, by omega, hh⟩

theorem ways_eq {b : Bath} (hok : b.Ok) (before : List Int) (x : Step) : waysL b x (fellF b before) = waysR b before (b.pl x.plate) x.hours := by
  have hn : nStr b = nS b := by simp only [nStr, nS]; congr 1; omega
  unfold waysL waysR
  congr 1
  funext h
  rw [hn, Bool.eq_iff_iff, List.contains_iff_mem, canM_mem]
  simp only [strW, List.any_eq_true, List.mem_range]
  have hb := hok.1
  constructor
  · rintro ⟨i, hi, hh⟩
    refine ⟨i, hi, ?_⟩
    rw [weak_aft hok before _ (by omega)]
    exact (rowW_iff (hok.pl x.plate) _ _).2 hh
  · rintro ⟨i, hi, hh⟩
    refine ⟨i, hi, ?_⟩
    rw [weak_aft hok before _ (by omega)] at hh
    exact (rowW_iff (hok.pl x.plate) _ _).1 hh
theorem c4 (b : Bath) (l : List Step) : PC prog 4 [.d b.d, .d (.sl (l.map Step.d))] (.d (.bool true)) := by
  refine PC.run (fun _ => false) tt_ok (fn := f4) (rs := [.tmp 4]) rfl rfl rfl rfl rfl rfl rfl ?_
  simp only [go_sem, Nat.reduceBEq, Nat.reduceEqDiff, Nat.reduceLT, Nat.reduceLeDiff, Nat.reduceAdd, Nat.reduceSub, Nat.reduceMul, reduceCtorEq, Int.reduceToNat, Int.reduceEq, Int.reduceLT, Int.reduceLE, Int.reduceNe, Int.reduceNeg, Bath.d]
  refine Br_split (fun h1 => ?_) (fun h1 => ?_) <;> simp only [go_sem, Nat.reduceBEq, Nat.reduceEqDiff, Nat.reduceLT, Nat.reduceLeDiff, Nat.reduceAdd, Nat.reduceSub, Nat.reduceMul, reduceCtorEq, Int.reduceToNat, Int.reduceEq, Int.reduceLT, Int.reduceLE, Int.reduceNe, Int.reduceNeg, h1]
  · refine c17.call rfl rfl rfl ?_
    simp only [go_sem, Nat.reduceBEq, Nat.reduceEqDiff, Nat.reduceLT, Nat.reduceLeDiff, Nat.reduceAdd, Nat.reduceSub, Nat.reduceMul, reduceCtorEq, Int.reduceToNat, Int.reduceEq, Int.reduceLT, Int.reduceLE, Int.reduceNe, Int.reduceNeg, h1]
  refine Br_split (fun h2 => ?_) (fun h2 => ?_) <;> simp only [go_sem, Nat.reduceBEq, Nat.reduceEqDiff, Nat.reduceLT, Nat.reduceLeDiff, Nat.reduceAdd, Nat.reduceSub, Nat.reduceMul, reduceCtorEq, Int.reduceToNat, Int.reduceEq, Int.reduceLT, Int.reduceLE, Int.reduceNe, Int.reduceNeg, h1, h2]
  · refine c17.call rfl rfl rfl ?_
    simp only [go_sem, Nat.reduceBEq, Nat.reduceEqDiff, Nat.reduceLT, Nat.reduceLeDiff, Nat.reduceAdd, Nat.reduceSub, Nat.reduceMul, reduceCtorEq, Int.reduceToNat, Int.reduceEq, Int.reduceLT, Int.reduceLE, Int.reduceNe, Int.reduceNeg, h1, h2]
  have hb : b.plates.length ≤ 20 := by simp only [decide_eq_false_iff_not] at h1; omega
  have hl : l.length ≤ 20 := by simp only [decide_eq_false_iff_not] at h2; omega
  refine (c18 b (by omega)).call rfl rfl rfl ?_
  have hle : l.length ≤ 4294967296 := by omega
  have hsz := sized_steps l
  simp only [go_sem, Nat.reduceBEq, Nat.reduceEqDiff, Nat.reduceLT, Nat.reduceLeDiff, Nat.reduceAdd, Nat.reduceSub, Nat.reduceMul, reduceCtorEq, Int.reduceToNat, Int.reduceEq, Int.reduceLT, Int.reduceLE, Int.reduceNe, Int.reduceNeg, h1, h2, Bath.d, hle, hsz, List.length_map, List.nil_append, Nat.zero_add]
  refine (c28 b l (by omega) (by omega)).call rfl rfl rfl ?_
  simp only [go_sem, Nat.reduceBEq, Nat.reduceEqDiff, Nat.reduceLT, Nat.reduceLeDiff, Nat.reduceAdd, Nat.reduceSub, Nat.reduceMul, reduceCtorEq, Int.reduceToNat, Int.reduceEq, Int.reduceLT, Int.reduceLE, Int.reduceNe, Int.reduceNeg, h1, h2]
  refine (c22 b b (by omega) (by omega)).call rfl rfl rfl ?_
  have hd0 : ∀ {α : Type} [DecidableEq α] (l : α), decide (l = l) = true := fun l => by simp
  simp only [go_sem, Nat.reduceBEq, Nat.reduceEqDiff, Nat.reduceLT, Nat.reduceLeDiff, Nat.reduceAdd, Nat.reduceSub, Nat.reduceMul, reduceCtorEq, Int.reduceToNat, Int.reduceEq, Int.reduceLT, Int.reduceLE, Int.reduceNe, Int.reduceNeg, h1, h2, hd0]
  refine (c29 l l (by omega) (by omega)).call rfl rfl rfl ?_
  simp only [go_sem, Nat.reduceBEq, Nat.reduceEqDiff, Nat.reduceLT, Nat.reduceLeDiff, Nat.reduceAdd, Nat.reduceSub, Nat.reduceMul, reduceCtorEq, Int.reduceToNat, Int.reduceEq, Int.reduceLT, Int.reduceLE, Int.reduceNe, Int.reduceNeg, h1, h2, hd0]
  refine (c21 b (by omega)).call rfl rfl rfl ?_
  simp only [go_sem, Nat.reduceBEq, Nat.reduceEqDiff, Nat.reduceLT, Nat.reduceLeDiff, Nat.reduceAdd, Nat.reduceSub, Nat.reduceMul, reduceCtorEq, Int.reduceToNat, Int.reduceEq, Int.reduceLT, Int.reduceLE, Int.reduceNe, Int.reduceNeg, h1, h2]
  refine Br_split (fun h0 => ?_) (fun h0 => ?_) <;> simp only [go_sem, Nat.reduceBEq, Nat.reduceEqDiff, Nat.reduceLT, Nat.reduceLeDiff, Nat.reduceAdd, Nat.reduceSub, Nat.reduceMul, reduceCtorEq, Int.reduceToNat, Int.reduceEq, Int.reduceLT, Int.reduceLE, Int.reduceNe, Int.reduceNeg, h0]
  · have hc0 : checkP b = 0 := by simpa using h0
    have hok := checkP_iff.1 hc0
    refine (c25 b l (by omega) (by omega)).call rfl rfl rfl ?_
    simp only [go_sem, Nat.reduceBEq, Nat.reduceEqDiff, Nat.reduceLT, Nat.reduceLeDiff, Nat.reduceAdd, Nat.reduceSub, Nat.reduceMul, reduceCtorEq, Int.reduceToNat, Int.reduceEq, Int.reduceLT, Int.reduceLE, Int.reduceNe, Int.reduceNeg, h0]
    refine Br_split (fun h3 => ?_) (fun h3 => ?_) <;> simp only [go_sem, Nat.reduceBEq, Nat.reduceEqDiff, Nat.reduceLT, Nat.reduceLeDiff, Nat.reduceAdd, Nat.reduceSub, Nat.reduceMul, reduceCtorEq, Int.reduceToNat, Int.reduceEq, Int.reduceLT, Int.reduceLE, Int.reduceNe, Int.reduceNeg, h0, h3]
    · have h3' : ¬ stepsOk b.plates.length 0 l = true := by simpa using h3
      have hsp : outP b l = ([], 4) := by simp [outP, hc0, h3']
      simp only [go_sem, Nat.reduceBEq, Nat.reduceEqDiff, Nat.reduceLT, Nat.reduceLeDiff, Nat.reduceAdd, Nat.reduceSub, Nat.reduceMul, reduceCtorEq, Int.reduceToNat, Int.reduceEq, Int.reduceLT, Int.reduceLE, Int.reduceNe, Int.reduceNeg, h0, h3, hsp, List.map_nil, List.length_nil]
      refine c17.call rfl rfl rfl ?_
      simp only [go_sem, Nat.reduceBEq, Nat.reduceEqDiff, Nat.reduceLT, Nat.reduceLeDiff, Nat.reduceAdd, Nat.reduceSub, Nat.reduceMul, reduceCtorEq, Int.reduceToNat, Int.reduceEq, Int.reduceLT, Int.reduceLE, Int.reduceNe, Int.reduceNeg, h0, h3, hsp]
    · have h3' : stepsOk b.plates.length 0 l = true := by simpa using h3
      have hsp : outP b l = (outL b l l.length, 0) := by simp [outP, hc0, h3']
      have hmem := stepsOk_mem h3'
      simp only [go_sem, Nat.reduceBEq, Nat.reduceEqDiff, Nat.reduceLT, Nat.reduceLeDiff, Nat.reduceAdd, Nat.reduceSub, Nat.reduceMul, reduceCtorEq, Int.reduceToNat, Int.reduceEq, Int.reduceLT, Int.reduceLE, Int.reduceNe, Int.reduceNeg, h0, h3, hc0, hsp, outL_len, hd0]
      refine ALoop.by (S := Nat) (fun i => [(10, .d (.int .i64 i)), (7, .d (.sl ((outL b l l.length).map intsD))), (2, .ptr 0 0), (1, .d (.sl (l.map Step.d)))])
        (fun i => [bthB b]) (fun i => l.length - i) (fun i => i ≤ l.length) 0 (by simp) (fun _ h => nomatch h) (Nat.zero_le _) ?_ ?_
      · refine ForgetTo.drop (H0 := [_]) (Y := [_]) (Nat.zero_le _) rfl (by simp [BBs, BB, VBs, VB, bthB]) ?_
        simp [EWp, Env.look, pubV]
      rintro i hi2 hn2
      refine AWP.run (fun _ => false) tt_ok (fun _ h => nomatch h) (by simp) rfl ?_
      simp only [go_sem, Nat.reduceBEq, Nat.reduceEqDiff, Nat.reduceLT, Nat.reduceLeDiff, Nat.reduceAdd, Nat.reduceSub, Nat.reduceMul, reduceCtorEq, Int.reduceToNat, Int.reduceEq, Int.reduceLT, Int.reduceLE, Int.reduceNe, Int.reduceNeg, bthB]
      refine Br_split (fun he => ?_) (fun he => ?_) <;> simp only [go_sem, Nat.reduceBEq, Nat.reduceEqDiff, Nat.reduceLT, Nat.reduceLeDiff, Nat.reduceAdd, Nat.reduceSub, Nat.reduceMul, reduceCtorEq, Int.reduceToNat, Int.reduceEq, Int.reduceLT, Int.reduceLE, Int.reduceNe, Int.reduceNeg, he]
      · have hlt : i < l.length := by simpa using he
        have hgx : l[i]? = some l[i] := List.getElem?_eq_getElem hlt
        have hgd : l.getD i ⟨0, 0⟩ = l[i] := by rw [List.getD_eq_getElem?_getD, hgx]; rfl
        have hix : idx? ((outL b l l.length).map intsD) (i : Int) = some (intsD (waysL b l[i] (fellF b ((platesOf l).take i)))) := by
          rw [idx_nat, List.getElem?_map, outL, List.getElem?_map, List.getElem?_range hlt]; simp only [Option.map_some, hgd]
        have hiy : idx? (l.map Step.d) (i : Int) = some (l[i]).d := by simp [idx?, List.getElem?_eq_getElem hlt]
        have hpt : platesOf (l.take i) = (platesOf l).take i := by simp [platesOf, List.map_take]
        have hwe := ways_eq hok ((platesOf l).take i) l[i]
        rw [hwe] at hix
        obtain ⟨m1, m2⟩ := hmem _ (List.getElem_mem hlt)
        have hmt : ∀ p ∈ (platesOf l).take i, 0 ≤ p ∧ p < b.plates.length := fun p hp => by
          obtain ⟨x, hx, rfl⟩ := List.mem_map.1 (List.mem_of_mem_take hp)
          exact (hmem x hx).1
        generalize l[i] = x at hix hiy m1 m2
        have hsz2 : sized 2 (l.map Step.d) = true := sized_steps l
        have hlen1 : (l.map Step.d).length = l.length := by simp
        have c1 : (0 : Int) ≤ (i : Int) := by omega
        have c0 : 0 ≤ i := Nat.zero_le _
        refine ADrw.treeG (fun _ => false) tt_ok (by kernel_rfl) (fun k => if k = 4 then some .L else some .S) (.ones [0, 1, 2, 3, 4, 5, 6, 7, 8, 9, 10, 11, 12, 13, 14, 15, 16, 17, 18, 19, 20, 21] .done) (by simp) (fun _ h => nomatch h) rfl rfl (by kernel_rfl) ?_
        simp only [go_sem, Nat.reduceBEq, Nat.reduceEqDiff, Nat.reduceLT, Nat.reduceLeDiff, Nat.reduceAdd, Nat.reduceSub, Nat.reduceMul, reduceCtorEq, Int.reduceToNat, Int.reduceEq, Int.reduceLT, Int.reduceLE, Int.reduceNe, Int.reduceNeg, hix, hiy, intsD, Step.d, c1, c0, hi2, Int.toNat_natCast, hsz2, hlen1, if_true, Nat.zero_le, true_and, and_self, and_true, List.drop_zero]
        refine (c32 (l.take i) (by simp; omega)).callS (by simp [dz, List.map_take]) rfl rfl rfl rfl rfl ?_
        rw [hpt]
        simp only [go_sem, Nat.reduceBEq, Nat.reduceEqDiff, Nat.reduceLT, Nat.reduceLeDiff, Nat.reduceAdd, Nat.reduceSub, Nat.reduceMul, reduceCtorEq, Int.reduceToNat, Int.reduceEq, Int.reduceLT, Int.reduceLE, Int.reduceNe, Int.reduceNeg, hix, hiy, intsD, Step.d, c1, c0]
        have hpl : (platesOf l).length = l.length := by simp [platesOf]
        refine (c31 hok ((platesOf l).take i) x.plate x.hours (by simp [hpl]; omega) hmt m1 m2).callS rfl rfl rfl rfl rfl rfl ?_
        simp only [go_sem, Nat.reduceBEq, Nat.reduceEqDiff, Nat.reduceLT, Nat.reduceLeDiff, Nat.reduceAdd, Nat.reduceSub, Nat.reduceMul, reduceCtorEq, Int.reduceToNat, Int.reduceEq, Int.reduceLT, Int.reduceLE, Int.reduceNe, Int.reduceNeg, hix, hiy, intsD, Step.d, c1, c0]
        have hw3 : (waysR b ((platesOf l).take i) (b.pl x.plate) x.hours).length ≤ 3 := outW_len _ 3
        refine (c30 (waysR b ((platesOf l).take i) (b.pl x.plate) x.hours) (waysR b ((platesOf l).take i) (b.pl x.plate) x.hours) (by omega) (by omega)).callS rfl rfl rfl rfl rfl rfl ?_
        simp only [go_sem, Nat.reduceBEq, Nat.reduceEqDiff, Nat.reduceLT, Nat.reduceLeDiff, Nat.reduceAdd, Nat.reduceSub, Nat.reduceMul, reduceCtorEq, Int.reduceToNat, Int.reduceEq, Int.reduceLT, Int.reduceLE, Int.reduceNe, Int.reduceNeg, hd0, hix, hiy, intsD, Step.d, c1, c0]
        refine ⟨i + 1, hlt, by omega, ?_⟩
        exact ForgetTo.same' (by simp) (by simp [EWe, Env.look, w64 (n := (i : Int) + 1) (by omega) (by omega)]) rfl
      · refine c17.call rfl rfl rfl ?_
        simp only [go_sem, Nat.reduceBEq, Nat.reduceEqDiff, Nat.reduceLT, Nat.reduceLeDiff, Nat.reduceAdd, Nat.reduceSub, Nat.reduceMul, reduceCtorEq, Int.reduceToNat, Int.reduceEq, Int.reduceLT, Int.reduceLE, Int.reduceNe, Int.reduceNeg, he]
  · have hc0 : ¬ checkP b = 0 := by simpa using h0
    have hsp : outP b l = ([], checkP b) := by simp [outP, hc0]
    simp only [go_sem, Nat.reduceBEq, Nat.reduceEqDiff, Nat.reduceLT, Nat.reduceLeDiff, Nat.reduceAdd, Nat.reduceSub, Nat.reduceMul, reduceCtorEq, Int.reduceToNat, Int.reduceEq, Int.reduceLT, Int.reduceLE, Int.reduceNe, Int.reduceNeg, h0, hsp, List.map_nil, List.length_nil, hd0]
    refine c17.call rfl rfl rfl ?_
    simp only [go_sem, Nat.reduceBEq, Nat.reduceEqDiff, Nat.reduceLT, Nat.reduceLeDiff, Nat.reduceAdd, Nat.reduceSub, Nat.reduceMul, reduceCtorEq, Int.reduceToNat, Int.reduceEq, Int.reduceLT, Int.reduceLE, Int.reduceNe, Int.reduceNeg, h0, hsp]
end Go.Aw
end

section
set_option maxRecDepth 100000
namespace Go.Aw
open Go Go.Proofs.Try

def hourStep (P : Int → Bool) (s : Sp) (n : Nat) : Sp := if P ((n : Int) + 1) = true then (if s.lo = 0 then ⟨(n : Int) + 1, (n : Int) + 1⟩ else ⟨s.lo, (n : Int) + 1⟩) else s

def hourUp (P : Int → Bool) (n : Nat) : Sp := (List.range n).foldl (hourStep P) ⟨0, 0⟩

theorem hourUp_succ (P : Int → Bool) (n : Nat) : hourUp P (n + 1) = hourStep P (hourUp P n) n := by
  rw [hourUp, List.range_succ, List.foldl_append]; rfl

def isGood (b : Bath) (before : List Int) (p : Plate) (h : Int) : Bool := decide (waysR b before p h = [2])

def hoursR (b : Bath) (before : List Int) (p : Plate) : Sp := hourUp (isGood b before p) 24

theorem c36 {b : Bath} (hok : b.Ok) (before : List Int) (plate : Int) (hl : before.length ≤ 1000) (hm : ∀ p ∈ before, 0 ≤ p ∧ p < b.plates.length) (hp : 0 ≤ plate ∧ plate < b.plates.length) :
    PC prog 36 [.d b.d, .d (.sl (before.map (.int .i64))), .d (.int .i64 plate)] (.d (hoursR b before (b.pl plate)).d) := by
  refine PC.run (fun _ => false) tt_ok (fn := f36) (rs := [.cell 6 23]) rfl rfl rfl rfl rfl rfl rfl ?_
  simp only [go_sem, Nat.reduceBEq, Nat.reduceEqDiff, Nat.reduceLT, Nat.reduceLeDiff, Nat.reduceAdd, Nat.reduceSub, Nat.reduceMul, reduceCtorEq, Int.reduceToNat, Int.reduceEq, Int.reduceLT, Int.reduceLE, Int.reduceNe, Int.reduceNeg, Bath.d]
  refine ALoop.by (S := Nat) (fun i => [(8, .d (.int .i64 ((i : Int) + 1))), (7, .ptr 2 0), (6, .ptr 1 0), (3, .ptr 0 0), (2, .d (.int .i64 plate)), (1, .d (.sl (before.map (.int .i64))))])
    (fun i => [bthB b, .cells [.d (.int .i64 0), .d (.int .i64 0)], .cells [.d (.int .i64 (hourUp (isGood b before (b.pl plate)) i).lo), .d (.int .i64 (hourUp (isGood b before (b.pl plate)) i).hi)]]) (fun i => 24 - i) (fun i => i ≤ 24) 0 (by simp) (fun _ h => nomatch h) (Nat.zero_le _) ?_ ?_
  · exact ForgetTo.same' (by simp) (by simp [EWe, Env.look]) (by simp [bthB, hourUp])
  rintro i hi hn
  refine AWP.run (fun _ => false) tt_ok (fun _ h => nomatch h) (by simp) rfl ?_
  simp only [go_sem, Nat.reduceBEq, Nat.reduceEqDiff, Nat.reduceLT, Nat.reduceLeDiff, Nat.reduceAdd, Nat.reduceSub, Nat.reduceMul, reduceCtorEq, Int.reduceToNat, Int.reduceEq, Int.reduceLT, Int.reduceLE, Int.reduceNe, Int.reduceNeg, bthB]
  refine Br_split (fun hd => ?_) (fun hd => ?_) <;> simp only [go_sem, Nat.reduceBEq, Nat.reduceEqDiff, Nat.reduceLT, Nat.reduceLeDiff, Nat.reduceAdd, Nat.reduceSub, Nat.reduceMul, reduceCtorEq, Int.reduceToNat, Int.reduceEq, Int.reduceLT, Int.reduceLE, Int.reduceNe, Int.reduceNeg, hd]
  · have hlt : i < 24 := by simp only [decide_eq_true_eq] at hd; omega
    have hst := hourUp_succ (isGood b before (b.pl plate)) i
    have hnx : IntKind.i64.wrap ((i : Int) + 1 + 1) = ((i + 1 : Nat) : Int) + 1 := by rw [w64 (by omega) (by omega)]; omega
    refine (c31 hok before plate ((i : Int) + 1) hl hm hp (by omega)).call rfl rfl rfl ?_
    have hg : isGood b before (b.pl plate) ((i : Int) + 1) = decide (waysR b before (b.pl plate) ((i : Int) + 1) = [2]) := rfl
    generalize waysR b before (b.pl plate) ((i : Int) + 1) = ws at hg
    simp only [hourStep, hg] at hst
    generalize hourUp (isGood b before (b.pl plate)) i = s at hst
    have skip : ws ≠ [2] → hourUp (isGood b before (b.pl plate)) (i + 1) = s := fun h => by rw [hst, if_neg (by simpa using h)]
    by_cases hw1 : ws.length = 1
    · obtain ⟨a, rfl⟩ := List.length_eq_one_iff.1 hw1
      simp only [go_sem, Nat.reduceBEq, Nat.reduceEqDiff, Nat.reduceLT, Nat.reduceLeDiff, Nat.reduceAdd, Nat.reduceSub, Nat.reduceMul, reduceCtorEq, Int.reduceToNat, Int.reduceEq, Int.reduceLT, Int.reduceLE, Int.reduceNe, Int.reduceNeg, List.map_cons, List.map_nil, List.length_cons, List.length_nil]
      refine Br_split (fun h1 => ?_) (fun h1 => ?_) <;> simp only [go_sem, Nat.reduceBEq, Nat.reduceEqDiff, Nat.reduceLT, Nat.reduceLeDiff, Nat.reduceAdd, Nat.reduceSub, Nat.reduceMul, reduceCtorEq, Int.reduceToNat, Int.reduceEq, Int.reduceLT, Int.reduceLE, Int.reduceNe, Int.reduceNeg, h1]
      · have ha : a = 2 := by simpa using h1
        rw [if_pos (by simp [ha])] at hst
        refine Br_split (fun h2 => ?_) (fun h2 => ?_) <;> simp only [go_sem, Nat.reduceBEq, Nat.reduceEqDiff, Nat.reduceLT, Nat.reduceLeDiff, Nat.reduceAdd, Nat.reduceSub, Nat.reduceMul, reduceCtorEq, Int.reduceToNat, Int.reduceEq, Int.reduceLT, Int.reduceLE, Int.reduceNe, Int.reduceNeg, h2]
        · have h2' : s.lo = 0 := by simpa using h2
          rw [if_pos h2'] at hst
          refine ⟨i + 1, hlt, by omega, ?_⟩
          exact ForgetTo.same' (by simp) (by simp [EWe, Env.look, hnx]) (by rw [hst])
        · have h2' : ¬ s.lo = 0 := by simpa using h2
          rw [if_neg h2'] at hst
          refine ⟨i + 1, hlt, by omega, ?_⟩
          exact ForgetTo.same' (by simp) (by simp [EWe, Env.look, hnx]) (by rw [hst])
      · have ha : ¬ a = 2 := by simpa using h1
        have hsk := skip (by simp [ha])
        refine ⟨i + 1, hlt, by omega, ?_⟩
        exact ForgetTo.same' (by simp) (by simp [EWe, Env.look, hnx]) (by rw [hsk])
    · have hsk := skip (fun e => hw1 (by rw [e]; rfl))
      have hne : decide ((ws.length : Int) = 1) = false := by simp; omega
      simp only [go_sem, Nat.reduceBEq, Nat.reduceEqDiff, Nat.reduceLT, Nat.reduceLeDiff, Nat.reduceAdd, Nat.reduceSub, Nat.reduceMul, reduceCtorEq, Int.reduceToNat, Int.reduceEq, Int.reduceLT, Int.reduceLE, Int.reduceNe, Int.reduceNeg, List.length_map, hne]
      refine ⟨i + 1, hlt, by omega, ?_⟩
      exact ForgetTo.same' (by simp) (by simp [EWe, Env.look, hnx]) (by rw [hsk])
  · have hie : i = 24 := by simp only [decide_eq_false_iff_not] at hd; omega
    subst hie
    simp [hoursR, Sp.d]

/-! ### The law -/

theorem hourUp_iv {P : Int → Bool} {L H : Int} (hL : 1 ≤ L) (hP : ∀ h : Int, 1 ≤ h → h ≤ 24 → (P h = true ↔ L ≤ h ∧ h ≤ H)) : ∀ n : Nat, n ≤ 24 → hourUp P n = if L ≤ min (n : Int) H then ⟨L, min (n : Int) H⟩ else ⟨0, 0⟩
  | 0, _ => by
    rw [if_neg (by omega)]
    rfl
  | n + 1, hn => by
    rw [hourUp_succ, hourUp_iv hL hP n (by omega), hourStep]
    have h1 := hP ((n : Int) + 1) (by omega) (by omega)
    by_cases hp : P ((n : Int) + 1) = true
    · rw [if_pos hp]
      obtain ⟨h2, h3⟩ := h1.1 hp
      have h6 : L ≤ min ((n + 1 : Nat) : Int) H := by omega
      rw [if_pos h6]
      by_cases h4 : L ≤ min (n : Int) H
      · simp only [if_pos h4]
        rw [if_neg (by omega)]
        simp; omega
      · simp only [if_neg h4, if_true]
        simp; omega
    · rw [if_neg hp]
      have h5 : ¬ (L ≤ (n : Int) + 1 ∧ (n : Int) + 1 ≤ H) := fun h => hp (h1.2 h)
      by_cases h4 : L ≤ min (n : Int) H
      · rw [if_pos h4, if_pos (by omega)]
        simp; omega
      · rw [if_neg h4, if_neg (by omega)]

theorem filter_two (c : Int → Bool) : [1, 2, 3].filter c = [2] ↔ c 1 = false ∧ c 2 = true ∧ c 3 = false := by
  cases h1 : c 1 <;> cases h2 : c 2 <;> cases h3 : c 3 <;> simp [List.filter_cons, h1, h2, h3]

theorem howP_two {p : Plate} {rust loses : Int} : howP p rust loses = 2 ↔ rust ≤ loses ∧ loses ≤ rust + p.thin := by
  unfold howP
  repeat' split
  all_goals omega

theorem good_iff {b : Bath} (hok : b.Ok) (before : List Int) (q : Int) {h : Int} (hh : 1 ≤ h) :
    isGood b before (b.pl q) h = true ↔ (b.pl q).rust.hi ≤ (aftS (fellF b before) b.str).lo * h ∧ (aftS (fellF b before) b.str).hi * h ≤ (b.pl q).rust.lo + (b.pl q).thin := by
  have hp := hok.pl q
  generalize b.pl q = p at hp
  have hp' := hp
  simp only [Plate.Ok] at hp'
  obtain ⟨s1, s2, s3, _, _⟩ := id hok
  have hns : b.str.lo + (nS b : Int) = b.str.hi + 1 := by simp only [nS]; omega
  have hfn := fellF_nn hok before
  simp only [isGood, decide_eq_true_eq, waysR, filter_two]
  have hW : ∀ x : Int, strW b before p h (nS b) x = true ↔ ∃ i : Nat, i < nS b ∧ (x = howP p p.rust.lo (aft (fellF b before) (b.str.lo + i) * h) ∨ x = howP p p.rust.hi (aft (fellF b before) (b.str.lo + i) * h) ∨ (aft (fellF b before) (b.str.lo + i) * h ≥ p.rust.lo ∧ aft (fellF b before) (b.str.lo + i) * h ≤ p.rust.hi + p.thin ∧ x = 2)) := fun x => by
    simp only [strW, List.any_eq_true, List.mem_range]
    constructor
    · rintro ⟨i, hi, hx⟩
      rw [weak_aft hok before _ (by omega)] at hx
      exact ⟨i, hi, (rowW_iff hp _ _).1 hx⟩
    · rintro ⟨i, hi, hx⟩
      refine ⟨i, hi, ?_⟩
      rw [weak_aft hok before _ (by omega)]
      exact (rowW_iff hp _ _).2 hx
  have hN : ∀ x : Int, strW b before p h (nS b) x = false ↔ ¬ (strW b before p h (nS b) x = true) := fun x => by simp
  rw [hN 1, hN 3, hW 1, hW 2, hW 3]
  simp only [aftS]
  generalize fellF b before = F at hfn
  have mono : ∀ i : Nat, i < nS b → aft F b.str.lo * h ≤ aft F (b.str.lo + i) * h ∧ aft F (b.str.lo + i) * h ≤ aft F b.str.hi * h := fun i hi =>
    ⟨Int.mul_le_mul_of_nonneg_right (by simp only [aft]; omega) (by omega), Int.mul_le_mul_of_nonneg_right (by simp only [aft]; omega) (by omega)⟩
  constructor
  · rintro ⟨n1, _, n3⟩
    have key : ∀ i : Nat, i < nS b → p.rust.hi ≤ aft F (b.str.lo + i) * h ∧ aft F (b.str.lo + i) * h ≤ p.rust.lo + p.thin := fun i hi => by
      have k1 := howP_in p p.rust.lo (aft F (b.str.lo + i) * h)
      have k2 := howP_in p p.rust.hi (aft F (b.str.lo + i) * h)
      have e1 : howP p p.rust.lo (aft F (b.str.lo + i) * h) = 2 := by
        rcases k1 with k | k | k
        · exact absurd ⟨i, hi, .inl k.symm⟩ n1
        · exact k
        · exact absurd ⟨i, hi, .inl k.symm⟩ n3
      have e2 : howP p p.rust.hi (aft F (b.str.lo + i) * h) = 2 := by
        rcases k2 with k | k | k
        · exact absurd ⟨i, hi, .inr (.inl k.symm)⟩ n1
        · exact k
        · exact absurd ⟨i, hi, .inr (.inl k.symm)⟩ n3
      exact ⟨(howP_two.1 e2).1, (howP_two.1 e1).2⟩
    have a0 := key 0 (by omega)
    have a1 := key (nS b - 1) (by omega)
    rw [show b.str.lo + ((0 : Nat) : Int) = b.str.lo by omega] at a0
    rw [show b.str.lo + ((nS b - 1 : Nat) : Int) = b.str.hi by omega] at a1
    exact ⟨a0.1, a1.2⟩
  · rintro ⟨g1, g2⟩
    have key : ∀ i : Nat, i < nS b → howP p p.rust.lo (aft F (b.str.lo + i) * h) = 2 ∧ howP p p.rust.hi (aft F (b.str.lo + i) * h) = 2 := fun i hi => by
      have := mono i hi
      exact ⟨howP_two.2 (by omega), howP_two.2 (by omega)⟩
    refine ⟨?_, ⟨0, by omega, .inl (key 0 (by omega)).1.symm⟩, ?_⟩
    · rintro ⟨i, hi, hx⟩
      obtain ⟨e1, e2⟩ := key i hi
      omega
    · rintro ⟨i, hi, hx⟩
      obtain ⟨e1, e2⟩ := key i hi
      omega

theorem hours_up {P : Int → Bool} {A B : Int} {p : Plate} (hp : p.Ok) (hA : 0 ≤ A ∧ A ≤ B) (hg : ∀ h : Int, 1 ≤ h → (P h = true ↔ p.rust.hi ≤ A * h ∧ B * h ≤ p.rust.lo + p.thin)) :
    hourUp P 24 = if A ≤ 0 ∧ 0 < p.rust.hi then ⟨0, 0⟩ else if (if 0 < A then max 1 ((p.rust.hi + A - 1).tdiv A) else 1) ≤ (if 0 < B then min 24 ((p.rust.lo + p.thin).tdiv B) else 24) then
      ⟨if 0 < A then max 1 ((p.rust.hi + A - 1).tdiv A) else 1, if 0 < B then min 24 ((p.rust.lo + p.thin).tdiv B) else 24⟩ else ⟨0, 0⟩ := by
  simp only [Plate.Ok] at hp
  by_cases h0 : A ≤ 0 ∧ 0 < p.rust.hi
  · rw [if_pos h0, hourUp_iv (L := 25) (H := 24) (by omega) (fun h hh _ => by
      rw [hg h hh, show A = 0 by omega]
      constructor
      · rintro ⟨k, _⟩; simp at k; omega
      · omega) 24 (Nat.le_refl _)]
    rfl
  · rw [if_neg h0]
    have hlo : ∀ h : Int, 1 ≤ h → (p.rust.hi ≤ A * h ↔ (if 0 < A then max 1 ((p.rust.hi + A - 1).tdiv A) else 1) ≤ h) := fun h hh => by
      by_cases hA0 : 0 < A
      · rw [if_pos hA0, Int.tdiv_eq_ediv_of_nonneg (by omega)]
        have := Int.ediv_lt_iff_lt_mul (a := p.rust.hi + A - 1) (b := h + 1) hA0
        rw [Int.add_mul, Int.mul_comm h A] at this
        omega
      · rw [if_neg hA0, show A = 0 by omega]
        simp; omega
    have hhi : ∀ h : Int, 1 ≤ h → h ≤ 24 → (B * h ≤ p.rust.lo + p.thin ↔ h ≤ (if 0 < B then min 24 ((p.rust.lo + p.thin).tdiv B) else 24)) := fun h hh h24 => by
      by_cases hB0 : 0 < B
      · rw [if_pos hB0, Int.tdiv_eq_ediv_of_nonneg (by omega)]
        have := Int.le_ediv_iff_mul_le (a := h) (b := p.rust.lo + p.thin) hB0
        rw [Int.mul_comm h B] at this
        omega
      · rw [if_neg hB0, show B = 0 by omega]
        simp; omega
    have hL1 : 1 ≤ (if 0 < A then max 1 ((p.rust.hi + A - 1).tdiv A) else 1) := by split <;> omega
    have hH24 : (if 0 < B then min 24 ((p.rust.lo + p.thin).tdiv B) else 24) ≤ 24 := by split <;> omega
    generalize (if 0 < A then max 1 ((p.rust.hi + A - 1).tdiv A) else 1) = L at hlo hL1
    generalize (if 0 < B then min 24 ((p.rust.lo + p.thin).tdiv B) else 24) = H at hhi hH24
    rw [hourUp_iv (L := L) (H := H) hL1 (fun h hh h24 => by rw [hg h hh, hlo h hh, hhi h hh h24]) 24 (Nat.le_refl _)]
    rw [show min ((24 : Nat) : Int) H = H by omega]

theorem hours_eq {b : Bath} (hok : b.Ok) (before : List Int) (q : Int) : hoursR b before (b.pl q) = if (hoursW b q (fellF b before)).2 = true then (hoursW b q (fellF b before)).1 else ⟨0, 0⟩ := by
  obtain ⟨s1, s2, s3, _, _⟩ := id hok
  have hA : 0 ≤ (aftS (fellF b before) b.str).lo ∧ (aftS (fellF b before) b.str).lo ≤ (aftS (fellF b before) b.str).hi := by simp only [aftS, aft]; omega
  rw [hoursR, hours_up (hok.pl q) hA (fun h hh => good_iff hok before q hh)]
  unfold hoursW hourLo hourHi
  split
  · simp
  · simp only [decide_eq_true_eq]
end Go.Aw
end

section
set_option maxRecDepth 100000
namespace Go.Aw
open Go Go.Proofs.Try

def doneF (d : Nat) (l : List Step) : Nat := l.foldl (fun d x => d ||| 2 ^ x.plate.toNat) d

theorem stepsOk_append (np : Nat) : ∀ (l r : List Step) (d : Nat), stepsOk np d (l ++ r) = (stepsOk np d l && stepsOk np (doneF d l) r)
  | [], r, d => by simp [stepsOk, doneF]
  | x :: l, r, d => by
    simp only [List.cons_append, stepsOk]
    split
    · simp
    · rw [stepsOk_append np l r]; rfl

theorem doneF_bit : ∀ (l : List Step) (d q : Nat), (doneF d l).testBit q = (d.testBit q || decide (q ∈ l.map fun x => x.plate.toNat))
  | [], d, q => by simp [doneF]
  | x :: l, d, q => by
    have : doneF d (x :: l) = doneF (d ||| 2 ^ x.plate.toNat) l := rfl
    rw [this, doneF_bit l, Nat.testBit_or, Nat.testBit_two_pow, Bool.eq_iff_iff]
    simp only [Bool.or_eq_true, decide_eq_true_eq, List.map_cons, List.mem_cons]
    have : x.plate.toNat = q ↔ q = x.plate.toNat := eq_comm
    rw [this, or_assoc]

theorem stepsOk_more {np : Nat} {l : List Step} (h : stepsOk np 0 l = true) (plate : Int) : stepsOk np 0 (l ++ [⟨plate, 1⟩]) = (within 0 ((np : Int) - 1) [plate] && !decide (plate ∈ platesOf l)) := by
  rw [stepsOk_append, h, Bool.true_and]
  simp only [stepsOk, stepBad, doneF_bit, Nat.zero_testBit, Bool.false_or]
  have h1 : within 1 24 [(1 : Int)] = true := by decide
  rw [h1]
  cases hw : within 0 ((np : Int) - 1) [plate] with
  | false => simp
  | true =>
    have hp := within_one.1 hw
    have : plate.toNat ∈ (l.map fun x => x.plate.toNat) ↔ plate ∈ platesOf l := by
      simp only [platesOf, List.mem_map]
      constructor
      · rintro ⟨x, hx, he⟩
        have := (stepsOk_mem h x hx).1
        exact ⟨x, hx, by omega⟩
      · rintro ⟨x, hx, he⟩
        exact ⟨x, hx, by rw [he]⟩
    rw [decide_eq_decide.2 this]
    cases decide (plate ∈ platesOf l) <;> simp

theorem c5 (b : Bath) (l : List Step) (plate : Int) : PC prog 5 [.d b.d, .d (.sl (l.map Step.d)), .d (.int .i64 plate)] (.d (.bool true)) := by
  refine PC.run (fun _ => false) tt_ok (fn := f5) (rs := [.tmp 6]) rfl rfl rfl rfl rfl rfl rfl ?_
  simp only [go_sem, Nat.reduceBEq, Nat.reduceEqDiff, Nat.reduceLT, Nat.reduceLeDiff, Nat.reduceAdd, Nat.reduceSub, Nat.reduceMul, reduceCtorEq, Int.reduceToNat, Int.reduceEq, Int.reduceLT, Int.reduceLE, Int.reduceNe, Int.reduceNeg, Bath.d]
  refine Br_split (fun h1 => ?_) (fun h1 => ?_) <;> simp only [go_sem, Nat.reduceBEq, Nat.reduceEqDiff, Nat.reduceLT, Nat.reduceLeDiff, Nat.reduceAdd, Nat.reduceSub, Nat.reduceMul, reduceCtorEq, Int.reduceToNat, Int.reduceEq, Int.reduceLT, Int.reduceLE, Int.reduceNe, Int.reduceNeg, h1]
  · refine c17.call rfl rfl rfl ?_
    simp only [go_sem, Nat.reduceBEq, Nat.reduceEqDiff, Nat.reduceLT, Nat.reduceLeDiff, Nat.reduceAdd, Nat.reduceSub, Nat.reduceMul, reduceCtorEq, Int.reduceToNat, Int.reduceEq, Int.reduceLT, Int.reduceLE, Int.reduceNe, Int.reduceNeg, h1]
  refine Br_split (fun h2 => ?_) (fun h2 => ?_) <;> simp only [go_sem, Nat.reduceBEq, Nat.reduceEqDiff, Nat.reduceLT, Nat.reduceLeDiff, Nat.reduceAdd, Nat.reduceSub, Nat.reduceMul, reduceCtorEq, Int.reduceToNat, Int.reduceEq, Int.reduceLT, Int.reduceLE, Int.reduceNe, Int.reduceNeg, h1, h2]
  · refine c17.call rfl rfl rfl ?_
    simp only [go_sem, Nat.reduceBEq, Nat.reduceEqDiff, Nat.reduceLT, Nat.reduceLeDiff, Nat.reduceAdd, Nat.reduceSub, Nat.reduceMul, reduceCtorEq, Int.reduceToNat, Int.reduceEq, Int.reduceLT, Int.reduceLE, Int.reduceNe, Int.reduceNeg, h1, h2]
  have hb : b.plates.length ≤ 20 := by simp only [decide_eq_false_iff_not] at h1; omega
  have hl : l.length ≤ 20 := by simp only [decide_eq_false_iff_not] at h2; omega
  refine (c18 b (by omega)).call rfl rfl rfl ?_
  have hle : l.length ≤ 4294967296 := by omega
  have hsz := sized_steps l
  simp only [go_sem, Nat.reduceBEq, Nat.reduceEqDiff, Nat.reduceLT, Nat.reduceLeDiff, Nat.reduceAdd, Nat.reduceSub, Nat.reduceMul, reduceCtorEq, Int.reduceToNat, Int.reduceEq, Int.reduceLT, Int.reduceLE, Int.reduceNe, Int.reduceNeg, h1, h2, Bath.d, hle, hsz, List.length_map, List.nil_append, Nat.zero_add]
  refine (c33 b l plate (by omega) (by omega)).call rfl rfl rfl ?_
  simp only [go_sem, Nat.reduceBEq, Nat.reduceEqDiff, Nat.reduceLT, Nat.reduceLeDiff, Nat.reduceAdd, Nat.reduceSub, Nat.reduceMul, reduceCtorEq, Int.reduceToNat, Int.reduceEq, Int.reduceLT, Int.reduceLE, Int.reduceNe, Int.reduceNeg, h1, h2, Sp.d]
  refine (c22 b b (by omega) (by omega)).call rfl rfl rfl ?_
  have hd0 : ∀ {α : Type} [DecidableEq α] (l : α), decide (l = l) = true := fun l => by simp
  simp only [go_sem, Nat.reduceBEq, Nat.reduceEqDiff, Nat.reduceLT, Nat.reduceLeDiff, Nat.reduceAdd, Nat.reduceSub, Nat.reduceMul, reduceCtorEq, Int.reduceToNat, Int.reduceEq, Int.reduceLT, Int.reduceLE, Int.reduceNe, Int.reduceNeg, h1, h2, hd0]
  refine (c29 l l (by omega) (by omega)).call rfl rfl rfl ?_
  simp only [go_sem, Nat.reduceBEq, Nat.reduceEqDiff, Nat.reduceLT, Nat.reduceLeDiff, Nat.reduceAdd, Nat.reduceSub, Nat.reduceMul, reduceCtorEq, Int.reduceToNat, Int.reduceEq, Int.reduceLT, Int.reduceLE, Int.reduceNe, Int.reduceNeg, h1, h2, hd0]
  refine (c21 b (by omega)).call rfl rfl rfl ?_
  simp only [go_sem, Nat.reduceBEq, Nat.reduceEqDiff, Nat.reduceLT, Nat.reduceLeDiff, Nat.reduceAdd, Nat.reduceSub, Nat.reduceMul, reduceCtorEq, Int.reduceToNat, Int.reduceEq, Int.reduceLT, Int.reduceLE, Int.reduceNe, Int.reduceNeg, h1, h2]
  refine Br_split (fun h0 => ?_) (fun h0 => ?_) <;> simp only [go_sem, Nat.reduceBEq, Nat.reduceEqDiff, Nat.reduceLT, Nat.reduceLeDiff, Nat.reduceAdd, Nat.reduceSub, Nat.reduceMul, reduceCtorEq, Int.reduceToNat, Int.reduceEq, Int.reduceLT, Int.reduceLE, Int.reduceNe, Int.reduceNeg, h0]
  · have hc0 : checkP b = 0 := by simpa using h0
    have hok := checkP_iff.1 hc0
    refine (c25 b l (by omega) (by omega)).call rfl rfl rfl ?_
    simp only [go_sem, Nat.reduceBEq, Nat.reduceEqDiff, Nat.reduceLT, Nat.reduceLeDiff, Nat.reduceAdd, Nat.reduceSub, Nat.reduceMul, reduceCtorEq, Int.reduceToNat, Int.reduceEq, Int.reduceLT, Int.reduceLE, Int.reduceNe, Int.reduceNeg, h0]
    refine Br_split (fun h3 => ?_) (fun h3 => ?_) <;> simp only [go_sem, Nat.reduceBEq, Nat.reduceEqDiff, Nat.reduceLT, Nat.reduceLeDiff, Nat.reduceAdd, Nat.reduceSub, Nat.reduceMul, reduceCtorEq, Int.reduceToNat, Int.reduceEq, Int.reduceLT, Int.reduceLE, Int.reduceNe, Int.reduceNeg, h0, h3]
    · have h3' : ¬ stepsOk b.plates.length 0 l = true := by simpa using h3
      have hsp : hoursP b l plate = (⟨0, 0⟩, 4) := by simp [hoursP, hc0, h3']
      simp only [go_sem, Nat.reduceBEq, Nat.reduceEqDiff, Nat.reduceLT, Nat.reduceLeDiff, Nat.reduceAdd, Nat.reduceSub, Nat.reduceMul, reduceCtorEq, Int.reduceToNat, Int.reduceEq, Int.reduceLT, Int.reduceLE, Int.reduceNe, Int.reduceNeg, h0, h3, hsp]
      refine ADrw.treeG (fun _ => false) tt_ok (by kernel_rfl) (fun k => if k = 4 then some .L else some .S) (.ones [0, 1, 2, 3, 4, 5, 6, 7, 8, 9, 10, 11] .done) (by simp) (fun _ h => nomatch h) rfl rfl (by kernel_rfl) ?_
      simp only [go_sem, Nat.reduceBEq, Nat.reduceEqDiff, Nat.reduceLT, Nat.reduceLeDiff, Nat.reduceAdd, Nat.reduceSub, Nat.reduceMul, reduceCtorEq, Int.reduceToNat, Int.reduceEq, Int.reduceLT, Int.reduceLE, Int.reduceNe, Int.reduceNeg, hd0, h0, h3, hsp]
      refine (c26 0 0).callS rfl rfl rfl rfl rfl rfl ?_
      simp only [go_sem, Nat.reduceBEq, Nat.reduceEqDiff, Nat.reduceLT, Nat.reduceLeDiff, Nat.reduceAdd, Nat.reduceSub, Nat.reduceMul, reduceCtorEq, Int.reduceToNat, Int.reduceEq, Int.reduceLT, Int.reduceLE, Int.reduceNe, Int.reduceNeg, hd0, Sp.d, h0, h3, hsp]
      refine c17.callS rfl rfl rfl rfl rfl rfl ?_
      simp only [go_sem, Nat.reduceBEq, Nat.reduceEqDiff, Nat.reduceLT, Nat.reduceLeDiff, Nat.reduceAdd, Nat.reduceSub, Nat.reduceMul, reduceCtorEq, Int.reduceToNat, Int.reduceEq, Int.reduceLT, Int.reduceLE, Int.reduceNe, Int.reduceNeg, hd0, h0, h3, hsp]
    · have h3' : stepsOk b.plates.length 0 l = true := by simpa using h3
      have hsm := stepsOk_more h3' plate
      have hmem := stepsOk_mem h3'
      have hmp : ∀ p ∈ platesOf l, 0 ≤ p ∧ p < b.plates.length := fun p hp => by
        obtain ⟨x, hx, rfl⟩ := List.mem_map.1 hp
        exact (hmem x hx).1
      have hpl : (platesOf l).length = l.length := by simp [platesOf]
      have hp1 : IntKind.i64.wrap ((b.plates.length : Int) - 1) = (b.plates.length : Int) - 1 := w64 (by omega) (by omega)
      simp only [go_sem, Nat.reduceBEq, Nat.reduceEqDiff, Nat.reduceLT, Nat.reduceLeDiff, Nat.reduceAdd, Nat.reduceSub, Nat.reduceMul, reduceCtorEq, Int.reduceToNat, Int.reduceEq, Int.reduceLT, Int.reduceLE, Int.reduceNe, Int.reduceNeg, h0, h3, hc0, hd0, hp1]
      refine (c34 plate 0 ((b.plates.length : Int) - 1)).call rfl rfl rfl ?_
      rw [in_iff]
      simp only [go_sem, Nat.reduceBEq, Nat.reduceEqDiff, Nat.reduceLT, Nat.reduceLeDiff, Nat.reduceAdd, Nat.reduceSub, Nat.reduceMul, reduceCtorEq, Int.reduceToNat, Int.reduceEq, Int.reduceLT, Int.reduceLE, Int.reduceNe, Int.reduceNeg, h0, h3, hd0]
      refine Br_split (fun h4 => ?_) (fun h4 => ?_) <;> simp only [go_sem, Nat.reduceBEq, Nat.reduceEqDiff, Nat.reduceLT, Nat.reduceLeDiff, Nat.reduceAdd, Nat.reduceSub, Nat.reduceMul, reduceCtorEq, Int.reduceToNat, Int.reduceEq, Int.reduceLT, Int.reduceLE, Int.reduceNe, Int.reduceNeg, h0, h3, h4, hd0]
      · have h4' : within 0 ((b.plates.length : Int) - 1) [plate] = false := by simpa using h4
        have hsp : hoursP b l plate = (⟨0, 0⟩, 7) := by simp [hoursP, hc0, h3', hsm, h4']
        simp only [go_sem, Nat.reduceBEq, Nat.reduceEqDiff, Nat.reduceLT, Nat.reduceLeDiff, Nat.reduceAdd, Nat.reduceSub, Nat.reduceMul, reduceCtorEq, Int.reduceToNat, Int.reduceEq, Int.reduceLT, Int.reduceLE, Int.reduceNe, Int.reduceNeg, h0, h3, hsp]
        refine ADrw.treeG (fun _ => false) tt_ok (by kernel_rfl) (fun k => if k = 4 then some .L else some .S) (.ones [0, 1, 2, 3, 4, 5, 6, 7, 8, 9, 10, 11] .done) (by simp) (fun _ h => nomatch h) rfl rfl (by kernel_rfl) ?_
        simp only [go_sem, Nat.reduceBEq, Nat.reduceEqDiff, Nat.reduceLT, Nat.reduceLeDiff, Nat.reduceAdd, Nat.reduceSub, Nat.reduceMul, reduceCtorEq, Int.reduceToNat, Int.reduceEq, Int.reduceLT, Int.reduceLE, Int.reduceNe, Int.reduceNeg, hd0, h0, h3, h4, hsp]
        refine (c26 0 0).callS rfl rfl rfl rfl rfl rfl ?_
        simp only [go_sem, Nat.reduceBEq, Nat.reduceEqDiff, Nat.reduceLT, Nat.reduceLeDiff, Nat.reduceAdd, Nat.reduceSub, Nat.reduceMul, reduceCtorEq, Int.reduceToNat, Int.reduceEq, Int.reduceLT, Int.reduceLE, Int.reduceNe, Int.reduceNeg, hd0, Sp.d, h0, h3, h4, hsp]
        refine c17.callS rfl rfl rfl rfl rfl rfl ?_
        simp only [go_sem, Nat.reduceBEq, Nat.reduceEqDiff, Nat.reduceLT, Nat.reduceLeDiff, Nat.reduceAdd, Nat.reduceSub, Nat.reduceMul, reduceCtorEq, Int.reduceToNat, Int.reduceEq, Int.reduceLT, Int.reduceLE, Int.reduceNe, Int.reduceNeg, hd0, h0, h3, h4, hsp]
      · have h4' : within 0 ((b.plates.length : Int) - 1) [plate] = true := by simpa using h4
        have hp0 : 0 ≤ plate ∧ plate < b.plates.length := by have := within_one.1 h4'; omega
        refine (c32 l (by omega)).call rfl rfl rfl ?_
        simp only [go_sem, Nat.reduceBEq, Nat.reduceEqDiff, Nat.reduceLT, Nat.reduceLeDiff, Nat.reduceAdd, Nat.reduceSub, Nat.reduceMul, reduceCtorEq, Int.reduceToNat, Int.reduceEq, Int.reduceLT, Int.reduceLE, Int.reduceNe, Int.reduceNeg, h0, h3, h4, hd0]
        refine (c35 (platesOf l) plate (by omega)).call rfl rfl rfl ?_
        simp only [go_sem, Nat.reduceBEq, Nat.reduceEqDiff, Nat.reduceLT, Nat.reduceLeDiff, Nat.reduceAdd, Nat.reduceSub, Nat.reduceMul, reduceCtorEq, Int.reduceToNat, Int.reduceEq, Int.reduceLT, Int.reduceLE, Int.reduceNe, Int.reduceNeg, h0, h3, h4, hd0]
        refine Br_split (fun h5 => ?_) (fun h5 => ?_) <;> simp only [go_sem, Nat.reduceBEq, Nat.reduceEqDiff, Nat.reduceLT, Nat.reduceLeDiff, Nat.reduceAdd, Nat.reduceSub, Nat.reduceMul, reduceCtorEq, Int.reduceToNat, Int.reduceEq, Int.reduceLT, Int.reduceLE, Int.reduceNe, Int.reduceNeg, h0, h3, h4, h5, hd0]
        · have hsp : hoursP b l plate = (⟨0, 0⟩, 7) := by rw [h4', h5] at hsm; simp [hoursP, hc0, h3', hsm]
          simp only [go_sem, Nat.reduceBEq, Nat.reduceEqDiff, Nat.reduceLT, Nat.reduceLeDiff, Nat.reduceAdd, Nat.reduceSub, Nat.reduceMul, reduceCtorEq, Int.reduceToNat, Int.reduceEq, Int.reduceLT, Int.reduceLE, Int.reduceNe, Int.reduceNeg, h0, h3, hsp]
          refine ADrw.treeG (fun _ => false) tt_ok (by kernel_rfl) (fun k => if k = 4 then some .L else some .S) (.ones [0, 1, 2, 3, 4, 5, 6, 7, 8, 9, 10, 11] .done) (by simp) (fun _ h => nomatch h) rfl rfl (by kernel_rfl) ?_
          simp only [go_sem, Nat.reduceBEq, Nat.reduceEqDiff, Nat.reduceLT, Nat.reduceLeDiff, Nat.reduceAdd, Nat.reduceSub, Nat.reduceMul, reduceCtorEq, Int.reduceToNat, Int.reduceEq, Int.reduceLT, Int.reduceLE, Int.reduceNe, Int.reduceNeg, hd0, h0, h3, h4, h5, hsp]
          refine (c26 0 0).callS rfl rfl rfl rfl rfl rfl ?_
          simp only [go_sem, Nat.reduceBEq, Nat.reduceEqDiff, Nat.reduceLT, Nat.reduceLeDiff, Nat.reduceAdd, Nat.reduceSub, Nat.reduceMul, reduceCtorEq, Int.reduceToNat, Int.reduceEq, Int.reduceLT, Int.reduceLE, Int.reduceNe, Int.reduceNeg, hd0, Sp.d, h0, h3, h4, h5, hsp]
          refine c17.callS rfl rfl rfl rfl rfl rfl ?_
          simp only [go_sem, Nat.reduceBEq, Nat.reduceEqDiff, Nat.reduceLT, Nat.reduceLeDiff, Nat.reduceAdd, Nat.reduceSub, Nat.reduceMul, reduceCtorEq, Int.reduceToNat, Int.reduceEq, Int.reduceLT, Int.reduceLE, Int.reduceNe, Int.reduceNeg, hd0, h0, h3, h4, h5, hsp]
        · have hsp : hoursP b l plate = if (hoursW b plate (fellF b (platesOf l))).2 = true then ((hoursW b plate (fellF b (platesOf l))).1, 0) else (⟨0, 0⟩, 9) := by rw [h4', h5] at hsm; simp [hoursP, hc0, h3', hsm]
          have hhe := hours_eq hok (platesOf l) plate
          have hlo := fun h => (hoursW_lo (p := plate) (fell := fellF b (platesOf l)) hok h).1
          refine ADrw.treeG (fun _ => false) tt_ok (by kernel_rfl) (fun k => if k = 0 then some .L else if k = 6 then some .W else if k = 5 then some .A else some .S) (.ones [0, 1, 2, 3, 4, 5, 6] .done) (by simp) (fun _ h => nomatch h) rfl rfl (by kernel_rfl) ?_
          simp only [go_sem, Nat.reduceBEq, Nat.reduceEqDiff, Nat.reduceLT, Nat.reduceLeDiff, Nat.reduceAdd, Nat.reduceSub, Nat.reduceMul, reduceCtorEq, Int.reduceToNat, Int.reduceEq, Int.reduceLT, Int.reduceLE, Int.reduceNe, Int.reduceNeg, h0, h3, h4, h5, hd0]
          refine (c32 l (by omega)).callS rfl rfl rfl rfl rfl rfl ?_
          simp only [go_sem, Nat.reduceBEq, Nat.reduceEqDiff, Nat.reduceLT, Nat.reduceLeDiff, Nat.reduceAdd, Nat.reduceSub, Nat.reduceMul, reduceCtorEq, Int.reduceToNat, Int.reduceEq, Int.reduceLT, Int.reduceLE, Int.reduceNe, Int.reduceNeg, h0, h3, h4, h5, hd0]
          refine (c36 hok (platesOf l) plate (by omega) hmp hp0).callS rfl rfl rfl rfl rfl rfl ?_
          rw [hhe]
          by_cases hw : (hoursW b plate (fellF b (platesOf l))).2 = true
          · rw [if_pos hw] at hsp ⊢
            have hlo' := hlo hw
            rw [hsp]
            generalize (hoursW b plate (fellF b (platesOf l))).1 = due at hlo'
            have hlod : decide (0 < due.lo) = true := by simp; omega
            simp only [go_sem, Nat.reduceBEq, Nat.reduceEqDiff, Nat.reduceLT, Nat.reduceLeDiff, Nat.reduceAdd, Nat.reduceSub, Nat.reduceMul, reduceCtorEq, Int.reduceToNat, Int.reduceEq, Int.reduceLT, Int.reduceLE, Int.reduceNe, Int.reduceNeg, h0, h3, h4, h5, hd0, Sp.d, hlod]
            refine c17.call rfl rfl rfl ?_
            simp only [go_sem, Nat.reduceBEq, Nat.reduceEqDiff, Nat.reduceLT, Nat.reduceLeDiff, Nat.reduceAdd, Nat.reduceSub, Nat.reduceMul, reduceCtorEq, Int.reduceToNat, Int.reduceEq, Int.reduceLT, Int.reduceLE, Int.reduceNe, Int.reduceNeg, h0, h3, h4, h5, hd0, Sp.d, hlod]
          · rw [if_neg hw] at hsp ⊢
            simp only [go_sem, Nat.reduceBEq, Nat.reduceEqDiff, Nat.reduceLT, Nat.reduceLeDiff, Nat.reduceAdd, Nat.reduceSub, Nat.reduceMul, reduceCtorEq, Int.reduceToNat, Int.reduceEq, Int.reduceLT, Int.reduceLE, Int.reduceNe, Int.reduceNeg, h0, h3, h4, h5, hd0, Sp.d, hsp]
            refine ADrw.treeG (fun _ => false) tt_ok (by kernel_rfl) (fun k => if k = 4 then some .L else some .S) (.ones [0, 1, 2, 3, 4, 5, 6, 7, 8, 9, 10, 11] .done) (by simp) (fun _ h => nomatch h) rfl rfl (by kernel_rfl) ?_
            simp only [go_sem, Nat.reduceBEq, Nat.reduceEqDiff, Nat.reduceLT, Nat.reduceLeDiff, Nat.reduceAdd, Nat.reduceSub, Nat.reduceMul, reduceCtorEq, Int.reduceToNat, Int.reduceEq, Int.reduceLT, Int.reduceLE, Int.reduceNe, Int.reduceNeg, hd0, h0, h3, h4, h5, hsp]
            refine (c26 0 0).callS rfl rfl rfl rfl rfl rfl ?_
            simp only [go_sem, Nat.reduceBEq, Nat.reduceEqDiff, Nat.reduceLT, Nat.reduceLeDiff, Nat.reduceAdd, Nat.reduceSub, Nat.reduceMul, reduceCtorEq, Int.reduceToNat, Int.reduceEq, Int.reduceLT, Int.reduceLE, Int.reduceNe, Int.reduceNeg, hd0, Sp.d, h0, h3, h4, h5, hsp]
            refine c17.callS rfl rfl rfl rfl rfl rfl ?_
            simp only [go_sem, Nat.reduceBEq, Nat.reduceEqDiff, Nat.reduceLT, Nat.reduceLeDiff, Nat.reduceAdd, Nat.reduceSub, Nat.reduceMul, reduceCtorEq, Int.reduceToNat, Int.reduceEq, Int.reduceLT, Int.reduceLE, Int.reduceNe, Int.reduceNeg, hd0, h0, h3, h4, h5, hsp]
  · have hc0 : ¬ checkP b = 0 := by simpa using h0
    have hsp : hoursP b l plate = (⟨0, 0⟩, checkP b) := by simp [hoursP, hc0]
    simp only [go_sem, Nat.reduceBEq, Nat.reduceEqDiff, Nat.reduceLT, Nat.reduceLeDiff, Nat.reduceAdd, Nat.reduceSub, Nat.reduceMul, reduceCtorEq, Int.reduceToNat, Int.reduceEq, Int.reduceLT, Int.reduceLE, Int.reduceNe, Int.reduceNeg, h0, hsp, hd0]
    refine ADrw.treeG (fun _ => false) tt_ok (by kernel_rfl) (fun k => if k = 4 then some .L else some .S) (.ones [0, 1, 2, 3, 4, 5, 6, 7, 8, 9, 10, 11] .done) (by simp) (fun _ h => nomatch h) rfl rfl (by kernel_rfl) ?_
    simp only [go_sem, Nat.reduceBEq, Nat.reduceEqDiff, Nat.reduceLT, Nat.reduceLeDiff, Nat.reduceAdd, Nat.reduceSub, Nat.reduceMul, reduceCtorEq, Int.reduceToNat, Int.reduceEq, Int.reduceLT, Int.reduceLE, Int.reduceNe, Int.reduceNeg, hd0, h0, hsp]
    refine (c26 0 0).callS rfl rfl rfl rfl rfl rfl ?_
    simp only [go_sem, Nat.reduceBEq, Nat.reduceEqDiff, Nat.reduceLT, Nat.reduceLeDiff, Nat.reduceAdd, Nat.reduceSub, Nat.reduceMul, reduceCtorEq, Int.reduceToNat, Int.reduceEq, Int.reduceLT, Int.reduceLE, Int.reduceNe, Int.reduceNeg, hd0, Sp.d, h0, hsp]
    refine c17.callS rfl rfl rfl rfl rfl rfl ?_
    simp only [go_sem, Nat.reduceBEq, Nat.reduceEqDiff, Nat.reduceLT, Nat.reduceLeDiff, Nat.reduceAdd, Nat.reduceSub, Nat.reduceMul, reduceCtorEq, Int.reduceToNat, Int.reduceEq, Int.reduceLT, Int.reduceLE, Int.reduceNe, Int.reduceNeg, hd0, h0, hsp]
end Go.Aw
end

section
set_option maxRecDepth 100000
namespace Go.Aw
open Go Go.Proofs.Try

theorem c45 (l : List Acid) (hl : l.length ≤ 4294967296) : PC prog 45 [.d (.sl (l.map Acid.d))] (.d (.int .i64 (acidsP l))) := by
  refine PC.run (fun _ => false) tt_ok (fn := f45) (rs := [.tmp 2]) rfl rfl rfl rfl rfl rfl rfl ?_
  simp only [go_sem, Nat.reduceBEq, Nat.reduceEqDiff, Nat.reduceLT, Nat.reduceLeDiff, Nat.reduceAdd, Nat.reduceSub, Nat.reduceMul, reduceCtorEq, Int.reduceToNat, Int.reduceEq, Int.reduceLT, Int.reduceLE, Int.reduceNe, Int.reduceNeg]
  refine Br_split (fun h1 => ?_) (fun h1 => ?_) <;> simp only [go_sem, Nat.reduceBEq, Nat.reduceEqDiff, Nat.reduceLT, Nat.reduceLeDiff, Nat.reduceAdd, Nat.reduceSub, Nat.reduceMul, reduceCtorEq, Int.reduceToNat, Int.reduceEq, Int.reduceLT, Int.reduceLE, Int.reduceNe, Int.reduceNeg, h1]
  · have h1' : l.length > 5 := by simp only [decide_eq_true_eq] at h1; omega
    simp [acidsP, h1']
  have h1' : ¬ l.length > 5 := by simp only [decide_eq_false_iff_not] at h1; omega
  refine Br_split (fun h2 => ?_) (fun h2 => ?_) <;> simp only [go_sem, Nat.reduceBEq, Nat.reduceEqDiff, Nat.reduceLT, Nat.reduceLeDiff, Nat.reduceAdd, Nat.reduceSub, Nat.reduceMul, reduceCtorEq, Int.reduceToNat, Int.reduceEq, Int.reduceLT, Int.reduceLE, Int.reduceNe, Int.reduceNeg, h1, h2]
  · have h2' : l.length = 0 := by simp at h2; simp [h2]
    simp [acidsP, h1', h2']
  have h2' : ¬ l.length = 0 := by simp at h2; simpa using h2
  have hap : acidsP l = if l.any badAcid = true then 2 else 0 := by simp only [acidsP, if_neg h1', if_neg h2']
  rw [hap]
  refine ALoop.by (S := Nat) (fun i => [(3, .d (.int .i64 i)), (0, .d (.sl (l.map Acid.d)))]) (fun i => []) (fun i => l.length - i) (fun i => i ≤ l.length ∧ (l.take i).any badAcid = false) 0 (by simp) (fun _ h => nomatch h) ⟨Nat.zero_le _, rfl⟩ ?_ ?_
  · exact ForgetTo.same' (by simp) (by simp [EWe, Env.look]) rfl
  rintro i ⟨hi, hx⟩ hn
  refine AWP.run (fun _ => false) tt_ok (fun _ h => nomatch h) (by simp) rfl ?_
  simp only [go_sem, Nat.reduceBEq, Nat.reduceEqDiff, Nat.reduceLT, Nat.reduceLeDiff, Nat.reduceAdd, Nat.reduceSub, Nat.reduceMul, reduceCtorEq, Int.reduceToNat, Int.reduceEq, Int.reduceLT, Int.reduceLE, Int.reduceNe, Int.reduceNeg]
  refine Br_split (fun hd => ?_) (fun hd => ?_) <;> simp only [go_sem, Nat.reduceBEq, Nat.reduceEqDiff, Nat.reduceLT, Nat.reduceLeDiff, Nat.reduceAdd, Nat.reduceSub, Nat.reduceMul, reduceCtorEq, Int.reduceToNat, Int.reduceEq, Int.reduceLT, Int.reduceLE, Int.reduceNe, Int.reduceNeg, hd]
  · have hlt : i < l.length := by simpa using hd
    have hix : idx? (l.map Acid.d) (i : Int) = some (l[i]).d := by simp [idx?, List.getElem?_eq_getElem hlt]
    have hst : (l.take (i + 1)).any badAcid = badAcid l[i] := by
      rw [List.take_add_one, List.getElem?_eq_getElem hlt, List.any_append, hx]; simp
    have hmem : badAcid l[i] = true → l.any badAcid = true := fun h => List.any_eq_true.2 ⟨_, List.getElem_mem hlt, h⟩
    generalize l[i] = a at hix hst hmem
    simp only [go_sem, Nat.reduceBEq, Nat.reduceEqDiff, Nat.reduceLT, Nat.reduceLeDiff, Nat.reduceAdd, Nat.reduceSub, Nat.reduceMul, reduceCtorEq, Int.reduceToNat, Int.reduceEq, Int.reduceLT, Int.reduceLE, Int.reduceNe, Int.reduceNeg, hix, Acid.d]
    refine (c47 a.str 0 40).call rfl rfl rfl ?_
    rw [valid_iff]
    simp only [go_sem, Nat.reduceBEq, Nat.reduceEqDiff, Nat.reduceLT, Nat.reduceLeDiff, Nat.reduceAdd, Nat.reduceSub, Nat.reduceMul, reduceCtorEq, Int.reduceToNat, Int.reduceEq, Int.reduceLT, Int.reduceLE, Int.reduceNe, Int.reduceNeg, hd, hix, Acid.d]
    refine Br_split (fun g1 => ?_) (fun g1 => ?_) <;> simp only [go_sem, Nat.reduceBEq, Nat.reduceEqDiff, Nat.reduceLT, Nat.reduceLeDiff, Nat.reduceAdd, Nat.reduceSub, Nat.reduceMul, reduceCtorEq, Int.reduceToNat, Int.reduceEq, Int.reduceLT, Int.reduceLE, Int.reduceNe, Int.reduceNeg, hd, g1, hix, Acid.d]
    · rw [if_pos (hmem (by simp only [badAcid, g1, Bool.true_or]))]
    refine (c34 a.oz 1 200).call rfl rfl rfl ?_
    rw [in_iff]
    simp only [go_sem, Nat.reduceBEq, Nat.reduceEqDiff, Nat.reduceLT, Nat.reduceLeDiff, Nat.reduceAdd, Nat.reduceSub, Nat.reduceMul, reduceCtorEq, Int.reduceToNat, Int.reduceEq, Int.reduceLT, Int.reduceLE, Int.reduceNe, Int.reduceNeg, hd, g1]
    refine Br_split (fun g2 => ?_) (fun g2 => ?_) <;> simp only [go_sem, Nat.reduceBEq, Nat.reduceEqDiff, Nat.reduceLT, Nat.reduceLeDiff, Nat.reduceAdd, Nat.reduceSub, Nat.reduceMul, reduceCtorEq, Int.reduceToNat, Int.reduceEq, Int.reduceLT, Int.reduceLE, Int.reduceNe, Int.reduceNeg, hd, g1, g2]
    · rw [if_pos (hmem (by simp only [badAcid, g1, g2, Bool.or_true]))]
    · refine ⟨i + 1, ⟨hlt, by rw [hst]; simp only [badAcid, g1, g2, Bool.or_false]⟩, by omega, ?_⟩
      exact ForgetTo.same' (by simp) (by simp [EWe, Env.look, w64 (n := (i : Int) + 1) (by omega) (by omega)]) rfl
  · have hie : i = l.length := by simp at hd; omega
    subst hie
    rw [List.take_length] at hx
    simp [hx]

theorem c46 (l : List Acid) (w : Int) (hl : l.length ≤ 5) (hne : l.length ≠ 0) (hall : ∀ a ∈ l, a.Ok) (hw : 0 ≤ w ∧ w ≤ 1000) : PC prog 46 [.d (.sl (l.map Acid.d)), .d (.int .i64 w)] (.d ((mixAll l).with w).d) := by
  refine PC.run (fun _ => false) tt_ok (fn := f46) (rs := [.cell 4 23]) rfl rfl rfl rfl rfl rfl rfl ?_
  simp only [go_sem, Nat.reduceBEq, Nat.reduceEqDiff, Nat.reduceLT, Nat.reduceLeDiff, Nat.reduceAdd, Nat.reduceSub, Nat.reduceMul, reduceCtorEq, Int.reduceToNat, Int.reduceEq, Int.reduceLT, Int.reduceLE, Int.reduceNe, Int.reduceNeg]
  refine ALoop.by (S := Nat) (fun i => [(8, .d (.int .i64 i)), (7, .d (.int .i64 (w + ((l.take i).foldl Mixed.add ⟨0, 0, 0⟩).oz))), (6, .d (.int .i64 ((l.take i).foldl Mixed.add ⟨0, 0, 0⟩).hi)), (5, .d (.int .i64 ((l.take i).foldl Mixed.add ⟨0, 0, 0⟩).lo)), (4, .ptr 0 0), (0, .d (.sl (l.map Acid.d)))])
    (fun i => [.cells [.d (.int .i64 0), .d (.int .i64 0)]]) (fun i => l.length - i) (fun i => i ≤ l.length) 0 (by simp) (fun _ h => nomatch h) (Nat.zero_le _) ?_ ?_
  · exact ForgetTo.same' (by simp) (by simp [EWe, Env.look]) rfl
  rintro i hi hn
  refine AWP.run (fun _ => false) tt_ok (fun _ h => nomatch h) (by simp) rfl ?_
  simp only [go_sem, Nat.reduceBEq, Nat.reduceEqDiff, Nat.reduceLT, Nat.reduceLeDiff, Nat.reduceAdd, Nat.reduceSub, Nat.reduceMul, reduceCtorEq, Int.reduceToNat, Int.reduceEq, Int.reduceLT, Int.reduceLE, Int.reduceNe, Int.reduceNeg]
  refine Br_split (fun hf => ?_) (fun hf => ?_) <;> simp only [go_sem, Nat.reduceBEq, Nat.reduceEqDiff, Nat.reduceLT, Nat.reduceLeDiff, Nat.reduceAdd, Nat.reduceSub, Nat.reduceMul, reduceCtorEq, Int.reduceToNat, Int.reduceEq, Int.reduceLT, Int.reduceLE, Int.reduceNe, Int.reduceNeg, hf]
  · have hlt : i < l.length := by simpa using hf
    have hix : idx? (l.map Acid.d) (i : Int) = some (l[i]).d := by simp [idx?, List.getElem?_eq_getElem hlt]
    have hst : (l.take (i + 1)).foldl Mixed.add ⟨0, 0, 0⟩ = ((l.take i).foldl Mixed.add ⟨0, 0, 0⟩).add l[i] := by
      rw [List.take_add_one, List.getElem?_eq_getElem hlt, List.foldl_append]; rfl
    obtain ⟨b1, b2, b3, b4, b5⟩ := mix_bnd (l.take i) ⟨0, 0, 0⟩ (fun a ha => hall a (List.mem_of_mem_take ha)) (by simp) (by simp) (by simp) (by simp)
    have hlen : (l.take i).length = i := by simp; omega
    rw [hlen] at b4 b5
    have ha := hall _ (List.getElem_mem hlt)
    generalize (l.take i).foldl Mixed.add ⟨0, 0, 0⟩ = m at hst b1 b2 b3 b4 b5
    generalize l[i] = a at hix hst ha
    obtain ⟨k1, k2, k3, k4, k5⟩ := ha
    have p1 : 0 ≤ a.str.lo * a.oz := Int.mul_nonneg k1 (by omega)
    have p2 : a.str.lo * a.oz ≤ a.str.hi * a.oz := Int.mul_le_mul_of_nonneg_right k2 (by omega)
    have p3 : a.str.hi * a.oz ≤ 40 * a.oz := Int.mul_le_mul_of_nonneg_right k3 (by omega)
    simp only at b4 b5
    refine ADrw.treeG (fun _ => false) tt_ok (by kernel_rfl) (fun _ => some .S) (.ones [0, 1, 2, 3, 4, 5, 6, 7, 8, 9, 10, 11, 12, 13, 14, 15, 16, 17, 18, 19, 20, 21, 22, 23, 24, 25, 26, 27, 28, 29, 30, 31, 32, 33, 34, 35, 36, 37] .done) (by simp) (fun _ h => nomatch h) rfl rfl (by kernel_rfl) ?_
    simp only [go_sem, Nat.reduceBEq, Nat.reduceEqDiff, Nat.reduceLT, Nat.reduceLeDiff, Nat.reduceAdd, Nat.reduceSub, Nat.reduceMul, reduceCtorEq, Int.reduceToNat, Int.reduceEq, Int.reduceLT, Int.reduceLE, Int.reduceNe, Int.reduceNeg, hix, Acid.d]
    refine ⟨i + 1, hlt, by omega, ?_⟩
    refine ForgetTo.same' (by simp) ?_ rfl
    simp only [EWe, Env.look]
    simp [hst, Mixed.add, w64 (n := (i : Int) + 1) (by omega) (by omega), w64 (n := a.str.lo * a.oz) (by omega) (by omega), w64 (n := a.str.hi * a.oz) (by omega) (by omega), w64 (n := m.lo + a.str.lo * a.oz) (by omega) (by omega), w64 (n := m.hi + a.str.hi * a.oz) (by omega) (by omega), w64 (n := w + (m.oz + a.oz)) (by omega) (by omega), Int.add_assoc]
  · have hie : i = l.length := by simp at hf; omega
    subst hie
    rw [List.take_length]
    have hm := mix_bnd l ⟨0, 0, 0⟩ hall (by simp) (by simp) (by simp) (by simp)
    have hme : l.foldl Mixed.add ⟨0, 0, 0⟩ = mixAll l := rfl
    rw [hme] at hm ⊢
    generalize mixAll l = m at hm
    simp only at hm
    have hall1 : 1 ≤ w + m.oz ∧ w + m.oz ≤ 2000 := by omega
    have hcomm : m.oz + w = w + m.oz := Int.add_comm _ _
    simp only [Mixed.with, hcomm]
    generalize w + m.oz = all at hall1
    have hlo : 0 ≤ m.lo ∧ m.lo ≤ 40000 := by omega
    have hhi : 0 ≤ m.hi ∧ m.hi ≤ 40000 := by omega
    simp only [go_sem, Nat.reduceBEq, Nat.reduceEqDiff, Nat.reduceLT, Nat.reduceLeDiff, Nat.reduceAdd, Nat.reduceSub, Nat.reduceMul, reduceCtorEq, Int.reduceToNat, Int.reduceEq, Int.reduceLT, Int.reduceLE, Int.reduceNe, Int.reduceNeg]
    refine ALoop.by (S := Nat) (fun k => [(9, .ptr 1 0), (7, .d (.int .i64 all)), (6, .d (.int .i64 m.hi)), (5, .d (.int .i64 m.lo)), (4, .ptr 0 0)])
      (fun k => [.cells [.d (.int .i64 0), .d (.int .i64 0)], .cells [.d (.int .i64 (k : Int)), .d (.int .i64 0)]]) (fun k => 40001 - k) (fun k => (k : Int) * all ≤ m.lo) 0 (by simp) (fun _ h => nomatch h) (by simp; omega) ?_ ?_
    · exact ForgetTo.same' (by simp) (by simp [EWe, Env.look]) (by simp)
    rintro k hk hn2
    have hk1 : ((k : Int) + 1) * all = k * all + all := by rw [Int.add_mul]; omega
    have hk2 : (k : Int) ≤ k * all := by have := Int.mul_le_mul_of_nonneg_left (a := (1 : Int)) (b := all) (c := (k : Int)) hall1.1 (by omega); omega
    have wk : IntKind.i64.wrap ((k : Int) + 1) = (k : Int) + 1 := w64 (by omega) (by omega)
    have wm : IntKind.i64.wrap (((k : Int) + 1) * all) = ((k : Int) + 1) * all := w64 (by omega) (by omega)
    refine AWP.run (fun _ => false) tt_ok (fun _ h => nomatch h) (by simp) rfl ?_
    simp only [go_sem, Nat.reduceBEq, Nat.reduceEqDiff, Nat.reduceLT, Nat.reduceLeDiff, Nat.reduceAdd, Nat.reduceSub, Nat.reduceMul, reduceCtorEq, Int.reduceToNat, Int.reduceEq, Int.reduceLT, Int.reduceLE, Int.reduceNe, Int.reduceNeg, wk, wm]
    refine Br_split (fun hg => ?_) (fun hg => ?_) <;> simp only [go_sem, Nat.reduceBEq, Nat.reduceEqDiff, Nat.reduceLT, Nat.reduceLeDiff, Nat.reduceAdd, Nat.reduceSub, Nat.reduceMul, reduceCtorEq, Int.reduceToNat, Int.reduceEq, Int.reduceLT, Int.reduceLE, Int.reduceNe, Int.reduceNeg, hg, wk]
    · have hg' : ((k : Int) + 1) * all ≤ m.lo := by simpa using hg
      refine ⟨k + 1, by rw [Int.natCast_add]; exact hg', by omega, ?_⟩
      exact ForgetTo.same' (by simp) (by simp [EWe, Env.look]) (by simp)
    · have hg' : ¬ ((k : Int) + 1) * all ≤ m.lo := by simpa using hg
      have hq : m.lo / all = (k : Int) := by
        have e1 := (Int.le_ediv_iff_mul_le (a := (k : Int)) (b := m.lo) (c := all) (by omega)).2 hk
        have e2 := (Int.ediv_lt_iff_lt_mul (a := m.lo) (b := (k : Int) + 1) (c := all) (by omega)).2 (by omega)
        omega
      rw [hq]
      refine ALoop.by (S := Nat) (fun j => [(9, .ptr 1 0), (7, .d (.int .i64 all)), (6, .d (.int .i64 m.hi)), (4, .ptr 0 0)])
        (fun j => [.cells [.d (.int .i64 0), .d (.int .i64 0)], .cells [.d (.int .i64 (k : Int)), .d (.int .i64 (j : Int))]]) (fun j => 50001 - j) (fun j => ((j : Int) - 1) * all < m.hi ∨ j = 0) 0 (by simp) (fun _ h => nomatch h) (.inr rfl) ?_ ?_
      · exact ForgetTo.same' (by simp) (by simp [EWe, Env.look]) (by simp)
      rintro j hj hn3
      have hj1 : ((j : Int) - 1) * all = j * all - all := by rw [Int.sub_mul]; omega
      have hj2 : (j : Int) ≤ j * all := by have := Int.mul_le_mul_of_nonneg_left (a := (1 : Int)) (b := all) (c := (j : Int)) hall1.1 (by omega); omega
      have hj3 : (j : Int) * all < m.hi + all := by
        rcases hj with hj | hj
        · omega
        · subst hj; simp; omega
      have wj : IntKind.i64.wrap ((j : Int) + 1) = (j : Int) + 1 := w64 (by omega) (by omega)
      have wn : IntKind.i64.wrap ((j : Int) * all) = (j : Int) * all := w64 (by omega) (by omega)
      refine AWP.run (fun _ => false) tt_ok (fun _ h => nomatch h) (by simp) rfl ?_
      simp only [go_sem, Nat.reduceBEq, Nat.reduceEqDiff, Nat.reduceLT, Nat.reduceLeDiff, Nat.reduceAdd, Nat.reduceSub, Nat.reduceMul, reduceCtorEq, Int.reduceToNat, Int.reduceEq, Int.reduceLT, Int.reduceLE, Int.reduceNe, Int.reduceNeg, wn]
      refine Br_split (fun hg2 => ?_) (fun hg2 => ?_) <;> simp only [go_sem, Nat.reduceBEq, Nat.reduceEqDiff, Nat.reduceLT, Nat.reduceLeDiff, Nat.reduceAdd, Nat.reduceSub, Nat.reduceMul, reduceCtorEq, Int.reduceToNat, Int.reduceEq, Int.reduceLT, Int.reduceLE, Int.reduceNe, Int.reduceNeg, hg2, wj]
      · have hg3 : (j : Int) * all < m.hi := by simpa using hg2
        refine ⟨j + 1, .inl (by rw [show ((j + 1 : Nat) : Int) - 1 = j by omega]; exact hg3), by omega, ?_⟩
        exact ForgetTo.same' (by simp) (by simp [EWe, Env.look]) (by simp)
      · have hg3 : ¬ (j : Int) * all < m.hi := by simpa using hg2
        have hq2 : (m.hi + all - 1) / all = (j : Int) := by
          have e1 := (Int.le_ediv_iff_mul_le (a := (j : Int)) (b := m.hi + all - 1) (c := all) (by omega)).2 (by omega)
          have hjj : ((j : Int) + 1) * all = j * all + all := by rw [Int.add_mul]; omega
          have e2 := (Int.ediv_lt_iff_lt_mul (a := m.hi + all - 1) (b := (j : Int) + 1) (c := all) (by omega)).2 (by omega)
          omega
        rw [hq2]
        simp [Sp.d]
end Go.Aw
end

section
set_option maxRecDepth 100000
namespace Go.Aw
open Go Go.Proofs.Try

def fitR (m : Mixed) (want : Sp) (n : Int) : Bool := decide ((m.with n).lo ≥ want.lo) && decide ((m.with n).hi ≤ want.hi)

def waterStepR (m : Mixed) (want : Sp) (s : Sp) (n : Nat) : Sp := if fitR m want n = true then ⟨min s.lo n, n⟩ else s

def waterR (m : Mixed) (want : Sp) (k : Nat) : Sp := (List.range k).foldl (waterStepR m want) ⟨501, -1⟩

theorem waterR_succ (m : Mixed) (want : Sp) (k : Nat) : waterR m want (k + 1) = waterStepR m want (waterR m want k) k := by
  rw [waterR, List.range_succ, List.foldl_append]; rfl

theorem c48 (l : List Acid) (want : Sp) (hl : l.length ≤ 5) (hne : l.length ≠ 0) (hall : ∀ a ∈ l, a.Ok) : PC prog 48 [.d (.sl (l.map Acid.d)), .d want.d] (.d (waterR (mixAll l) want 501).d) := by
  refine PC.run (fun _ => false) tt_ok (fn := f48) (rs := [.cell 4 23]) rfl rfl rfl rfl rfl rfl rfl ?_
  simp only [go_sem, Nat.reduceBEq, Nat.reduceEqDiff, Nat.reduceLT, Nat.reduceLeDiff, Nat.reduceAdd, Nat.reduceSub, Nat.reduceMul, reduceCtorEq, Int.reduceToNat, Int.reduceEq, Int.reduceLT, Int.reduceLE, Int.reduceNe, Int.reduceNeg, Sp.d]
  refine ALoop.by (S := Nat) (fun i => [(6, .d (.int .i64 i)), (5, .ptr 2 0), (4, .ptr 1 0), (3, .ptr 0 0), (0, .d (.sl (l.map Acid.d)))])
    (fun i => [.cells [.d (.int .i64 want.lo), .d (.int .i64 want.hi)], .cells [.d (.int .i64 0), .d (.int .i64 0)], .cells [.d (.int .i64 (waterR (mixAll l) want i).lo), .d (.int .i64 (waterR (mixAll l) want i).hi)]]) (fun i => 501 - i) (fun i => i ≤ 501) 0 (by simp) (fun _ h => nomatch h) (Nat.zero_le _) ?_ ?_
  · exact ForgetTo.same' (by simp) (by simp [EWe, Env.look]) (by simp [waterR])
  rintro i hi hn
  refine AWP.run (fun _ => false) tt_ok (fun _ h => nomatch h) (by simp) rfl ?_
  simp only [go_sem, Nat.reduceBEq, Nat.reduceEqDiff, Nat.reduceLT, Nat.reduceLeDiff, Nat.reduceAdd, Nat.reduceSub, Nat.reduceMul, reduceCtorEq, Int.reduceToNat, Int.reduceEq, Int.reduceLT, Int.reduceLE, Int.reduceNe, Int.reduceNeg]
  refine Br_split (fun hd => ?_) (fun hd => ?_) <;> simp only [go_sem, Nat.reduceBEq, Nat.reduceEqDiff, Nat.reduceLT, Nat.reduceLeDiff, Nat.reduceAdd, Nat.reduceSub, Nat.reduceMul, reduceCtorEq, Int.reduceToNat, Int.reduceEq, Int.reduceLT, Int.reduceLE, Int.reduceNe, Int.reduceNeg, hd]
  · have hlt : i < 501 := by simp only [decide_eq_true_eq] at hd; omega
    have hnx : IntKind.i64.wrap ((i : Int) + 1) = ((i + 1 : Nat) : Int) := w64 (by omega) (by omega)
    have hst := waterR_succ (mixAll l) want i
    have hfr : fitR (mixAll l) want i = (decide (((mixAll l).with i).lo ≥ want.lo) && decide (((mixAll l).with i).hi ≤ want.hi)) := rfl
    refine (c46 l i hl hne hall (by omega)).call rfl rfl rfl ?_
    simp only [waterStepR] at hst
    generalize waterR (mixAll l) want i = s at hst
    generalize (mixAll l).with i = r at hfr
    rw [hfr] at hst
    simp only [go_sem, Nat.reduceBEq, Nat.reduceEqDiff, Nat.reduceLT, Nat.reduceLeDiff, Nat.reduceAdd, Nat.reduceSub, Nat.reduceMul, reduceCtorEq, Int.reduceToNat, Int.reduceEq, Int.reduceLT, Int.reduceLE, Int.reduceNe, Int.reduceNeg, Sp.d]
    refine Br_split (fun h1 => ?_) (fun h1 => ?_) <;> simp only [go_sem, Nat.reduceBEq, Nat.reduceEqDiff, Nat.reduceLT, Nat.reduceLeDiff, Nat.reduceAdd, Nat.reduceSub, Nat.reduceMul, reduceCtorEq, Int.reduceToNat, Int.reduceEq, Int.reduceLT, Int.reduceLE, Int.reduceNe, Int.reduceNeg, h1]
    · refine Br_split (fun h2 => ?_) (fun h2 => ?_) <;> simp only [go_sem, Nat.reduceBEq, Nat.reduceEqDiff, Nat.reduceLT, Nat.reduceLeDiff, Nat.reduceAdd, Nat.reduceSub, Nat.reduceMul, reduceCtorEq, Int.reduceToNat, Int.reduceEq, Int.reduceLT, Int.reduceLE, Int.reduceNe, Int.reduceNeg, h1, h2]
      · rw [if_pos (by rw [show decide (r.lo ≥ want.lo) = true from h1, h2]; rfl)] at hst
        refine ⟨i + 1, hlt, by omega, ?_⟩
        refine ForgetTo.drop (H0 := [_, _, _]) (Y := [_]) (Nat.zero_le _) (by rw [hst]) (by simp [BBs, BB, VBs, VB]) ?_
        simp [EWp, Env.look, pubV, hnx]
      · rw [if_neg (by rw [h2]; simp)] at hst
        refine ⟨i + 1, hlt, by omega, ?_⟩
        refine ForgetTo.drop (H0 := [_, _, _]) (Y := [_]) (Nat.zero_le _) (by rw [hst]) (by simp [BBs, BB, VBs, VB]) ?_
        simp [EWp, Env.look, pubV, hnx]
    · rw [if_neg (by rw [show decide (r.lo ≥ want.lo) = false from h1]; simp)] at hst
      refine ⟨i + 1, hlt, by omega, ?_⟩
      refine ForgetTo.drop (H0 := [_, _, _]) (Y := [_]) (Nat.zero_le _) (by rw [hst]) (by simp [BBs, BB, VBs, VB]) ?_
      simp [EWp, Env.look, pubV, hnx]
  · have hie : i = 501 := by simp only [decide_eq_false_iff_not] at hd; omega
    subst hie
    simp

theorem fit_eq (m : Mixed) (want : Sp) (n : Int) : fitW m want n = fitR m want n := by
  rw [Bool.eq_iff_iff]
  simp [fitW, fitR]

theorem water_eq (m : Mixed) (want : Sp) : ∀ k : Nat, k ≤ 501 → (waterUp m want k = (sp0, 7) ∧ waterR m want k = ⟨501, -1⟩) ∨ ∃ a b : Int, waterUp m want k = (⟨a, b⟩, 0) ∧ waterR m want k = ⟨a, b⟩ ∧ 0 ≤ a ∧ a ≤ b ∧ b < k
  | 0, _ => .inl ⟨rfl, rfl⟩
  | k + 1, hk => by
    have h1 : waterUp m want (k + 1) = waterStep m want (waterUp m want k) k := by rw [waterUp, List.range_succ, List.foldl_append]; rfl
    rw [h1, waterR_succ]
    simp only [waterStep, waterStepR, fit_eq]
    rcases water_eq m want k (by omega) with ⟨e1, e2⟩ | ⟨a, b, e1, e2, e3, e4, e5⟩
    · rw [e1, e2]
      split
      · refine .inr ⟨k, k, ?_, ?_, by omega, by omega, by omega⟩
        · simp
        · simp; omega
      · exact .inl ⟨rfl, rfl⟩
    · rw [e1, e2]
      split
      · refine .inr ⟨a, k, ?_, ?_, by omega, by omega, by omega⟩
        · simp
        · simp; omega
      · exact .inr ⟨a, b, rfl, rfl, e3, e4, by omega⟩

theorem sized_acids (l : List Acid) : sized 3 (l.map Acid.d) = true := by
  simp [sized, Acid.d, dcells]

theorem c7 (l : List Acid) (want : Sp) : PC prog 7 [.d (.sl (l.map Acid.d)), .d want.d] (.d (.bool true)) := by
  refine PC.run (fun _ => false) tt_ok (fn := f7) (rs := [.tmp 4]) rfl rfl rfl rfl rfl rfl rfl ?_
  simp only [go_sem, Nat.reduceBEq, Nat.reduceEqDiff, Nat.reduceLT, Nat.reduceLeDiff, Nat.reduceAdd, Nat.reduceSub, Nat.reduceMul, reduceCtorEq, Int.reduceToNat, Int.reduceEq, Int.reduceLT, Int.reduceLE, Int.reduceNe, Int.reduceNeg, Sp.d]
  refine Br_split (fun h1 => ?_) (fun h1 => ?_) <;> simp only [go_sem, Nat.reduceBEq, Nat.reduceEqDiff, Nat.reduceLT, Nat.reduceLeDiff, Nat.reduceAdd, Nat.reduceSub, Nat.reduceMul, reduceCtorEq, Int.reduceToNat, Int.reduceEq, Int.reduceLT, Int.reduceLE, Int.reduceNe, Int.reduceNeg, h1]
  · refine c17.call rfl rfl rfl ?_
    simp only [go_sem, Nat.reduceBEq, Nat.reduceEqDiff, Nat.reduceLT, Nat.reduceLeDiff, Nat.reduceAdd, Nat.reduceSub, Nat.reduceMul, reduceCtorEq, Int.reduceToNat, Int.reduceEq, Int.reduceLT, Int.reduceLE, Int.reduceNe, Int.reduceNeg, h1]
  have hl : l.length ≤ 20 := by simp only [decide_eq_false_iff_not] at h1; omega
  have hle : l.length ≤ 4294967296 := by omega
  have hsz := sized_acids l
  have hd0 : ∀ {α : Type} [DecidableEq α] (l : α), decide (l = l) = true := fun l => by simp
  simp only [go_sem, Nat.reduceBEq, Nat.reduceEqDiff, Nat.reduceLT, Nat.reduceLeDiff, Nat.reduceAdd, Nat.reduceSub, Nat.reduceMul, reduceCtorEq, Int.reduceToNat, Int.reduceEq, Int.reduceLT, Int.reduceLE, Int.reduceNe, Int.reduceNeg, h1, hle, hsz, List.length_map, List.nil_append, Nat.zero_add]
  refine (c43 l (by omega)).call rfl rfl rfl ?_
  simp only [go_sem, Nat.reduceBEq, Nat.reduceEqDiff, Nat.reduceLT, Nat.reduceLeDiff, Nat.reduceAdd, Nat.reduceSub, Nat.reduceMul, reduceCtorEq, Int.reduceToNat, Int.reduceEq, Int.reduceLT, Int.reduceLE, Int.reduceNe, Int.reduceNeg, h1, Sp.d]
  refine (c44 l want (by omega)).call rfl rfl rfl ?_
  simp only [go_sem, Nat.reduceBEq, Nat.reduceEqDiff, Nat.reduceLT, Nat.reduceLeDiff, Nat.reduceAdd, Nat.reduceSub, Nat.reduceMul, reduceCtorEq, Int.reduceToNat, Int.reduceEq, Int.reduceLT, Int.reduceLE, Int.reduceNe, Int.reduceNeg, h1, Sp.d]
  refine ALoop.by (S := Nat) (fun i => [(10, .d (.int .i64 i)), (9, .d (.int .i64 (waterP l want).2)), (8, .ptr 2 0), (7, .d (.int .i64 (acidsP l))), (6, .ptr 1 0), (5, .d (.sl (l.map Acid.d))), (3, .ptr 0 0), (0, .d (.sl (l.map Acid.d)))])
    (fun i => [.cells [.d (.int .i64 want.lo), .d (.int .i64 want.hi)], .cells [.d (.int .i64 (mixV l).lo), .d (.int .i64 (mixV l).hi)], .cells [.d (.int .i64 (waterP l want).1.lo), .d (.int .i64 (waterP l want).1.hi)]]) (fun i => l.length - i) (fun i => i ≤ l.length) 0 (by simp) (fun _ h => nomatch h) (Nat.zero_le _) ?_ ?_
  · exact ForgetTo.same' (by simp) (by simp [EWe, Env.look]) (by simp)
  rintro i hi hn
  refine AWP.run (fun _ => false) tt_ok (fun _ h => nomatch h) (by simp) rfl ?_
  simp only [go_sem, Nat.reduceBEq, Nat.reduceEqDiff, Nat.reduceLT, Nat.reduceLeDiff, Nat.reduceAdd, Nat.reduceSub, Nat.reduceMul, reduceCtorEq, Int.reduceToNat, Int.reduceEq, Int.reduceLT, Int.reduceLE, Int.reduceNe, Int.reduceNeg]
  refine Br_split (fun hd => ?_) (fun hd => ?_) <;> simp only [go_sem, Nat.reduceBEq, Nat.reduceEqDiff, Nat.reduceLT, Nat.reduceLeDiff, Nat.reduceAdd, Nat.reduceSub, Nat.reduceMul, reduceCtorEq, Int.reduceToNat, Int.reduceEq, Int.reduceLT, Int.reduceLE, Int.reduceNe, Int.reduceNeg, hd]
  · have hlt : i < l.length := by simpa using hd
    have hix : idx? (l.map Acid.d) (i : Int) = some (l[i]).d := by simp [idx?, List.getElem?_eq_getElem hlt]
    generalize l[i] = a at hix
    refine ADrw.treeG (fun _ => false) tt_ok (by kernel_rfl) (fun _ => some .S) (.ones [0, 1, 2, 3, 4, 5, 6, 7, 8] .done) (by simp) (fun _ h => nomatch h) rfl rfl (by kernel_rfl) ?_
    simp only [go_sem, Nat.reduceBEq, Nat.reduceEqDiff, Nat.reduceLT, Nat.reduceLeDiff, Nat.reduceAdd, Nat.reduceSub, Nat.reduceMul, reduceCtorEq, Int.reduceToNat, Int.reduceEq, Int.reduceLT, Int.reduceLE, Int.reduceNe, Int.reduceNeg, hix, Acid.d, hd0]
    refine ⟨i + 1, hlt, by omega, ?_⟩
    exact ForgetTo.same' (by simp) (by simp [EWe, Env.look, w64 (n := (i : Int) + 1) (by omega) (by omega)]) rfl
  have hie : i = l.length := by simp at hd; omega
  subst hie
  refine (c45 l (by omega)).call rfl rfl rfl ?_
  simp only [go_sem, Nat.reduceBEq, Nat.reduceEqDiff, Nat.reduceLT, Nat.reduceLeDiff, Nat.reduceAdd, Nat.reduceSub, Nat.reduceMul, reduceCtorEq, Int.reduceToNat, Int.reduceEq, Int.reduceLT, Int.reduceLE, Int.reduceNe, Int.reduceNeg]
  refine ADrw.treeG (fun _ => false) tt_ok (by kernel_rfl) (fun k => if k = 7 ∨ k = 16 then some .L else some .S) (.ones [0, 1, 2, 3, 4, 5, 6, 7, 8, 9, 10, 11, 12, 13, 14, 15, 16, 17, 18, 19, 20, 21] .done) (by simp) (fun _ h => nomatch h) rfl rfl (by kernel_rfl) ?_
  by_cases h0 : acidsP l = 0
  · obtain ⟨k1, k2, k3⟩ := acids_ok h0
    have hmv : mixV l = (mixAll l).with 0 := by simp only [mixV, if_pos h0]
    simp only [go_sem, Nat.reduceBEq, Nat.reduceEqDiff, Nat.reduceLT, Nat.reduceLeDiff, Nat.reduceAdd, Nat.reduceSub, Nat.reduceMul, reduceCtorEq, Int.reduceToNat, Int.reduceEq, Int.reduceLT, Int.reduceLE, Int.reduceNe, Int.reduceNeg, h0, hd0]
    refine (c46 l 0 k1 k2 k3 (by omega)).callS rfl rfl rfl rfl rfl rfl ?_
    rw [hmv]
    simp only [go_sem, Nat.reduceBEq, Nat.reduceEqDiff, Nat.reduceLT, Nat.reduceLeDiff, Nat.reduceAdd, Nat.reduceSub, Nat.reduceMul, reduceCtorEq, Int.reduceToNat, Int.reduceEq, Int.reduceLT, Int.reduceLE, Int.reduceNe, Int.reduceNeg, h0, hd0, Sp.d]
    refine (c47 want 0 40).call rfl rfl rfl ?_
    rw [valid_iff]
    simp only [go_sem, Nat.reduceBEq, Nat.reduceEqDiff, Nat.reduceLT, Nat.reduceLeDiff, Nat.reduceAdd, Nat.reduceSub, Nat.reduceMul, reduceCtorEq, Int.reduceToNat, Int.reduceEq, Int.reduceLT, Int.reduceLE, Int.reduceNe, Int.reduceNeg, h0, hd0, Sp.d]
    refine Br_split (fun g1 => ?_) (fun g1 => ?_) <;> simp only [go_sem, Nat.reduceBEq, Nat.reduceEqDiff, Nat.reduceLT, Nat.reduceLeDiff, Nat.reduceAdd, Nat.reduceSub, Nat.reduceMul, reduceCtorEq, Int.reduceToNat, Int.reduceEq, Int.reduceLT, Int.reduceLE, Int.reduceNe, Int.reduceNeg, h0, hd0, g1]
    · have g2 : ¬ (within 0 40 [want.lo, want.hi] && decide (want.lo ≤ want.hi)) = true := by rw [Bool.not_eq_true]; simpa only [Bool.not_eq_true'] using g1
      have hwp : waterP l want = (sp0, 3) := by simp only [waterP, h0, if_true, if_neg g2]
      simp only [hwp]
      refine ADrw.treeG (fun _ => false) tt_ok (by kernel_rfl) (fun k => if k = 4 then some .L else some .S) (.ones [0, 1, 2, 3, 4, 5, 6, 7, 8, 9, 10, 11] .done) (by simp) (fun _ h => nomatch h) rfl rfl (by kernel_rfl) ?_
      simp only [go_sem, Nat.reduceBEq, Nat.reduceEqDiff, Nat.reduceLT, Nat.reduceLeDiff, Nat.reduceAdd, Nat.reduceSub, Nat.reduceMul, reduceCtorEq, Int.reduceToNat, Int.reduceEq, Int.reduceLT, Int.reduceLE, Int.reduceNe, Int.reduceNeg, hd0, h0, g1, hwp]
      refine (c26 0 0).callS rfl rfl rfl rfl rfl rfl ?_
      simp only [go_sem, Nat.reduceBEq, Nat.reduceEqDiff, Nat.reduceLT, Nat.reduceLeDiff, Nat.reduceAdd, Nat.reduceSub, Nat.reduceMul, reduceCtorEq, Int.reduceToNat, Int.reduceEq, Int.reduceLT, Int.reduceLE, Int.reduceNe, Int.reduceNeg, hd0, Sp.d, sp0, h0, g1, hwp]
      refine c17.callS rfl rfl rfl rfl rfl rfl ?_
      simp only [go_sem, Nat.reduceBEq, Nat.reduceEqDiff, Nat.reduceLT, Nat.reduceLeDiff, Nat.reduceAdd, Nat.reduceSub, Nat.reduceMul, reduceCtorEq, Int.reduceToNat, Int.reduceEq, Int.reduceLT, Int.reduceLE, Int.reduceNe, Int.reduceNeg, hd0, h0, g1, hwp]
    · have g2 : (within 0 40 [want.lo, want.hi] && decide (want.lo ≤ want.hi)) = true := by simpa only [Bool.not_eq_false'] using g1
      have hwp : waterP l want = waterUp (mixAll l) want 501 := by simp only [waterP, h0, if_true, if_pos g2]
      refine (c48 l want k1 k2 k3).call rfl rfl rfl ?_
      rw [hwp]
      rcases water_eq (mixAll l) want 501 (Nat.le_refl _) with ⟨e1, e2⟩ | ⟨a, b, e1, e2, e3, e4, e5⟩
      · rw [e1, e2]
        have hneg : decide ((0 : Int) ≤ -1) = false := by decide
        simp only [go_sem, Nat.reduceBEq, Nat.reduceEqDiff, Nat.reduceLT, Nat.reduceLeDiff, Nat.reduceAdd, Nat.reduceSub, Nat.reduceMul, reduceCtorEq, Int.reduceToNat, Int.reduceEq, Int.reduceLT, Int.reduceLE, Int.reduceNe, Int.reduceNeg, h0, hd0, g1, Sp.d, hneg]
        refine ADrw.treeG (fun _ => false) tt_ok (by kernel_rfl) (fun k => if k = 4 then some .L else some .S) (.ones [0, 1, 2, 3, 4, 5, 6, 7, 8, 9, 10, 11] .done) (by simp) (fun _ h => nomatch h) rfl rfl (by kernel_rfl) ?_
        simp only [go_sem, Nat.reduceBEq, Nat.reduceEqDiff, Nat.reduceLT, Nat.reduceLeDiff, Nat.reduceAdd, Nat.reduceSub, Nat.reduceMul, reduceCtorEq, Int.reduceToNat, Int.reduceEq, Int.reduceLT, Int.reduceLE, Int.reduceNe, Int.reduceNeg, hd0, h0, g1]
        refine (c26 0 0).callS rfl rfl rfl rfl rfl rfl ?_
        simp only [go_sem, Nat.reduceBEq, Nat.reduceEqDiff, Nat.reduceLT, Nat.reduceLeDiff, Nat.reduceAdd, Nat.reduceSub, Nat.reduceMul, reduceCtorEq, Int.reduceToNat, Int.reduceEq, Int.reduceLT, Int.reduceLE, Int.reduceNe, Int.reduceNeg, hd0, Sp.d, sp0, h0, g1]
        refine c17.callS rfl rfl rfl rfl rfl rfl ?_
        simp only [go_sem, Nat.reduceBEq, Nat.reduceEqDiff, Nat.reduceLT, Nat.reduceLeDiff, Nat.reduceAdd, Nat.reduceSub, Nat.reduceMul, reduceCtorEq, Int.reduceToNat, Int.reduceEq, Int.reduceLT, Int.reduceLE, Int.reduceNe, Int.reduceNeg, hd0, h0, g1]
      · rw [e1, e2]
        have hb0 : decide ((0 : Int) ≤ b) = true := by simp; omega
        simp only [go_sem, Nat.reduceBEq, Nat.reduceEqDiff, Nat.reduceLT, Nat.reduceLeDiff, Nat.reduceAdd, Nat.reduceSub, Nat.reduceMul, reduceCtorEq, Int.reduceToNat, Int.reduceEq, Int.reduceLT, Int.reduceLE, Int.reduceNe, Int.reduceNeg, h0, hd0, g1, Sp.d, hb0]
        refine c17.call rfl rfl rfl ?_
        simp only [go_sem, Nat.reduceBEq, Nat.reduceEqDiff, Nat.reduceLT, Nat.reduceLeDiff, Nat.reduceAdd, Nat.reduceSub, Nat.reduceMul, reduceCtorEq, Int.reduceToNat, Int.reduceEq, Int.reduceLT, Int.reduceLE, Int.reduceNe, Int.reduceNeg, h0, hd0, g1, Sp.d, hb0]
  · have hmv : mixV l = sp0 := by simp only [mixV, if_neg h0]
    have hwp : waterP l want = (sp0, acidsP l) := by simp only [waterP, if_neg h0]
    have h0' : decide (acidsP l = 0) = false := by simpa using h0
    simp only [go_sem, Nat.reduceBEq, Nat.reduceEqDiff, Nat.reduceLT, Nat.reduceLeDiff, Nat.reduceAdd, Nat.reduceSub, Nat.reduceMul, reduceCtorEq, Int.reduceToNat, Int.reduceEq, Int.reduceLT, Int.reduceLE, Int.reduceNe, Int.reduceNeg, h0', hd0]
    refine (c26 0 0).callS rfl rfl rfl rfl rfl rfl ?_
    simp only [hmv, hwp]
    simp only [go_sem, Nat.reduceBEq, Nat.reduceEqDiff, Nat.reduceLT, Nat.reduceLeDiff, Nat.reduceAdd, Nat.reduceSub, Nat.reduceMul, reduceCtorEq, Int.reduceToNat, Int.reduceEq, Int.reduceLT, Int.reduceLE, Int.reduceNe, Int.reduceNeg, h0', hd0, Sp.d, sp0]
    refine ADrw.treeG (fun _ => false) tt_ok (by kernel_rfl) (fun k => if k = 4 then some .L else some .S) (.ones [0, 1, 2, 3, 4, 5, 6, 7, 8, 9, 10, 11] .done) (by simp) (fun _ h => nomatch h) rfl rfl (by kernel_rfl) ?_
    simp only [go_sem, Nat.reduceBEq, Nat.reduceEqDiff, Nat.reduceLT, Nat.reduceLeDiff, Nat.reduceAdd, Nat.reduceSub, Nat.reduceMul, reduceCtorEq, Int.reduceToNat, Int.reduceEq, Int.reduceLT, Int.reduceLE, Int.reduceNe, Int.reduceNeg, hd0, h0', hwp]
    refine (c26 0 0).callS rfl rfl rfl rfl rfl rfl ?_
    simp only [go_sem, Nat.reduceBEq, Nat.reduceEqDiff, Nat.reduceLT, Nat.reduceLeDiff, Nat.reduceAdd, Nat.reduceSub, Nat.reduceMul, reduceCtorEq, Int.reduceToNat, Int.reduceEq, Int.reduceLT, Int.reduceLE, Int.reduceNe, Int.reduceNeg, hd0, Sp.d, sp0, h0', hwp]
    refine c17.callS rfl rfl rfl rfl rfl rfl ?_
    simp only [go_sem, Nat.reduceBEq, Nat.reduceEqDiff, Nat.reduceLT, Nat.reduceLeDiff, Nat.reduceAdd, Nat.reduceSub, Nat.reduceMul, reduceCtorEq, Int.reduceToNat, Int.reduceEq, Int.reduceLT, Int.reduceLE, Int.reduceNe, Int.reduceNeg, hd0, h0', hwp]
end Go.Aw
end

section
set_option maxRecDepth 100000
namespace Go.Aw
open Go Go.Proofs.Try

def Byte (n : Int) : Prop := 0 ≤ n ∧ n < 256

/-- Three bytes; four bytes. -/
structure B3 where
  a : Int
  b : Int
  c : Int
deriving DecidableEq

structure B4 where
  a : Int
  b : Int
  c : Int
  e : Int
deriving DecidableEq

def B3.d (s : B3) : D := .agg [.int .u8 s.a, .int .u8 s.b, .int .u8 s.c]
def B4.d (s : B4) : D := .agg [.int .u8 s.a, .int .u8 s.b, .int .u8 s.c, .int .u8 s.e]

structure B3.Ok (s : B3) : Prop where
  a : Byte s.a
  b : Byte s.b
  c : Byte s.c

structure B4.Ok (s : B4) : Prop where
  a : Byte s.a
  b : Byte s.b
  c : Byte s.c
  e : Byte s.e

theorem byte_conv {n : Int} (h : Byte n) : wr n = n := by simp only [Byte] at h; exact w64 (by omega) (by omega)

theorem c62 (n : Int) (s : Sp) : PC prog 62 [.d (.int .i64 n), .d s.d] (.d (.bool (decide (n ≥ s.lo) && decide (n ≤ s.hi)))) := by
  refine PC.run (fun _ => false) tt_ok (fn := f62) (rs := [.tmp 4]) rfl rfl rfl rfl rfl rfl rfl ?_
  simp only [go_sem, Nat.reduceBEq, Nat.reduceEqDiff, Nat.reduceLT, Nat.reduceLeDiff, Nat.reduceAdd, Nat.reduceSub, Nat.reduceMul, reduceCtorEq, Int.reduceToNat, Int.reduceEq, Int.reduceLT, Int.reduceLE, Int.reduceNe, Int.reduceNeg, Sp.d]
  refine Br_split (fun h => ?_) (fun h => ?_) <;> simp only [go_sem, Nat.reduceBEq, Nat.reduceEqDiff, Nat.reduceLT, Nat.reduceLeDiff, Nat.reduceAdd, Nat.reduceSub, Nat.reduceMul, reduceCtorEq, Int.reduceToNat, Int.reduceEq, Int.reduceLT, Int.reduceLE, Int.reduceNe, Int.reduceNeg, h]

theorem c69 (a b : Sp) : PC prog 69 [.d a.d, .d b.d] (.d (.bool (decide (a.lo ≥ b.lo) && decide (a.hi ≤ b.hi) && decide (a.lo ≤ a.hi)))) := by
  refine PC.run (fun _ => false) tt_ok (fn := f69) (rs := [.tmp 4]) rfl rfl rfl rfl rfl rfl rfl ?_
  simp only [go_sem, Nat.reduceBEq, Nat.reduceEqDiff, Nat.reduceLT, Nat.reduceLeDiff, Nat.reduceAdd, Nat.reduceSub, Nat.reduceMul, reduceCtorEq, Int.reduceToNat, Int.reduceEq, Int.reduceLT, Int.reduceLE, Int.reduceNe, Int.reduceNeg, Sp.d]
  refine Br_split (fun h => ?_) (fun h => ?_) <;> simp only [go_sem, Nat.reduceBEq, Nat.reduceEqDiff, Nat.reduceLT, Nat.reduceLeDiff, Nat.reduceAdd, Nat.reduceSub, Nat.reduceMul, reduceCtorEq, Int.reduceToNat, Int.reduceEq, Int.reduceLT, Int.reduceLE, Int.reduceNe, Int.reduceNeg, h]
  refine Br_split (fun h2 => ?_) (fun h2 => ?_) <;> simp only [go_sem, Nat.reduceBEq, Nat.reduceEqDiff, Nat.reduceLT, Nat.reduceLeDiff, Nat.reduceAdd, Nat.reduceSub, Nat.reduceMul, reduceCtorEq, Int.reduceToNat, Int.reduceEq, Int.reduceLT, Int.reduceLE, Int.reduceNe, Int.reduceNeg, h, h2]

/-- What is known of what was used. -/
def usedS (x : B3) : Sp := ⟨max 0 (x.a - x.b % 20), x.a + x.c % 20⟩

def sumA (l : List B3) : Int := (l.map B3.a).sum

theorem sumA_bnd : ∀ l : List B3, (∀ x ∈ l, x.Ok) → 0 ≤ sumA l ∧ sumA l ≤ 255 * l.length
  | [], _ => by simp [sumA]
  | x :: r, h => by
    have h1 := (h x List.mem_cons_self).a
    have h2 := sumA_bnd r (fun y hy => h y (List.mem_cons_of_mem _ hy))
    simp only [Byte] at h1
    simp only [sumA, List.map_cons, List.sum_cons, List.length_cons] at h2 ⊢
    omega

theorem miss_sum : ∀ (l : List Sp) (m : Sp), l.foldl missStep m = ⟨m.lo - (l.map Sp.hi).sum, m.hi - (l.map Sp.lo).sum⟩
  | [], m => by simp
  | s :: r, m => by
    rw [List.foldl_cons, miss_sum r]
    simp only [missStep, List.map_cons, List.sum_cons, Sp.mk.injEq]
    omega

theorem used_sum : ∀ l : List B3, (∀ x ∈ l, x.Ok) → sumA l ≤ ((l.map usedS).map Sp.hi).sum ∧ ((l.map usedS).map Sp.lo).sum ≤ sumA l
  | [], _ => by simp [sumA]
  | x :: r, h => by
    have h0 := h x List.mem_cons_self
    have h1 := h0.a
    have h2 := h0.b
    have h3 := h0.c
    have h4 := used_sum r (fun y hy => h y (List.mem_cons_of_mem _ hy))
    simp only [Byte] at h1 h2 h3
    simp only [sumA, List.map_cons, List.sum_cons, usedS] at h4 ⊢
    omega

def aS (full c : Int) : Sp := ⟨max 0 (full - c % 30), full + c / 30⟩
def bS (left e : Int) : Sp := ⟨max 0 (left - e % 16), left + e / 16⟩
def wider (s : Sp) : Sp := ⟨max 0 (s.lo - 5), s.hi + 5⟩

theorem carboy_ok {full left : Sp} {used : List Sp} (h1 : used.length ≤ 10) (h2 : badCarboy full = false) (h3 : badCarboy left = false) (h4 : ∀ s ∈ used, badCarboy s = false) : carboyP full used left = 0 := by
  have : used.any badCarboy = false := by
    rw [List.any_eq_false]
    intro s hs
    rw [h4 s hs]; simp
  simp only [carboyP, if_neg (show ¬ used.length > 10 by omega), h2, h3, this]
  rfl

theorem missed_law {L : List B3} {v : B4} (hL : ∀ x ∈ L, x.Ok) (hl : L.length ≤ 10) (hv : v.Ok) : ∃ s t : Sp, missP (aS (sumA L + v.a + v.b) v.c) (L.map usedS) (bS v.a v.e) = (s, 0) ∧ missP (wider (aS (sumA L + v.a + v.b) v.c)) (L.map usedS) (wider (bS v.a v.e)) = (t, 0) ∧
    (v.b ≥ s.lo ∧ v.b ≤ s.hi) ∧ 0 ≤ s.lo ∧ s.lo ≥ t.lo ∧ s.hi ≤ t.hi ∧ s.lo ≤ s.hi := by
  have hb := sumA_bnd L hL
  have hs := used_sum L hL
  have h1 := hv.a
  have h2 := hv.b
  have h3 := hv.c
  have h4 := hv.e
  simp only [Byte] at h1 h2 h3 h4
  have hlen : (L.map usedS).length ≤ 10 := by simpa using hl
  have hu : ∀ s ∈ L.map usedS, badCarboy s = false := fun s hs => by
    obtain ⟨x, hx, rfl⟩ := List.mem_map.1 hs
    have k1 := (hL x hx).a
    have k2 := (hL x hx).b
    have k3 := (hL x hx).c
    simp only [Byte] at k1 k2 k3
    rw [badCarboy_iff]
    simp only [usedS]
    omega
  generalize sumA L = S at hb hs
  have c0 : carboyP (aS (S + v.a + v.b) v.c) (L.map usedS) (bS v.a v.e) = 0 := carboy_ok hlen (by rw [badCarboy_iff]; simp only [aS]; omega) (by rw [badCarboy_iff]; simp only [bS]; omega) hu
  have c1 : carboyP (wider (aS (S + v.a + v.b) v.c)) (L.map usedS) (wider (bS v.a v.e)) = 0 := carboy_ok hlen (by rw [badCarboy_iff]; simp only [aS, wider]; omega) (by rw [badCarboy_iff]; simp only [bS, wider]; omega) hu
  have m : ∀ f l : Sp, missAll f (L.map usedS) l = ⟨f.lo - ((L.map usedS).map Sp.hi).sum - l.hi, f.hi - ((L.map usedS).map Sp.lo).sum - l.lo⟩ := fun f l => by
    simp only [missAll, List.foldl_append, List.foldl_cons, List.foldl_nil, missStep]
    rw [miss_sum]
  generalize ((L.map usedS).map Sp.hi).sum = P at hs m
  generalize ((L.map usedS).map Sp.lo).sum = Q at hs m
  have n0 : ¬ (missAll (aS (S + v.a + v.b) v.c) (L.map usedS) (bS v.a v.e)).hi < 0 := by rw [m]; simp only [aS, bS]; omega
  have n1 : ¬ (missAll (wider (aS (S + v.a + v.b) v.c)) (L.map usedS) (wider (bS v.a v.e))).hi < 0 := by rw [m]; simp only [aS, bS, wider]; omega
  refine ⟨_, _, by rw [missP, if_pos c0, if_neg n0], by rw [missP, if_pos c1, if_neg n1], ?_⟩
  simp only [m, aS, bS, wider]
  omega

theorem c16 (used : List B3) (v : B4) (hu : ∀ x ∈ used, x.Ok) (hv : v.Ok) : PC prog 16 [.d (.sl (used.map B3.d)), .d v.d] (.d (.bool true)) := by
  refine PC.run (fun k => k == 18) tt_ok (fn := f16) (rs := [.tmp 4]) rfl rfl rfl rfl rfl rfl rfl ?_
  have hv1 := hv.a
  have hv2 := hv.b
  have hv3 := hv.c
  have hv4 := hv.e
  have hv0 := hv
  have ea := byte_conv hv1
  have eb := byte_conv hv2
  have ec := byte_conv hv3
  have ee := byte_conv hv4
  have hc0 := hv3.1
  have he0 := hv4.1
  have mc : v.c.tmod 30 = v.c % 30 := Int.tmod_eq_emod_of_nonneg hc0
  have me : v.e.tmod 16 = v.e % 16 := Int.tmod_eq_emod_of_nonneg he0
  have qc : v.c.tdiv 30 = v.c / 30 := Int.tdiv_eq_ediv_of_nonneg hc0
  have qe : v.e.tdiv 16 = v.e / 16 := Int.tdiv_eq_ediv_of_nonneg he0
  have z20 : (20 : Int) ≠ 0 := by omega
  have z30 : (30 : Int) ≠ 0 := by omega
  have z16 : (16 : Int) ≠ 0 := by omega
  simp only [go_sem, Nat.reduceBEq, Nat.reduceEqDiff, Nat.reduceLT, Nat.reduceLeDiff, Nat.reduceAdd, Nat.reduceSub, Nat.reduceMul, reduceCtorEq, Int.reduceToNat, Int.reduceEq, Int.reduceLT, Int.reduceLE, Int.reduceNe, Int.reduceNeg, B4.d]
  refine ALoop.by (S := Nat) (fun i => [(8, .d (.int .i64 i)), (7, .ref 1 i 0 i), (6, .d (.int .i64 (sumA (used.take i)))), (3, .ptr 0 0), (0, .d (.sl (used.map B3.d)))])
    (fun i => [.cells [.d (.int .u8 v.a), .d (.int .u8 v.b), .d (.int .u8 v.c), .d (.int .u8 v.e)], .arr 2 false (((used.take i).map usedS).map Sp.d)]) (fun i => 10 - i) (fun i => i ≤ used.length ∧ i ≤ 10) 0 (by simp) (fun _ h => nomatch h) ⟨Nat.zero_le _, by omega⟩ ?_ ?_
  · exact ForgetTo.same' (by simp) (by simp [EWe, Env.look, sumA]) (by simp)
  rintro i ⟨hi, hi10⟩ hn
  have hub := sumA_bnd (used.take i) (fun x hx => hu x (List.mem_of_mem_take hx))
  have hlen : (used.take i).length = i := by simp; omega
  rw [hlen] at hub
  refine AWP.run (fun k => k == 18) tt_ok (fun _ h => nomatch h) (by simp) rfl ?_
  simp only [go_sem, Nat.reduceBEq, Nat.reduceEqDiff, Nat.reduceLT, Nat.reduceLeDiff, Nat.reduceAdd, Nat.reduceSub, Nat.reduceMul, reduceCtorEq, Int.reduceToNat, Int.reduceEq, Int.reduceLT, Int.reduceLE, Int.reduceNe, Int.reduceNeg]
  refine Br_split (fun hd => ?_) (fun hd => ?_) <;> simp only [go_sem, Nat.reduceBEq, Nat.reduceEqDiff, Nat.reduceLT, Nat.reduceLeDiff, Nat.reduceAdd, Nat.reduceSub, Nat.reduceMul, reduceCtorEq, Int.reduceToNat, Int.reduceEq, Int.reduceLT, Int.reduceLE, Int.reduceNe, Int.reduceNeg, hd]
  · have hlt : i < used.length := by simpa using hd
    refine Br_split (fun hd2 => ?_) (fun hd2 => ?_) <;> simp only [go_sem, Nat.reduceBEq, Nat.reduceEqDiff, Nat.reduceLT, Nat.reduceLeDiff, Nat.reduceAdd, Nat.reduceSub, Nat.reduceMul, reduceCtorEq, Int.reduceToNat, Int.reduceEq, Int.reduceLT, Int.reduceLE, Int.reduceNe, Int.reduceNeg, hd, hd2]
    · have hlt2 : i < 10 := by simp only [decide_eq_true_eq] at hd2; omega
      have hx := hu _ (List.getElem_mem hlt)
      have hix : idx? (used.map B3.d) (i : Int) = some (used[i]).d := by simp [idx?, List.getElem?_eq_getElem hlt]
      have hst : (used.take (i + 1)) = used.take i ++ [used[i]] := List.take_succ_eq_append_getElem hlt
      generalize used[i] = x at hx hix hst
      have hx1 := hx.a
      have hx2 := hx.b
      have hx3 := hx.c
      have e1 := byte_conv hx1
      have e2 := byte_conv hx2
      have e3 := byte_conv hx3
      simp only [Byte] at hx1 hx2 hx3
      have m2 : x.b.tmod 20 = x.b % 20 := Int.tmod_eq_emod_of_nonneg hx2.1
      have m3 : x.c.tmod 20 = x.c % 20 := Int.tmod_eq_emod_of_nonneg hx3.1
      have w1 : IntKind.i64.wrap (sumA (used.take i) + x.a) = sumA (used.take i) + x.a := w64 (by omega) (by omega)
      have w2 : IntKind.i64.wrap (x.a - x.b % 20) = x.a - x.b % 20 := w64 (by omega) (by omega)
      have w3 : IntKind.i64.wrap (x.a + x.c % 20) = x.a + x.c % 20 := w64 (by omega) (by omega)
      simp only [go_sem, Nat.reduceBEq, Nat.reduceEqDiff, Nat.reduceLT, Nat.reduceLeDiff, Nat.reduceAdd, Nat.reduceSub, Nat.reduceMul, reduceCtorEq, Int.reduceToNat, Int.reduceEq, Int.reduceLT, Int.reduceLE, Int.reduceNe, Int.reduceNeg, hix, B3.d, e1, w1]
      refine ADrw.treeG (fun k => k == 18) tt_ok (by kernel_rfl) (fun k => if k = 22 then some .W else some .S) (.ones [0, 1, 2, 3, 4, 5, 6, 7, 8, 9, 10, 11, 12, 13, 14, 15, 16, 17, 18, 19, 20, 21, 22, 23] .done) (by simp) (fun _ h => nomatch h) rfl rfl (by kernel_rfl) ?_
      simp only [go_sem, Nat.reduceBEq, Nat.reduceEqDiff, Nat.reduceLT, Nat.reduceLeDiff, Nat.reduceAdd, Nat.reduceSub, Nat.reduceMul, reduceCtorEq, Int.reduceToNat, Int.reduceEq, Int.reduceLT, Int.reduceLE, Int.reduceNe, Int.reduceNeg, hix, B3.d, e2, e3, m2, m3, w2, w3, remO_ne z20]
      refine (c26 (max 0 (x.a - x.b % 20)) (x.a + x.c % 20)).callS rfl rfl rfl rfl rfl rfl ?_
      have hln : (((used.take i).map usedS).map Sp.d).length = i := by simp; omega
      have hi1 : i + 1 ≤ 4294967296 := by omega
      simp only [go_sem, Nat.reduceBEq, Nat.reduceEqDiff, Nat.reduceLT, Nat.reduceLeDiff, Nat.reduceAdd, Nat.reduceSub, Nat.reduceMul, reduceCtorEq, Int.reduceToNat, Int.reduceEq, Int.reduceLT, Int.reduceLE, Int.reduceNe, Int.reduceNeg, hln, hlen, hi1, Sp.d, List.length_map]
      refine ⟨i + 1, ⟨hlt, hlt2⟩, by omega, ?_⟩
      exact ForgetTo.same' (by simp) (by simp [EWe, Env.look, hst, sumA, w64 (n := (i : Int) + 1) (by omega) (by omega)]) (by rw [hst]; simp [usedS, Sp.d])
    · 
      have hL : ∀ x ∈ used.take i, x.Ok := fun x hx => hu x (List.mem_of_mem_take hx)
      generalize used.take i = L at hub hlen hL
      have htk : ((L.map usedS).map Sp.d).take i = (L.map usedS).map Sp.d := List.take_of_length_le (by simp [hlen])
      have hsz := sized_sps (L.map usedS)
      have hle : i ≤ 4294967296 := by omega
      obtain ⟨s, t, k1, k2, k3, k4, k5, k6, k7⟩ := missed_law hL (by omega) hv0
      have b1 := hv1
      have b2 := hv2
      have b3 := hv3
      have b4 := hv4
      simp only [Byte] at b1 b2 b3 b4
      refine ADrw.treeG (fun k => k == 18) tt_ok (by kernel_rfl) (fun k => if k = 1 ∨ k = 4 then some .L else some .S) (.ones [0, 1, 2, 3, 4, 5, 6, 7] .done) (by simp) (fun _ h => nomatch h) rfl rfl (by kernel_rfl) ?_
      have w1 : IntKind.i64.wrap (sumA L + v.a) = sumA L + v.a := w64 (by omega) (by omega)
      have w2 : IntKind.i64.wrap (sumA L + v.a + v.b) = sumA L + v.a + v.b := w64 (by omega) (by omega)
      simp only [go_sem, Nat.reduceBEq, Nat.reduceEqDiff, Nat.reduceLT, Nat.reduceLeDiff, Nat.reduceAdd, Nat.reduceSub, Nat.reduceMul, reduceCtorEq, Int.reduceToNat, Int.reduceEq, Int.reduceLT, Int.reduceLE, Int.reduceNe, Int.reduceNeg, ea, eb, w1, w2]
      generalize hful : sumA L + v.a + v.b = full at k1 k2
      have hf : 0 ≤ full ∧ full ≤ 4000 := by omega
      have w3 : IntKind.i64.wrap (full - v.c % 30) = full - v.c % 30 := w64 (by omega) (by omega)
      have w4 : IntKind.i64.wrap (full + v.c / 30) = full + v.c / 30 := w64 (by omega) (by omega)
      have w5 : IntKind.i64.wrap (v.a - v.e % 16) = v.a - v.e % 16 := w64 (by omega) (by omega)
      have w6 : IntKind.i64.wrap (v.a + v.e / 16) = v.a + v.e / 16 := w64 (by omega) (by omega)
      have q1 : IntKind.i64.wrap (v.c / 30) = v.c / 30 := w64 (by omega) (by omega)
      have q2 : IntKind.i64.wrap (v.e / 16) = v.e / 16 := w64 (by omega) (by omega)
      refine ADrw.treeG (fun k => k == 18) tt_ok (by kernel_rfl) (fun k => if k = 2 ∨ k = 9 ∨ k = 16 ∨ k = 23 then some .L else if k = 30 ∨ k = 31 then some .W else if k = 28 ∨ k = 29 then some .A else some .S) (.ones [0, 1, 2, 3, 4, 5, 6, 7, 8, 9, 10, 11, 12, 13, 14, 15, 16, 17, 18, 19, 20, 21, 22, 23, 24, 25, 26, 27] (.two 28 (.ones [29, 30, 31] .done) 29 (.ones [28, 30, 31] .done))) (by simp) (fun _ h => nomatch h) rfl rfl (by kernel_rfl) ?_
      simp only [go_sem, Nat.reduceBEq, Nat.reduceEqDiff, Nat.reduceLT, Nat.reduceLeDiff, Nat.reduceAdd, Nat.reduceSub, Nat.reduceMul, reduceCtorEq, Int.reduceToNat, Int.reduceEq, Int.reduceLT, Int.reduceLE, Int.reduceNe, Int.reduceNeg, ec, ee, mc, me, qc, qe, q1, q2, w3, w4, w5, w6, remO_ne z30, remO_ne z16, quoO_ne z30, quoO_ne z16]
      have cA : PC prog 26 [.d (.int .i64 (max 0 (full - v.c % 30))), .d (.int .i64 (full + v.c / 30))] (.d (aS full v.c).d) := c26 _ _
      have cB : PC prog 26 [.d (.int .i64 (max 0 (v.a - v.e % 16))), .d (.int .i64 (v.a + v.e / 16))] (.d (bS v.a v.e).d) := c26 _ _
      refine cA.callS rfl rfl rfl rfl rfl rfl ?_
      simp only [go_sem, Nat.reduceBEq, Nat.reduceEqDiff, Nat.reduceLT, Nat.reduceLeDiff, Nat.reduceAdd, Nat.reduceSub, Nat.reduceMul, reduceCtorEq, Int.reduceToNat, Int.reduceEq, Int.reduceLT, Int.reduceLE, Int.reduceNe, Int.reduceNeg, ec, ee, mc, me, qc, qe, q1, q2, w3, w4, w5, w6, remO_ne z30, remO_ne z16, quoO_ne z30, quoO_ne z16, Sp.d]
      refine cB.callS rfl rfl rfl rfl rfl rfl ?_
      have wa1 : IntKind.i64.wrap ((aS full v.c).lo - 5) = (aS full v.c).lo - 5 := w64 (by simp only [aS]; omega) (by simp only [aS]; omega)
      have wa2 : IntKind.i64.wrap ((aS full v.c).hi + 5) = (aS full v.c).hi + 5 := w64 (by simp only [aS]; omega) (by simp only [aS]; omega)
      have wb1 : IntKind.i64.wrap ((bS v.a v.e).lo - 5) = (bS v.a v.e).lo - 5 := w64 (by simp only [bS]; omega) (by simp only [bS]; omega)
      have wb2 : IntKind.i64.wrap ((bS v.a v.e).hi + 5) = (bS v.a v.e).hi + 5 := w64 (by simp only [bS]; omega) (by simp only [bS]; omega)
      generalize aS full v.c = A at k1 k2 wa1 wa2
      generalize bS v.a v.e = B at k1 k2 wb1 wb2
      simp only [go_sem, Nat.reduceBEq, Nat.reduceEqDiff, Nat.reduceLT, Nat.reduceLeDiff, Nat.reduceAdd, Nat.reduceSub, Nat.reduceMul, reduceCtorEq, Int.reduceToNat, Int.reduceEq, Int.reduceLT, Int.reduceLE, Int.reduceNe, Int.reduceNeg, Sp.d]
      refine ⟨?_, ?_⟩
      all_goals
        refine ADrw.treeG (fun k => k == 18) tt_ok (by kernel_rfl) (fun k => if k = 0 ∨ k = 3 ∨ k = 4 then some .L else if k = 10 then some .W else if k = 9 then some .A else some .S) (.ones [0, 1, 2, 3, 4, 5, 6, 7, 8, 9, 10, 11] .done) (Nat.zero_le _) (fun _ h => nomatch h) rfl rfl (by kernel_rfl) ?_
        simp only [go_sem, Nat.reduceBEq, Nat.reduceEqDiff, Nat.reduceLT, Nat.reduceLeDiff, Nat.reduceAdd, Nat.reduceSub, Nat.reduceMul, reduceCtorEq, Int.reduceToNat, Int.reduceEq, Int.reduceLT, Int.reduceLE, Int.reduceNe, Int.reduceNeg, hlen, hle, hsz, htk, List.length_map, List.nil_append, Nat.zero_add]
        refine (c55 A (L.map usedS) B (by simp; omega)).callS rfl rfl rfl rfl rfl rfl ?_
        rw [k1]
        simp only [go_sem, Nat.reduceBEq, Nat.reduceEqDiff, Nat.reduceLT, Nat.reduceLeDiff, Nat.reduceAdd, Nat.reduceSub, Nat.reduceMul, reduceCtorEq, Int.reduceToNat, Int.reduceEq, Int.reduceLT, Int.reduceLE, Int.reduceNe, Int.reduceNeg, Sp.d]
        refine ADrw.treeG (fun k => k == 18) tt_ok (by kernel_rfl) (fun k => if k = 1 ∨ k = 5 ∨ k = 10 ∨ k = 12 ∨ k = 16 then some .L else if k = 24 then some .W else if k = 23 then some .A else some .S) (.ones [0, 1, 2, 3, 4, 5, 6, 7, 8, 9, 10, 11, 12, 13, 14, 15, 16, 17, 18, 19, 20, 21, 22, 23, 24, 25] .done) (Nat.zero_le _) (fun _ h => nomatch h) rfl rfl (by kernel_rfl) ?_
        simp only [go_sem, Nat.reduceBEq, Nat.reduceEqDiff, Nat.reduceLT, Nat.reduceLeDiff, Nat.reduceAdd, Nat.reduceSub, Nat.reduceMul, reduceCtorEq, Int.reduceToNat, Int.reduceEq, Int.reduceLT, Int.reduceLE, Int.reduceNe, Int.reduceNeg, wa1, wa2]
        refine (c26 (max 0 (A.lo - 5)) (A.hi + 5)).callS rfl rfl rfl rfl rfl rfl ?_
        simp only [go_sem, Nat.reduceBEq, Nat.reduceEqDiff, Nat.reduceLT, Nat.reduceLeDiff, Nat.reduceAdd, Nat.reduceSub, Nat.reduceMul, reduceCtorEq, Int.reduceToNat, Int.reduceEq, Int.reduceLT, Int.reduceLE, Int.reduceNe, Int.reduceNeg, hlen, hle, hsz, htk, List.length_map, List.nil_append, Nat.zero_add, wb1, wb2, Sp.d]
        refine (c26 (max 0 (B.lo - 5)) (B.hi + 5)).callS rfl rfl rfl rfl rfl rfl ?_
        simp only [go_sem, Nat.reduceBEq, Nat.reduceEqDiff, Nat.reduceLT, Nat.reduceLeDiff, Nat.reduceAdd, Nat.reduceSub, Nat.reduceMul, reduceCtorEq, Int.reduceToNat, Int.reduceEq, Int.reduceLT, Int.reduceLE, Int.reduceNe, Int.reduceNeg, Sp.d]
        refine (c55 (wider A) (L.map usedS) (wider B) (by simp; omega)).callS rfl rfl rfl rfl rfl rfl ?_
        rw [k2]
        simp only [go_sem, Nat.reduceBEq, Nat.reduceEqDiff, Nat.reduceLT, Nat.reduceLeDiff, Nat.reduceAdd, Nat.reduceSub, Nat.reduceMul, reduceCtorEq, Int.reduceToNat, Int.reduceEq, Int.reduceLT, Int.reduceLE, Int.reduceNe, Int.reduceNeg, Sp.d]
        refine (c62 v.b s).call rfl rfl rfl ?_
        have d1 : (decide (v.b ≥ s.lo) && decide (v.b ≤ s.hi)) = true := by simp; omega
        have d2 : decide (0 ≤ s.lo) = true := by simp; omega
        have d3 : (decide (s.lo ≥ t.lo) && decide (s.hi ≤ t.hi) && decide (s.lo ≤ s.hi)) = true := by simp; omega
        rw [d1]
        simp only [go_sem, Nat.reduceBEq, Nat.reduceEqDiff, Nat.reduceLT, Nat.reduceLeDiff, Nat.reduceAdd, Nat.reduceSub, Nat.reduceMul, reduceCtorEq, Int.reduceToNat, Int.reduceEq, Int.reduceLT, Int.reduceLE, Int.reduceNe, Int.reduceNeg, Sp.d, d2]
        refine (c69 s t).call rfl rfl rfl ?_
        rw [d3]
        simp only [go_sem, Nat.reduceBEq, Nat.reduceEqDiff, Nat.reduceLT, Nat.reduceLeDiff, Nat.reduceAdd, Nat.reduceSub, Nat.reduceMul, reduceCtorEq, Int.reduceToNat, Int.reduceEq, Int.reduceLT, Int.reduceLE, Int.reduceNe, Int.reduceNeg, Sp.d, d2]
        refine c17.call rfl rfl rfl ?_
        simp only [go_sem, Nat.reduceBEq, Nat.reduceEqDiff, Nat.reduceLT, Nat.reduceLeDiff, Nat.reduceAdd, Nat.reduceSub, Nat.reduceMul, reduceCtorEq, Int.reduceToNat, Int.reduceEq, Int.reduceLT, Int.reduceLE, Int.reduceNe, Int.reduceNeg, Sp.d, d2]
  · 
    have hL : ∀ x ∈ used.take i, x.Ok := fun x hx => hu x (List.mem_of_mem_take hx)
    generalize used.take i = L at hub hlen hL
    have htk : ((L.map usedS).map Sp.d).take i = (L.map usedS).map Sp.d := List.take_of_length_le (by simp [hlen])
    have hsz := sized_sps (L.map usedS)
    have hle : i ≤ 4294967296 := by omega
    obtain ⟨s, t, k1, k2, k3, k4, k5, k6, k7⟩ := missed_law hL (by omega) hv0
    have b1 := hv1
    have b2 := hv2
    have b3 := hv3
    have b4 := hv4
    simp only [Byte] at b1 b2 b3 b4
    refine ADrw.treeG (fun k => k == 18) tt_ok (by kernel_rfl) (fun k => if k = 1 ∨ k = 4 then some .L else some .S) (.ones [0, 1, 2, 3, 4, 5, 6, 7] .done) (by simp) (fun _ h => nomatch h) rfl rfl (by kernel_rfl) ?_
    have w1 : IntKind.i64.wrap (sumA L + v.a) = sumA L + v.a := w64 (by omega) (by omega)
    have w2 : IntKind.i64.wrap (sumA L + v.a + v.b) = sumA L + v.a + v.b := w64 (by omega) (by omega)
    simp only [go_sem, Nat.reduceBEq, Nat.reduceEqDiff, Nat.reduceLT, Nat.reduceLeDiff, Nat.reduceAdd, Nat.reduceSub, Nat.reduceMul, reduceCtorEq, Int.reduceToNat, Int.reduceEq, Int.reduceLT, Int.reduceLE, Int.reduceNe, Int.reduceNeg, ea, eb, w1, w2]
    generalize hful : sumA L + v.a + v.b = full at k1 k2
    have hf : 0 ≤ full ∧ full ≤ 4000 := by omega
    have w3 : IntKind.i64.wrap (full - v.c % 30) = full - v.c % 30 := w64 (by omega) (by omega)
    have w4 : IntKind.i64.wrap (full + v.c / 30) = full + v.c / 30 := w64 (by omega) (by omega)
    have w5 : IntKind.i64.wrap (v.a - v.e % 16) = v.a - v.e % 16 := w64 (by omega) (by omega)
    have w6 : IntKind.i64.wrap (v.a + v.e / 16) = v.a + v.e / 16 := w64 (by omega) (by omega)
    have q1 : IntKind.i64.wrap (v.c / 30) = v.c / 30 := w64 (by omega) (by omega)
    have q2 : IntKind.i64.wrap (v.e / 16) = v.e / 16 := w64 (by omega) (by omega)
    refine ADrw.treeG (fun k => k == 18) tt_ok (by kernel_rfl) (fun k => if k = 2 ∨ k = 9 ∨ k = 16 ∨ k = 23 then some .L else if k = 30 ∨ k = 31 then some .W else if k = 28 ∨ k = 29 then some .A else some .S) (.ones [0, 1, 2, 3, 4, 5, 6, 7, 8, 9, 10, 11, 12, 13, 14, 15, 16, 17, 18, 19, 20, 21, 22, 23, 24, 25, 26, 27] (.two 28 (.ones [29, 30, 31] .done) 29 (.ones [28, 30, 31] .done))) (by simp) (fun _ h => nomatch h) rfl rfl (by kernel_rfl) ?_
    simp only [go_sem, Nat.reduceBEq, Nat.reduceEqDiff, Nat.reduceLT, Nat.reduceLeDiff, Nat.reduceAdd, Nat.reduceSub, Nat.reduceMul, reduceCtorEq, Int.reduceToNat, Int.reduceEq, Int.reduceLT, Int.reduceLE, Int.reduceNe, Int.reduceNeg, ec, ee, mc, me, qc, qe, q1, q2, w3, w4, w5, w6, remO_ne z30, remO_ne z16, quoO_ne z30, quoO_ne z16]
    have cA : PC prog 26 [.d (.int .i64 (max 0 (full - v.c % 30))), .d (.int .i64 (full + v.c / 30))] (.d (aS full v.c).d) := c26 _ _
    have cB : PC prog 26 [.d (.int .i64 (max 0 (v.a - v.e % 16))), .d (.int .i64 (v.a + v.e / 16))] (.d (bS v.a v.e).d) := c26 _ _
    refine cA.callS rfl rfl rfl rfl rfl rfl ?_
    simp only [go_sem, Nat.reduceBEq, Nat.reduceEqDiff, Nat.reduceLT, Nat.reduceLeDiff, Nat.reduceAdd, Nat.reduceSub, Nat.reduceMul, reduceCtorEq, Int.reduceToNat, Int.reduceEq, Int.reduceLT, Int.reduceLE, Int.reduceNe, Int.reduceNeg, ec, ee, mc, me, qc, qe, q1, q2, w3, w4, w5, w6, remO_ne z30, remO_ne z16, quoO_ne z30, quoO_ne z16, Sp.d]
    refine cB.callS rfl rfl rfl rfl rfl rfl ?_
    have wa1 : IntKind.i64.wrap ((aS full v.c).lo - 5) = (aS full v.c).lo - 5 := w64 (by simp only [aS]; omega) (by simp only [aS]; omega)
    have wa2 : IntKind.i64.wrap ((aS full v.c).hi + 5) = (aS full v.c).hi + 5 := w64 (by simp only [aS]; omega) (by simp only [aS]; omega)
    have wb1 : IntKind.i64.wrap ((bS v.a v.e).lo - 5) = (bS v.a v.e).lo - 5 := w64 (by simp only [bS]; omega) (by simp only [bS]; omega)
    have wb2 : IntKind.i64.wrap ((bS v.a v.e).hi + 5) = (bS v.a v.e).hi + 5 := w64 (by simp only [bS]; omega) (by simp only [bS]; omega)
    generalize aS full v.c = A at k1 k2 wa1 wa2
    generalize bS v.a v.e = B at k1 k2 wb1 wb2
    simp only [go_sem, Nat.reduceBEq, Nat.reduceEqDiff, Nat.reduceLT, Nat.reduceLeDiff, Nat.reduceAdd, Nat.reduceSub, Nat.reduceMul, reduceCtorEq, Int.reduceToNat, Int.reduceEq, Int.reduceLT, Int.reduceLE, Int.reduceNe, Int.reduceNeg, Sp.d]
    refine ⟨?_, ?_⟩
    all_goals
      refine ADrw.treeG (fun k => k == 18) tt_ok (by kernel_rfl) (fun k => if k = 0 ∨ k = 3 ∨ k = 4 then some .L else if k = 10 then some .W else if k = 9 then some .A else some .S) (.ones [0, 1, 2, 3, 4, 5, 6, 7, 8, 9, 10, 11] .done) (Nat.zero_le _) (fun _ h => nomatch h) rfl rfl (by kernel_rfl) ?_
      simp only [go_sem, Nat.reduceBEq, Nat.reduceEqDiff, Nat.reduceLT, Nat.reduceLeDiff, Nat.reduceAdd, Nat.reduceSub, Nat.reduceMul, reduceCtorEq, Int.reduceToNat, Int.reduceEq, Int.reduceLT, Int.reduceLE, Int.reduceNe, Int.reduceNeg, hlen, hle, hsz, htk, List.length_map, List.nil_append, Nat.zero_add]
      refine (c55 A (L.map usedS) B (by simp; omega)).callS rfl rfl rfl rfl rfl rfl ?_
      rw [k1]
      simp only [go_sem, Nat.reduceBEq, Nat.reduceEqDiff, Nat.reduceLT, Nat.reduceLeDiff, Nat.reduceAdd, Nat.reduceSub, Nat.reduceMul, reduceCtorEq, Int.reduceToNat, Int.reduceEq, Int.reduceLT, Int.reduceLE, Int.reduceNe, Int.reduceNeg, Sp.d]
      refine ADrw.treeG (fun k => k == 18) tt_ok (by kernel_rfl) (fun k => if k = 1 ∨ k = 5 ∨ k = 10 ∨ k = 12 ∨ k = 16 then some .L else if k = 24 then some .W else if k = 23 then some .A else some .S) (.ones [0, 1, 2, 3, 4, 5, 6, 7, 8, 9, 10, 11, 12, 13, 14, 15, 16, 17, 18, 19, 20, 21, 22, 23, 24, 25] .done) (Nat.zero_le _) (fun _ h => nomatch h) rfl rfl (by kernel_rfl) ?_
      simp only [go_sem, Nat.reduceBEq, Nat.reduceEqDiff, Nat.reduceLT, Nat.reduceLeDiff, Nat.reduceAdd, Nat.reduceSub, Nat.reduceMul, reduceCtorEq, Int.reduceToNat, Int.reduceEq, Int.reduceLT, Int.reduceLE, Int.reduceNe, Int.reduceNeg, wa1, wa2]
      refine (c26 (max 0 (A.lo - 5)) (A.hi + 5)).callS rfl rfl rfl rfl rfl rfl ?_
      simp only [go_sem, Nat.reduceBEq, Nat.reduceEqDiff, Nat.reduceLT, Nat.reduceLeDiff, Nat.reduceAdd, Nat.reduceSub, Nat.reduceMul, reduceCtorEq, Int.reduceToNat, Int.reduceEq, Int.reduceLT, Int.reduceLE, Int.reduceNe, Int.reduceNeg, hlen, hle, hsz, htk, List.length_map, List.nil_append, Nat.zero_add, wb1, wb2, Sp.d]
      refine (c26 (max 0 (B.lo - 5)) (B.hi + 5)).callS rfl rfl rfl rfl rfl rfl ?_
      simp only [go_sem, Nat.reduceBEq, Nat.reduceEqDiff, Nat.reduceLT, Nat.reduceLeDiff, Nat.reduceAdd, Nat.reduceSub, Nat.reduceMul, reduceCtorEq, Int.reduceToNat, Int.reduceEq, Int.reduceLT, Int.reduceLE, Int.reduceNe, Int.reduceNeg, Sp.d]
      refine (c55 (wider A) (L.map usedS) (wider B) (by simp; omega)).callS rfl rfl rfl rfl rfl rfl ?_
      rw [k2]
      simp only [go_sem, Nat.reduceBEq, Nat.reduceEqDiff, Nat.reduceLT, Nat.reduceLeDiff, Nat.reduceAdd, Nat.reduceSub, Nat.reduceMul, reduceCtorEq, Int.reduceToNat, Int.reduceEq, Int.reduceLT, Int.reduceLE, Int.reduceNe, Int.reduceNeg, Sp.d]
      refine (c62 v.b s).call rfl rfl rfl ?_
      have d1 : (decide (v.b ≥ s.lo) && decide (v.b ≤ s.hi)) = true := by simp; omega
      have d2 : decide (0 ≤ s.lo) = true := by simp; omega
      have d3 : (decide (s.lo ≥ t.lo) && decide (s.hi ≤ t.hi) && decide (s.lo ≤ s.hi)) = true := by simp; omega
      rw [d1]
      simp only [go_sem, Nat.reduceBEq, Nat.reduceEqDiff, Nat.reduceLT, Nat.reduceLeDiff, Nat.reduceAdd, Nat.reduceSub, Nat.reduceMul, reduceCtorEq, Int.reduceToNat, Int.reduceEq, Int.reduceLT, Int.reduceLE, Int.reduceNe, Int.reduceNeg, Sp.d, d2]
      refine (c69 s t).call rfl rfl rfl ?_
      rw [d3]
      simp only [go_sem, Nat.reduceBEq, Nat.reduceEqDiff, Nat.reduceLT, Nat.reduceLeDiff, Nat.reduceAdd, Nat.reduceSub, Nat.reduceMul, reduceCtorEq, Int.reduceToNat, Int.reduceEq, Int.reduceLT, Int.reduceLE, Int.reduceNe, Int.reduceNeg, Sp.d, d2]
      refine c17.call rfl rfl rfl ?_
      simp only [go_sem, Nat.reduceBEq, Nat.reduceEqDiff, Nat.reduceLT, Nat.reduceLeDiff, Nat.reduceAdd, Nat.reduceSub, Nat.reduceMul, reduceCtorEq, Int.reduceToNat, Int.reduceEq, Int.reduceLT, Int.reduceLE, Int.reduceNe, Int.reduceNeg, Sp.d, d2]
end Go.Aw
end

section
set_option maxRecDepth 100000
namespace Go.Aw
open Go Go.Proofs

theorem has_u8 {f : Nat} {y : D} (h : HasT Try.prog (f + 1) 5 y) : ∃ n, y = .int .u8 n ∧ Byte n := by
  unfold HasT at h
  rw [Try.underlying5] at h
  obtain ⟨n, rfl, h⟩ := h
  refine ⟨n, rfl, ?_⟩
  simp [Lit.wf, IntKind.min, IntKind.max, IntKind.bits, IntKind.signed] at h
  simp only [Byte]; omega

theorem has_b3 {f : Nat} {y : D} (h : HasT Try.prog (f + 3) 97 y) : ∃ s : B3, y = s.d ∧ s.Ok := by
  unfold HasT at h
  rw [Try.underlying97] at h
  obtain ⟨l, rfl, h⟩ := h
  simp only [HasN] at h
  obtain ⟨y1, r1, rfl, h1, y2, r2, rfl, h2, y3, r3, rfl, h3, rfl⟩ := h
  obtain ⟨n1, rfl, b1⟩ := has_u8 h1
  obtain ⟨n2, rfl, b2⟩ := has_u8 h2
  obtain ⟨n3, rfl, b3⟩ := has_u8 h3
  exact ⟨⟨n1, n2, n3⟩, rfl, ⟨b1, b2, b3⟩⟩

theorem has_b3s {f : Nat} {y : D} (h : HasT Try.prog (f + 4) 124 y) : ∃ l : List B3, y = .sl (l.map B3.d) ∧ ∀ p ∈ l, p.Ok := by
  unfold HasT at h
  rw [Try.underlying124] at h
  obtain ⟨l, rfl, _, hl⟩ := h
  obtain ⟨ss, rfl⟩ := has_list (enc := fun n : {n : B3 // n.Ok} => n.1.d) (fun y hy => by obtain ⟨n, rfl, hn⟩ := has_b3 hy; exact ⟨⟨n, hn⟩, rfl⟩) l hl
  refine ⟨ss.map Subtype.val, by simp, fun n hn => ?_⟩
  obtain ⟨x, _, rfl⟩ := List.mem_map.1 hn
  exact x.2

theorem has_b4 {f : Nat} {y : D} (h : HasT Try.prog (f + 3) 114 y) : ∃ s : B4, y = s.d ∧ s.Ok := by
  unfold HasT at h
  rw [Try.underlying114] at h
  obtain ⟨l, rfl, h⟩ := h
  simp only [HasN] at h
  obtain ⟨y1, r1, rfl, h1, y2, r2, rfl, h2, y3, r3, rfl, h3, y4, r4, rfl, h4, rfl⟩ := h
  obtain ⟨n1, rfl, b1⟩ := has_u8 h1
  obtain ⟨n2, rfl, b2⟩ := has_u8 h2
  obtain ⟨n3, rfl, b3⟩ := has_u8 h3
  obtain ⟨n4, rfl, b4⟩ := has_u8 h4
  exact ⟨⟨n1, n2, n3, n4⟩, rfl, ⟨b1, b2, b3, b4⟩⟩
end Go.Aw
end

section
set_option maxRecDepth 100000
namespace Go.Aw
open Go Go.Proofs.Try

structure Vat where
  s : B3
  plates : List B4

def Vat.d (x : Vat) : D := .agg [.int .u8 x.s.a, .int .u8 x.s.b, .int .u8 x.s.c, .sl (x.plates.map B4.d)]

structure Vat.Ok (x : Vat) : Prop where
  s : x.s.Ok
  p : ∀ v ∈ x.plates, v.Ok

def plateOf (v : B4) : Plate := ⟨⟨max 0 (v.a - v.b % 16), v.a + v.b / 16⟩, v.c % 4, v.e⟩

def Vat.low (x : Vat) : Int := 3 + x.s.a % 25
def Vat.bath (x : Vat) : Bath := ⟨⟨x.low, x.low + x.s.b % 6⟩, (x.plates.take 4).map plateOf⟩
def Vat.str (x : Vat) : Int := x.low + x.s.c % (x.s.b % 6 + 1)
def Vat.rusts (x : Vat) : List Int := (x.plates.take 4).map B4.a

theorem Vat.bathOk {x : Vat} (hx : x.Ok) : x.bath.Ok := by
  have h1 := hx.s.a
  have h2 := hx.s.b
  simp only [Byte] at h1 h2
  refine ⟨by simp only [Vat.bath, Vat.low]; omega, by simp only [Vat.bath]; omega, by simp only [Vat.bath, Vat.low]; omega, by simp [Vat.bath]; omega, fun p hp => ?_⟩
  obtain ⟨v, hv, rfl⟩ := List.mem_map.1 hp
  have k := hx.p v (List.mem_of_mem_take hv)
  have k1 := k.a
  have k2 := k.b
  have k3 := k.c
  have k4 := k.e
  simp only [Byte] at k1 k2 k3 k4
  simp only [Plate.Ok, plateOf]
  omega

theorem c58 {x : Vat} (hx : x.Ok) : PC prog 58 [.d x.d] (.tup [.d x.bath.d, .d (.int .i64 x.str), .d (.sl (x.rusts.map (.int .i64)))]) := by
  refine PC.run (fun k => k == 27 || k == 41) tt_ok (fn := f58) (rs := [.cell 2 26, .tmp 3, .tmp 4]) rfl rfl rfl rfl rfl rfl rfl ?_
  have h1 := hx.s.a
  have h2 := hx.s.b
  have h3 := hx.s.c
  have e1 := byte_conv h1
  have e2 := byte_conv h2
  have e3 := byte_conv h3
  simp only [Byte] at h1 h2 h3
  have m1 : x.s.a.tmod 25 = x.s.a % 25 := Int.tmod_eq_emod_of_nonneg h1.1
  have m2 : x.s.b.tmod 6 = x.s.b % 6 := Int.tmod_eq_emod_of_nonneg h2.1
  have z25 : (25 : Int) ≠ 0 := by omega
  have z6 : (6 : Int) ≠ 0 := by omega
  have w1 : IntKind.i64.wrap (3 + x.s.a % 25) = x.low := w64 (by omega) (by omega)
  have hlow : x.low = 3 + x.s.a % 25 := rfl
  have w2 : IntKind.i64.wrap (x.low + x.s.b % 6) = x.low + x.s.b % 6 := w64 (by omega) (by omega)
  simp only [go_sem, Nat.reduceBEq, Nat.reduceEqDiff, Nat.reduceLT, Nat.reduceLeDiff, Nat.reduceAdd, Nat.reduceSub, Nat.reduceMul, reduceCtorEq, Int.reduceToNat, Int.reduceEq, Int.reduceLT, Int.reduceLE, Int.reduceNe, Int.reduceNeg, Vat.d, e1, e2, e3, m1, m2, remO_ne z25, remO_ne z6, w1, w2]
  refine (c26 x.low (x.low + x.s.b % 6)).call rfl rfl rfl ?_
  have w3 : IntKind.i64.wrap (x.low + x.s.b % 6 - x.low) = x.s.b % 6 := by rw [w64 (by omega) (by omega)]; omega
  have w4 : IntKind.i64.wrap (x.s.b % 6 + 1) = x.s.b % 6 + 1 := w64 (by omega) (by omega)
  have zb : x.s.b % 6 + 1 ≠ 0 := by omega
  have m3 : x.s.c.tmod (x.s.b % 6 + 1) = x.s.c % (x.s.b % 6 + 1) := Int.tmod_eq_emod_of_nonneg h3.1
  have hm := Int.emod_lt_of_pos x.s.c (show 0 < x.s.b % 6 + 1 by omega)
  have hm0 := Int.emod_nonneg x.s.c zb
  have w5 : IntKind.i64.wrap (x.low + x.s.c % (x.s.b % 6 + 1)) = x.str := w64 (by omega) (by omega)
  simp only [go_sem, Nat.reduceBEq, Nat.reduceEqDiff, Nat.reduceLT, Nat.reduceLeDiff, Nat.reduceAdd, Nat.reduceSub, Nat.reduceMul, reduceCtorEq, Int.reduceToNat, Int.reduceEq, Int.reduceLT, Int.reduceLE, Int.reduceNe, Int.reduceNeg, Vat.d, e1, e2, e3, m1, m2, m3, remO_ne z25, remO_ne z6, remO_ne zb, w1, w2, w3, w4, w5, Sp.d]
  change AWP _ _ _ _ _ _ _ _
  refine AWP.nilrow 2 2 4 rfl rfl (Nat.zero_le _) ?_
  refine ALoop.by (S := Nat) (fun i => [(9, .d (.int .i64 i)), (8, .ref 3 i 0 i), (7, .d (.int .i64 x.str)), (6, .ptr 2 0), (2, .ptr 1 0), (1, .ptr 0 0)])
    (fun i => [.cells [.d (.int .u8 x.s.a), .d (.int .u8 x.s.b), .d (.int .u8 x.s.c), .d (.sl (x.plates.map B4.d))], .cells [.d (.int .i64 0), .d (.int .i64 0), .d (.sl [])],
      .cells [.d (.int .i64 x.low), .d (.int .i64 (x.low + x.s.b % 6)), .ref 4 i 0 i], .arr 1 false (((x.plates.take i).map B4.a).map (.int .i64)), .arr 4 (decide (i = 0)) (((x.plates.take i).map plateOf).map Plate.d)])
    (fun i => 4 - i) (fun i => i ≤ x.plates.length ∧ i ≤ 4) 0 (Nat.zero_le _) (fun _ h => nomatch h) ⟨Nat.zero_le _, by omega⟩ ?_ ?_
  · exact ForgetTo.same' (Nat.zero_le _) (by simp [EWe, Env.look]) (by simp)
  rintro i ⟨hi, hi4⟩ hn
  have hlen : (x.plates.take i).length = i := by simp; omega
  have FIN : (x.plates.take i) = x.plates.take 4 → (Vat.bath x).plates = (x.plates.take i).map plateOf ∧ x.rusts = (x.plates.take i).map B4.a := fun h => by rw [h]; exact ⟨rfl, rfl⟩
  refine AWP.run (fun k => k == 27 || k == 41) tt_ok (fun _ h => nomatch h) (Nat.zero_le _) rfl ?_
  simp only [go_sem, Nat.reduceBEq, Nat.reduceEqDiff, Nat.reduceLT, Nat.reduceLeDiff, Nat.reduceAdd, Nat.reduceSub, Nat.reduceMul, reduceCtorEq, Int.reduceToNat, Int.reduceEq, Int.reduceLT, Int.reduceLE, Int.reduceNe, Int.reduceNeg]
  refine Br_split (fun hd => ?_) (fun hd => ?_) <;> simp only [go_sem, Nat.reduceBEq, Nat.reduceEqDiff, Nat.reduceLT, Nat.reduceLeDiff, Nat.reduceAdd, Nat.reduceSub, Nat.reduceMul, reduceCtorEq, Int.reduceToNat, Int.reduceEq, Int.reduceLT, Int.reduceLE, Int.reduceNe, Int.reduceNeg, hd]
  · have hlt : i < x.plates.length := by simpa using hd
    refine Br_split (fun hd2 => ?_) (fun hd2 => ?_) <;> simp only [go_sem, Nat.reduceBEq, Nat.reduceEqDiff, Nat.reduceLT, Nat.reduceLeDiff, Nat.reduceAdd, Nat.reduceSub, Nat.reduceMul, reduceCtorEq, Int.reduceToNat, Int.reduceEq, Int.reduceLT, Int.reduceLE, Int.reduceNe, Int.reduceNeg, hd, hd2]
    · have hlt2 : i < 4 := by simp only [decide_eq_true_eq] at hd2; omega
      have hv := hx.p _ (List.getElem_mem hlt)
      have hix : idx? (x.plates.map B4.d) (i : Int) = some (x.plates[i]).d := by simp [idx?, List.getElem?_eq_getElem hlt]
      have hst : (x.plates.take (i + 1)) = x.plates.take i ++ [x.plates[i]] := List.take_succ_eq_append_getElem hlt
      generalize x.plates[i] = v at hv hix hst
      have b1 := hv.a
      have b2 := hv.b
      have b3 := hv.c
      have b4 := hv.e
      have f1 := byte_conv b1
      have f2 := byte_conv b2
      have f3 := byte_conv b3
      have f4 := byte_conv b4
      simp only [Byte] at b1 b2 b3 b4
      have z16 : (16 : Int) ≠ 0 := by omega
      have z4 : (4 : Int) ≠ 0 := by omega
      have n1 : v.b.tmod 16 = v.b % 16 := Int.tmod_eq_emod_of_nonneg b2.1
      have n2 : v.b.tdiv 16 = v.b / 16 := Int.tdiv_eq_ediv_of_nonneg b2.1
      have n3 : v.c.tmod 4 = v.c % 4 := Int.tmod_eq_emod_of_nonneg b3.1
      have v1 : IntKind.i64.wrap (v.a - v.b % 16) = v.a - v.b % 16 := w64 (by omega) (by omega)
      have v2 : IntKind.i64.wrap (v.b / 16) = v.b / 16 := w64 (by omega) (by omega)
      have v3 : IntKind.i64.wrap (v.a + v.b / 16) = v.a + v.b / 16 := w64 (by omega) (by omega)
      have l1 : (((x.plates.take i).map B4.a).map (D.int .i64)).length = i := by simp; omega
      have l2 : (((x.plates.take i).map plateOf).map Plate.d).length = i := by simp; omega
      have hi1 : i + 1 ≤ 4294967296 := by omega
      simp only [go_sem, Nat.reduceBEq, Nat.reduceEqDiff, Nat.reduceLT, Nat.reduceLeDiff, Nat.reduceAdd, Nat.reduceSub, Nat.reduceMul, reduceCtorEq, Int.reduceToNat, Int.reduceEq, Int.reduceLT, Int.reduceLE, Int.reduceNe, Int.reduceNeg, hix, B4.d, f1, l1, hlen, List.length_map, hi1]
      refine ADrw.treeG (fun k => k == 27 || k == 41) tt_ok (by kernel_rfl) (fun k => if k = 1 ∨ k = 4 ∨ k = 11 ∨ k = 17 ∨ k = 21 then some .L else if k = 25 ∨ k = 27 then some .W else some .S) (.ones [0, 1, 2, 3, 4, 5, 6, 7, 8, 9, 10, 11, 12, 13, 14, 15, 16, 17, 18, 19, 20, 21, 22, 23, 24, 25, 26, 27] .done) (Nat.zero_le _) (fun _ h => nomatch h) rfl rfl (by kernel_rfl) ?_
      simp only [go_sem, Nat.reduceBEq, Nat.reduceEqDiff, Nat.reduceLT, Nat.reduceLeDiff, Nat.reduceAdd, Nat.reduceSub, Nat.reduceMul, reduceCtorEq, Int.reduceToNat, Int.reduceEq, Int.reduceLT, Int.reduceLE, Int.reduceNe, Int.reduceNeg, f1, f2, f3, f4, n1, n2, n3, v1, v2, v3, remO_ne z16, quoO_ne z16, remO_ne z4]
      refine (c26 (max 0 (v.a - v.b % 16)) (v.a + v.b / 16)).callS rfl rfl rfl rfl rfl rfl ?_
      simp only [go_sem, Nat.reduceBEq, Nat.reduceEqDiff, Nat.reduceLT, Nat.reduceLeDiff, Nat.reduceAdd, Nat.reduceSub, Nat.reduceMul, reduceCtorEq, Int.reduceToNat, Int.reduceEq, Int.reduceLT, Int.reduceLE, Int.reduceNe, Int.reduceNeg, f1, f2, f3, f4, n1, n2, n3, v1, v2, v3, remO_ne z16, quoO_ne z16, remO_ne z4, Sp.d, l2, hlen, List.length_map, hi1]
      refine ⟨i + 1, ⟨hlt, hlt2⟩, by omega, ?_⟩
      refine ForgetTo.drop (H0 := [_, _, _, _, _]) (Y := [_]) (Nat.zero_le _) ?_ (by simp [BBs, BB, VBs, VB]) ?_
      · rw [hst]; simp [plateOf, Plate.d]
      · simp [EWp, Env.look, pubV, w64 (n := (i : Int) + 1) (by omega) (by omega)]
    · have hie : i = 4 := by simp only [decide_eq_false_iff_not] at hd2; omega
      obtain ⟨p1, p2⟩ := FIN (by rw [hie])
      generalize x.plates.take i = L at hlen p1 p2
      have t1 : (((L.map plateOf).map Plate.d)).take i = (L.map plateOf).map Plate.d := List.take_of_length_le (by simp [hlen])
      have t2 : (((L.map B4.a).map (D.int .i64))).take i = (L.map B4.a).map (D.int .i64) := List.take_of_length_le (by simp [hlen])
      have hbd : x.bath.d = .agg [.int .i64 x.low, .int .i64 (x.low + x.s.b % 6), .sl ((L.map plateOf).map Plate.d)] := by rw [← p1]; rfl
      rw [hbd, p2]
      simp only [go_sem, Nat.reduceBEq, Nat.reduceEqDiff, Nat.reduceLT, Nat.reduceLeDiff, Nat.reduceAdd, Nat.reduceSub, Nat.reduceMul, reduceCtorEq, Int.reduceToNat, Int.reduceEq, Int.reduceLT, Int.reduceLE, Int.reduceNe, Int.reduceNeg, hlen, t1, t2, List.length_map]
  · have hie : i = x.plates.length := by simp at hd; omega
    obtain ⟨p1, p2⟩ := FIN (by rw [hie, List.take_length, List.take_of_length_le (by omega)])
    generalize x.plates.take i = L at hlen p1 p2
    have t1 : (((L.map plateOf).map Plate.d)).take i = (L.map plateOf).map Plate.d := List.take_of_length_le (by simp [hlen])
    have t2 : (((L.map B4.a).map (D.int .i64))).take i = (L.map B4.a).map (D.int .i64) := List.take_of_length_le (by simp [hlen])
    have hbd : x.bath.d = .agg [.int .i64 x.low, .int .i64 (x.low + x.s.b % 6), .sl ((L.map plateOf).map Plate.d)] := by rw [← p1]; rfl
    rw [hbd, p2]
    simp only [go_sem, Nat.reduceBEq, Nat.reduceEqDiff, Nat.reduceLT, Nat.reduceLeDiff, Nat.reduceAdd, Nat.reduceSub, Nat.reduceMul, reduceCtorEq, Int.reduceToNat, Int.reduceEq, Int.reduceLT, Int.reduceLE, Int.reduceNe, Int.reduceNeg, hlen, t1, t2, List.length_map]
end Go.Aw
end

section
set_option maxRecDepth 100000
namespace Go.Aw
open Go Go.Proofs.Try

structure B2 where
  a : Int
  b : Int
deriving DecidableEq

def B2.d (s : B2) : D := .agg [.int .u8 s.a, .int .u8 s.b]

structure B2.Ok (s : B2) : Prop where
  a : Byte s.a
  b : Byte s.b

def stepV2 (n : Nat) (s : List Step) (v : B2) : List Step := if v.a % n ∈ platesOf s then s else s ++ [⟨v.a % n, 1 + v.b % 24⟩]

def stepsF (n : Nat) (l : List B2) : List Step := l.foldl (stepV2 n) []

def stepsB (b : Bath) (l : List B2) : List Step := if b.plates.length = 0 then [] else stepsF b.plates.length (l.take 5)

theorem stepsF_len (n : Nat) (l : List B2) : (stepsF n l).length ≤ l.length := by
  have : ∀ (l : List B2) (s : List Step), (l.foldl (stepV2 n) s).length ≤ s.length + l.length := by
    intro l
    induction l with
    | nil => intro s; simp
    | cons v r ih =>
      intro s
      have h1 := ih (stepV2 n s v)
      have h2 : (stepV2 n s v).length ≤ s.length + 1 := by unfold stepV2; split <;> simp
      simp only [List.foldl_cons, List.length_cons]
      omega
  simpa [stepsF] using this l []

theorem stepsOk_one {np : Nat} {l : List Step} (h : stepsOk np 0 l = true) {s : Step} (h1 : 0 ≤ s.plate ∧ s.plate < np) (h2 : 1 ≤ s.hours ∧ s.hours ≤ 24) (h3 : s.plate ∉ platesOf l) : stepsOk np 0 (l ++ [s]) = true := by
  have hm := stepsOk_more h s.plate
  rw [stepsOk_append, h, Bool.true_and] at hm ⊢
  have w1 : within 0 ((np : Int) - 1) [s.plate] = true := within_one.2 (by omega)
  have w2 : within 1 24 [s.hours] = true := within_one.2 h2
  have w3 : within 1 24 [(1 : Int)] = true := by decide
  have h3' : decide (s.plate ∈ platesOf l) = false := by simpa using h3
  have e1 : stepBad np (doneF 0 l) s = (doneF 0 l).testBit s.plate.toNat := by simp only [stepBad, w1, w2, Bool.not_true, Bool.false_or]
  have e2 : stepBad np (doneF 0 l) ⟨s.plate, 1⟩ = (doneF 0 l).testBit s.plate.toNat := by simp only [stepBad, w1, w3, Bool.not_true, Bool.false_or]
  have e3 : ∀ x : Step, stepsOk np (doneF 0 l) [x] = !stepBad np (doneF 0 l) x := fun x => by
    simp only [stepsOk]
    cases stepBad np (doneF 0 l) x <;> rfl
  rw [e3, e2, w1, h3'] at hm
  rw [e3, e1]
  simpa using hm

theorem stepsF_ok {n : Nat} (hn : 0 < n) (l : List B2) (hl : ∀ v ∈ l, v.Ok) : stepsOk n 0 (stepsF n l) = true := by
  have : ∀ (l : List B2) (s : List Step), (∀ v ∈ l, v.Ok) → stepsOk n 0 s = true → stepsOk n 0 (l.foldl (stepV2 n) s) = true := by
    intro l
    induction l with
    | nil => intro s _ h; exact h
    | cons v r ih =>
      intro s hv h
      refine ih _ (fun x hx => hv x (List.mem_cons_of_mem _ hx)) ?_
      unfold stepV2
      split
      · exact h
      · rename_i hp
        have h1 := (hv v List.mem_cons_self).a
        have h2 := (hv v List.mem_cons_self).b
        simp only [Byte] at h1 h2
        have e1 := Int.emod_nonneg v.a (show (n : Int) ≠ 0 by omega)
        have e2 := Int.emod_lt_of_pos v.a (show (0 : Int) < n by omega)
        exact stepsOk_one h ⟨e1, e2⟩ (by simp only; omega) hp
  exact this l [] hl rfl

theorem stepsB_ok {b : Bath} (l : List B2) (hl : ∀ v ∈ l, v.Ok) : stepsOk b.plates.length 0 (stepsB b l) = true := by
  unfold stepsB
  split
  · rfl
  · exact stepsF_ok (by omega) _ (fun v hv => hl v (List.mem_of_mem_take hv))

theorem stepsB_len (b : Bath) (l : List B2) : (stepsB b l).length ≤ 5 := by
  unfold stepsB
  split
  · simp
  · have := stepsF_len b.plates.length (l.take 5)
    have h2 := List.length_take_le 5 l
    omega

def doneB (s : List Step) : Blk := .cells [.d (.bool (decide ((0 : Int) ∈ platesOf s))), .d (.bool (decide ((1 : Int) ∈ platesOf s))), .d (.bool (decide ((2 : Int) ∈ platesOf s))), .d (.bool (decide ((3 : Int) ∈ platesOf s))), .d (.bool (decide ((4 : Int) ∈ platesOf s)))]

theorem c59 (b : Bath) (l : List B2) (hb : b.plates.length ≤ 5) (hl : ∀ v ∈ l, v.Ok) : PC prog 59 [.d b.d, .d (.sl (l.map B2.d))] (.d (.sl ((stepsB b l).map Step.d))) := by
  refine PC.run (fun k => k == 9) tt_ok (fn := f59) (rs := [.tmp 4]) rfl rfl rfl rfl rfl rfl rfl ?_
  simp only [go_sem, Nat.reduceBEq, Nat.reduceEqDiff, Nat.reduceLT, Nat.reduceLeDiff, Nat.reduceAdd, Nat.reduceSub, Nat.reduceMul, reduceCtorEq, Int.reduceToNat, Int.reduceEq, Int.reduceLT, Int.reduceLE, Int.reduceNe, Int.reduceNeg, Bath.d]
  refine ALoop.by (S := Nat) (fun i => [(7, .d (.int .i64 i)), (6, .ptr 2 0), (5, .ref 1 (stepsF b.plates.length (l.take i)).length 0 (stepsF b.plates.length (l.take i)).length), (2, .ptr 0 0), (1, .d (.sl (l.map B2.d)))])
    (fun i => [bthB b, .arr 2 false ((stepsF b.plates.length (l.take i)).map Step.d), doneB (stepsF b.plates.length (l.take i))]) (fun i => 5 - i) (fun i => i ≤ l.length ∧ i ≤ 5 ∧ (b.plates.length = 0 → i = 0)) 0 (Nat.zero_le _) (fun _ h => nomatch h) ⟨Nat.zero_le _, by omega, fun _ => rfl⟩ ?_ ?_
  · exact ForgetTo.same' (Nat.zero_le _) (by simp [EWe, Env.look, stepsF]) (by simp [bthB, doneB, stepsF, platesOf])
  rintro i ⟨hi, hi5, hi0⟩ hn
  have hsl := stepsF_len b.plates.length (l.take i)
  have hlen : (l.take i).length = i := by simp; omega
  rw [hlen] at hsl
  have FIN : stepsB b l = stepsF b.plates.length (l.take i) → ((stepsF b.plates.length (l.take i)).map Step.d).take (stepsF b.plates.length (l.take i)).length = (stepsB b l).map Step.d := fun h => by
    rw [h]; exact List.take_of_length_le (by simp)
  refine AWP.run (fun k => k == 9) tt_ok (fun _ h => nomatch h) (Nat.zero_le _) rfl ?_
  simp only [go_sem, Nat.reduceBEq, Nat.reduceEqDiff, Nat.reduceLT, Nat.reduceLeDiff, Nat.reduceAdd, Nat.reduceSub, Nat.reduceMul, reduceCtorEq, Int.reduceToNat, Int.reduceEq, Int.reduceLT, Int.reduceLE, Int.reduceNe, Int.reduceNeg, bthB, doneB]
  refine Br_split (fun hd => ?_) (fun hd => ?_) <;> simp only [go_sem, Nat.reduceBEq, Nat.reduceEqDiff, Nat.reduceLT, Nat.reduceLeDiff, Nat.reduceAdd, Nat.reduceSub, Nat.reduceMul, reduceCtorEq, Int.reduceToNat, Int.reduceEq, Int.reduceLT, Int.reduceLE, Int.reduceNe, Int.reduceNeg, hd]
  · have hlt : i < l.length := by simpa using hd
    refine Br_split (fun hd2 => ?_) (fun hd2 => ?_) <;> simp only [go_sem, Nat.reduceBEq, Nat.reduceEqDiff, Nat.reduceLT, Nat.reduceLeDiff, Nat.reduceAdd, Nat.reduceSub, Nat.reduceMul, reduceCtorEq, Int.reduceToNat, Int.reduceEq, Int.reduceLT, Int.reduceLE, Int.reduceNe, Int.reduceNeg, hd, hd2]
    · have hlt2 : i < 5 := by simp only [decide_eq_true_eq] at hd2; omega
      refine Br_split (fun hd3 => ?_) (fun hd3 => ?_) <;> simp only [go_sem, Nat.reduceBEq, Nat.reduceEqDiff, Nat.reduceLT, Nat.reduceLeDiff, Nat.reduceAdd, Nat.reduceSub, Nat.reduceMul, reduceCtorEq, Int.reduceToNat, Int.reduceEq, Int.reduceLT, Int.reduceLE, Int.reduceNe, Int.reduceNeg, hd, hd2, hd3]
      · have hn0 : 0 < b.plates.length := by simp only [decide_eq_true_eq] at hd3; omega
        have hv := hl _ (List.getElem_mem hlt)
        have hix : idx? (l.map B2.d) (i : Int) = some (l[i]).d := by simp [idx?, List.getElem?_eq_getElem hlt]
        have hst : stepsF b.plates.length (l.take (i + 1)) = stepV2 b.plates.length (stepsF b.plates.length (l.take i)) l[i] := by
          rw [stepsF, List.take_succ_eq_append_getElem hlt, List.foldl_append]; rfl
        generalize l[i] = v at hv hix hst
        have b1 := hv.a
        have b2 := hv.b
        have f1 := byte_conv b1
        have f2 := byte_conv b2
        simp only [Byte] at b1 b2
        have zn : (b.plates.length : Int) ≠ 0 := by omega
        have z24 : (24 : Int) ≠ 0 := by omega
        have n1 : v.a.tmod b.plates.length = v.a % b.plates.length := Int.tmod_eq_emod_of_nonneg b1.1
        have n2 : v.b.tmod 24 = v.b % 24 := Int.tmod_eq_emod_of_nonneg b2.1
        have e1 := Int.emod_nonneg v.a zn
        have e2 := Int.emod_lt_of_pos v.a (show (0 : Int) < b.plates.length by omega)
        have w1 : IntKind.i64.wrap (1 + v.b % 24) = 1 + v.b % 24 := w64 (by omega) (by omega)
        have hi1 : (stepsF b.plates.length (l.take i)).length + 1 ≤ 4294967296 := by omega
        have hnx : IntKind.i64.wrap ((i : Int) + 1) = ((i + 1 : Nat) : Int) := w64 (by omega) (by omega)
        unfold stepV2 at hst
        have hp : v.a % b.plates.length = 0 ∨ v.a % b.plates.length = 1 ∨ v.a % b.plates.length = 2 ∨ v.a % b.plates.length = 3 ∨ v.a % b.plates.length = 4 := by omega
        refine ADrw.treeG (fun k => k == 9) tt_ok (by kernel_rfl) (fun k => if k = 7 then some .L else some .S) (.ones [0, 1, 2, 3, 4, 5, 6, 7, 8, 9, 10] .done) (Nat.zero_le _) (fun _ h => nomatch h) rfl rfl (by kernel_rfl) ?_
        simp only [go_sem, Nat.reduceBEq, Nat.reduceEqDiff, Nat.reduceLT, Nat.reduceLeDiff, Nat.reduceAdd, Nat.reduceSub, Nat.reduceMul, reduceCtorEq, Int.reduceToNat, Int.reduceEq, Int.reduceLT, Int.reduceLE, Int.reduceNe, Int.reduceNeg, hix, B2.d, f1, n1, remO_ne zn]
        generalize stepsF b.plates.length (l.take i) = st at hst hsl hi1 FIN
        rcases hp with hp | hp | hp | hp | hp
        all_goals
          rw [hp] at hst
          simp only [go_sem, Nat.reduceBEq, Nat.reduceEqDiff, Nat.reduceLT, Nat.reduceLeDiff, Nat.reduceAdd, Nat.reduceSub, Nat.reduceMul, reduceCtorEq, Int.reduceToNat, Int.reduceEq, Int.reduceLT, Int.reduceLE, Int.reduceNe, Int.reduceNeg, hp]
          refine Br_split (fun h1 => ?_) (fun h1 => ?_) <;> simp only [go_sem, Nat.reduceBEq, Nat.reduceEqDiff, Nat.reduceLT, Nat.reduceLeDiff, Nat.reduceAdd, Nat.reduceSub, Nat.reduceMul, reduceCtorEq, Int.reduceToNat, Int.reduceEq, Int.reduceLT, Int.reduceLE, Int.reduceNe, Int.reduceNeg, h1]
        all_goals
          simp only [Bool.not_eq_true', Bool.not_eq_false', decide_eq_true_eq, decide_eq_false_iff_not] at h1
        all_goals
          first
          | (rw [if_pos h1] at hst
             refine ⟨i + 1, ⟨hlt, hlt2, fun h => absurd h (by omega)⟩, by omega, ?_⟩
             exact ForgetTo.same' (Nat.zero_le _) (by simp [EWe, Env.look, hst, hnx]) (by simp [bthB, doneB, hst])
             done)
          | (rw [if_neg h1] at hst
             simp only [go_sem, Nat.reduceBEq, Nat.reduceEqDiff, Nat.reduceLT, Nat.reduceLeDiff, Nat.reduceAdd, Nat.reduceSub, Nat.reduceMul, reduceCtorEq, Int.reduceToNat, Int.reduceEq, Int.reduceLT, Int.reduceLE, Int.reduceNe, Int.reduceNeg, hix, B2.d, f2, n2, remO_ne z24, w1]
             refine (c24 _ (1 + v.b % 24)).call rfl rfl rfl ?_
             simp only [go_sem, Nat.reduceBEq, Nat.reduceEqDiff, Nat.reduceLT, Nat.reduceLeDiff, Nat.reduceAdd, Nat.reduceSub, Nat.reduceMul, reduceCtorEq, Int.reduceToNat, Int.reduceEq, Int.reduceLT, Int.reduceLE, Int.reduceNe, Int.reduceNeg, hi1, List.length_map, Step.d]
             refine ⟨i + 1, ⟨hlt, hlt2, fun h => absurd h (by omega)⟩, by omega, ?_⟩
             exact ForgetTo.same' (Nat.zero_le _) (by simp [EWe, Env.look, hst, hnx]) (by simp [bthB, doneB, hst, platesOf, Step.d])
             done)
      · have hn0 : b.plates.length = 0 := by simp only [decide_eq_false_iff_not] at hd3; omega
        have hi00 := hi0 hn0
        have hf := FIN (by rw [stepsB, if_pos hn0, hi00]; rfl)
        simp only [go_sem, Nat.reduceBEq, Nat.reduceEqDiff, Nat.reduceLT, Nat.reduceLeDiff, Nat.reduceAdd, Nat.reduceSub, Nat.reduceMul, reduceCtorEq, Int.reduceToNat, Int.reduceEq, Int.reduceLT, Int.reduceLE, Int.reduceNe, Int.reduceNeg, hf, List.length_map]
    · have hie : i = 5 := by simp only [decide_eq_false_iff_not] at hd2; omega
      have hn0 : b.plates.length ≠ 0 := fun h => by have := hi0 h; omega
      have hf := FIN (by rw [stepsB, if_neg hn0, hie])
      simp only [go_sem, Nat.reduceBEq, Nat.reduceEqDiff, Nat.reduceLT, Nat.reduceLeDiff, Nat.reduceAdd, Nat.reduceSub, Nat.reduceMul, reduceCtorEq, Int.reduceToNat, Int.reduceEq, Int.reduceLT, Int.reduceLE, Int.reduceNe, Int.reduceNeg, hf, List.length_map]
  · have hie : i = l.length := by simp at hd; omega
    have hf := FIN (by
      rw [stepsB]
      split
      · rename_i h0; rw [hi0 h0]; rfl
      · rw [hie, List.take_length, List.take_of_length_le (by omega)])
    simp only [go_sem, Nat.reduceBEq, Nat.reduceEqDiff, Nat.reduceLT, Nat.reduceLeDiff, Nat.reduceAdd, Nat.reduceSub, Nat.reduceMul, reduceCtorEq, Int.reduceToNat, Int.reduceEq, Int.reduceLT, Int.reduceLE, Int.reduceNe, Int.reduceNeg, hf, List.length_map]
end Go.Aw
end

section
set_option maxRecDepth 100000
namespace Go.Aw
open Go Go.Proofs

theorem has_b2 {f : Nat} {y : D} (h : HasT Try.prog (f + 3) 119 y) : ∃ s : B2, y = s.d ∧ s.Ok := by
  unfold HasT at h
  rw [Try.underlying119] at h
  obtain ⟨l, rfl, h⟩ := h
  simp only [HasN] at h
  obtain ⟨y1, r1, rfl, h1, y2, r2, rfl, h2, rfl⟩ := h
  obtain ⟨n1, rfl, b1⟩ := has_u8 h1
  obtain ⟨n2, rfl, b2⟩ := has_u8 h2
  exact ⟨⟨n1, n2⟩, rfl, ⟨b1, b2⟩⟩

theorem has_b2s {f : Nat} {y : D} (h : HasT Try.prog (f + 4) 101 y) : ∃ l : List B2, y = .sl (l.map B2.d) ∧ ∀ p ∈ l, p.Ok := by
  unfold HasT at h
  rw [Try.underlying101] at h
  obtain ⟨l, rfl, _, hl⟩ := h
  obtain ⟨ss, rfl⟩ := has_list (enc := fun n : {n : B2 // n.Ok} => n.1.d) (fun y hy => by obtain ⟨n, rfl, hn⟩ := has_b2 hy; exact ⟨⟨n, hn⟩, rfl⟩) l hl
  refine ⟨ss.map Subtype.val, by simp, fun n hn => ?_⟩
  obtain ⟨x, _, rfl⟩ := List.mem_map.1 hn
  exact x.2

theorem has_b4s {f : Nat} {y : D} (h : HasT Try.prog (f + 4) 98 y) : ∃ l : List B4, y = .sl (l.map B4.d) ∧ ∀ p ∈ l, p.Ok := by
  unfold HasT at h
  rw [Try.underlying98] at h
  obtain ⟨l, rfl, _, hl⟩ := h
  obtain ⟨ss, rfl⟩ := has_list (enc := fun n : {n : B4 // n.Ok} => n.1.d) (fun y hy => by obtain ⟨n, rfl, hn⟩ := has_b4 hy; exact ⟨⟨n, hn⟩, rfl⟩) l hl
  refine ⟨ss.map Subtype.val, by simp, fun n hn => ?_⟩
  obtain ⟨x, _, rfl⟩ := List.mem_map.1 hn
  exact x.2

theorem has_vat {f : Nat} {y : D} (h : HasT Try.prog (f + 5) 100 y) : ∃ x : Vat, y = x.d ∧ x.Ok := by
  unfold HasT at h
  rw [Try.underlying100] at h
  obtain ⟨l, rfl, h⟩ := h
  simp only [HasFs] at h
  obtain ⟨y1, r1, rfl, h1, y2, r2, rfl, h2, rfl⟩ := h
  obtain ⟨s, rfl, hs⟩ := has_b3 h1
  obtain ⟨p, rfl, hp⟩ := has_b4s h2
  exact ⟨⟨s, p⟩, rfl, ⟨hs, hp⟩⟩
end Go.Aw
end

section
set_option maxRecDepth 100000
namespace Go.Aw
open Go Go.Proofs.Try

def acidB (v : B4) : Acid := ⟨⟨v.a % 36, v.a % 36 + v.b % 5⟩, 1 + v.c % 200⟩
def trueB (v : B4) : Int := (v.a % 36 + v.e % (v.b % 5 + 1)) * (1 + v.c % 200)

theorem acidB_ok {v : B4} (h : v.Ok) : (acidB v).Ok := by
  obtain ⟨h1, h2, h3, h4⟩ := h
  simp only [Byte] at h1 h2 h3 h4
  simp only [Acid.Ok, acidB]
  omega

theorem fit_iff {m : Mixed} {want : Sp} {n : Int} (h : 1 ≤ m.oz + n) : fitR m want n = true ↔ want.lo * (m.oz + n) ≤ m.lo ∧ m.hi ≤ want.hi * (m.oz + n) := by
  simp only [fitR, Mixed.with, Bool.and_eq_true, decide_eq_true_eq, ge_iff_le]
  rw [Int.le_ediv_iff_mul_le (by omega)]
  have h2 := Int.ediv_lt_iff_lt_mul (a := m.hi + (m.oz + n) - 1) (b := want.hi + 1) (c := m.oz + n) (by omega)
  rw [Int.add_mul] at h2
  constructor
  · rintro ⟨a, b⟩
    refine ⟨a, ?_⟩
    have := h2.1 (Int.lt_add_one_iff.2 (of_decide_eq_true b))
    rw [Int.one_mul] at this
    omega
  · rintro ⟨a, b⟩
    refine ⟨a, ?_⟩
    exact decide_eq_true (Int.lt_add_one_iff.1 (h2.2 (by rw [Int.one_mul]; omega)))

theorem fit_conv {m : Mixed} {want : Sp} (hw : 0 ≤ want.lo ∧ 0 ≤ want.hi) (ho : 1 ≤ m.oz) {x y z : Int} (hx : 0 ≤ x) (hxy : x ≤ y) (hyz : y ≤ z) (h1 : fitR m want x = true) (h2 : fitR m want z = true) : fitR m want y = true := by
  rw [fit_iff (by omega)] at h1 h2 ⊢
  have a1 := Int.mul_le_mul_of_nonneg_left (a := m.oz + y) (b := m.oz + z) (c := want.lo) (by omega) hw.1
  have a2 := Int.mul_le_mul_of_nonneg_left (a := m.oz + x) (b := m.oz + y) (c := want.hi) (by omega) hw.2
  omega

theorem water_fits {m : Mixed} {want : Sp} (hw : 0 ≤ want.lo ∧ 0 ≤ want.hi) (ho : 1 ≤ m.oz) : ∀ k : Nat, k ≤ 501 → ∀ n : Int, 0 ≤ n → n < k → (fitR m want n = true ↔ (waterUp m want k).2 = 0 ∧ (waterUp m want k).1.lo ≤ n ∧ n ≤ (waterUp m want k).1.hi)
  | 0, _, n, h1, h2 => by omega
  | k + 1, hk, n, h1, h2 => by
    have ih := water_fits hw ho k (by omega)
    have e1 : waterUp m want (k + 1) = waterStep m want (waterUp m want k) k := by rw [waterUp, List.range_succ, List.foldl_append]; rfl
    have e2 : (waterUp m want k).2 = 0 → 0 ≤ (waterUp m want k).1.lo ∧ (waterUp m want k).1.lo ≤ (waterUp m want k).1.hi ∧ (waterUp m want k).1.hi < k := fun h => by
      rcases water_eq m want k (by omega) with ⟨e1, _⟩ | ⟨a, b, e1, _, e3, e4, e5⟩
      · rw [e1] at h; exact absurd h (by simp)
      · rw [e1]; exact ⟨e3, e4, e5⟩
    rw [e1]
    generalize waterUp m want k = s at ih e2
    simp only [waterStep, fit_eq]
    by_cases hf : fitR m want k = true
    · rw [if_pos hf]
      by_cases hs : s.2 = 0
      · rw [if_pos hs]
        obtain ⟨g1, g2, g3⟩ := e2 hs
        simp only [true_and]
        by_cases hn : n = k
        · subst hn
          simp only [hf, true_iff]
          omega
        · have := ih n h1 (by omega)
          constructor
          · intro h
            have := this.1 h
            omega
          · rintro ⟨q1, q2⟩
            by_cases hq : n ≤ s.1.hi
            · exact this.2 ⟨hs, q1, hq⟩
            · exact fit_conv hw ho g1 q1 (by omega) ((ih s.1.lo g1 (by omega)).2 ⟨hs, Int.le_refl _, g2⟩) hf
      · rw [if_neg hs]
        simp only [true_and]
        by_cases hn : n = k
        · subst hn
          simp only [hf, true_iff]
          omega
        · have := ih n h1 (by omega)
          constructor
          · intro h
            exact absurd (this.1 h).1 hs
          · omega
    · rw [if_neg hf]
      by_cases hn : n = k
      · subst hn
        constructor
        · intro h; exact absurd h hf
        · rintro ⟨q1, q2, q3⟩
          have := e2 q1
          omega
      · exact ih n h1 (by omega)

theorem mixAll_water : ∀ (ws : List Acid) (m : Mixed), (∀ a ∈ ws, a.str = ⟨0, 0⟩) → ws.foldl Mixed.add m = ⟨m.lo, m.hi, m.oz + (ws.map Acid.oz).sum⟩
  | [], m, _ => by simp
  | a :: r, m, h => by
    have h1 := h a List.mem_cons_self
    rw [List.foldl_cons, mixAll_water r _ (fun x hx => h x (List.mem_cons_of_mem _ hx))]
    simp [Mixed.add, h1]
    omega

/-- The true strength, and the ends. -/
theorem mix_true : ∀ (l : List B4) (m : Mixed) (s : Int), (∀ v ∈ l, v.Ok) → m.lo ≤ s ∧ s ≤ m.hi → ((l.map acidB).foldl Mixed.add m).lo ≤ s + (l.map trueB).sum ∧ s + (l.map trueB).sum ≤ ((l.map acidB).foldl Mixed.add m).hi
  | [], m, s, _, h => by simpa using h
  | v :: r, m, s, hl, h => by
    have hv := hl v List.mem_cons_self
    have h1 := mix_true r (m.add (acidB v)) (s + trueB v) (fun x hx => hl x (List.mem_cons_of_mem _ hx)) (by
      obtain ⟨h1, h2, h3, h4⟩ := hv
      simp only [Byte] at h1 h2 h3 h4
      simp only [Mixed.add, acidB, trueB]
      have e : 0 ≤ v.e % (v.b % 5 + 1) ∧ v.e % (v.b % 5 + 1) < v.b % 5 + 1 := ⟨Int.emod_nonneg _ (by omega), Int.emod_lt_of_pos _ (by omega)⟩
      have p1 := Int.mul_le_mul_of_nonneg_right (a := v.a % 36) (b := v.a % 36 + v.e % (v.b % 5 + 1)) (c := 1 + v.c % 200) (by omega) (by omega)
      have p2 := Int.mul_le_mul_of_nonneg_right (a := v.a % 36 + v.e % (v.b % 5 + 1)) (b := v.a % 36 + v.b % 5) (c := 1 + v.c % 200) (by omega) (by omega)
      omega)
    simp only [List.map_cons, List.foldl_cons, List.sum_cons]
    omega

def hM (v : B2) (acids : List Acid) : Heap := [.cells [.d (.int .u8 v.a), .d (.int .u8 v.b)], .arr 3 false (acids.map Acid.d), .cells [.ref 1 acids.length 0 acids.length]]

theorem c68 (v : B2) {acids : List Acid} (h0 : acidsP acids = 0) (h2 : acids.length ≤ 2) (mx want wat : Sp) (n : Int) (hn : 0 ≤ n ∧ n ≤ 500) {Q : V → Heap → Prop}
    (hq : Q (.d (.bool (fitR (mixAll acids) want n))) (hM v acids ++ [.cells [.d (.int .i64 mx.lo), .d (.int .i64 mx.hi)], .cells [.d (.int .i64 want.lo), .d (.int .i64 want.hi)], .cells [.d (.int .i64 wat.lo), .d (.int .i64 wat.hi)]])) :
    ACalls prog 68 [.d (.int .i64 n), .ptr 2 0, .ptr 4 0] (hM v acids ++ [.cells [.d (.int .i64 mx.lo), .d (.int .i64 mx.hi)], .cells [.d (.int .i64 want.lo), .d (.int .i64 want.hi)], .cells [.d (.int .i64 wat.lo), .d (.int .i64 wat.hi)]]) Q := by
  obtain ⟨k1, k2, k3⟩ := acids_ok h0
  have hsz := sized_acids acids
  have hle2 : acids.length ≤ 4294967296 := by omega
  have htk : (acids.map Acid.d).take acids.length = acids.map Acid.d := List.take_of_length_le (by simp)
  refine ACalls.run (fun k => k == 9) tt_ok (fn := f68) (rs := [.tmp 4]) rfl rfl rfl rfl rfl rfl rfl ?_
  simp only [go_sem, Nat.reduceBEq, Nat.reduceEqDiff, Nat.reduceLT, Nat.reduceLeDiff, Nat.reduceAdd, Nat.reduceSub, Nat.reduceMul, reduceCtorEq, Int.reduceToNat, Int.reduceEq, Int.reduceLT, Int.reduceLE, Int.reduceNe, Int.reduceNeg, hM, hsz, hle2, htk, List.nil_append, Nat.zero_add]
  refine ALoop.by (S := List Acid × Int) (fun s => [(6, .d (.int .i64 s.2)), (5, .ref 6 (acids.length + s.1.length) 0 (acids.length + s.1.length)), (2, .ptr 4 0)])
    (fun s => hM v acids ++ [.cells [.d (.int .i64 mx.lo), .d (.int .i64 mx.hi)], .cells [.d (.int .i64 want.lo), .d (.int .i64 want.hi)], .cells [.d (.int .i64 wat.lo), .d (.int .i64 wat.hi)], .arr 3 false ((acids ++ s.1).map Acid.d)])
    (fun s => 3 - s.1.length) (fun s => s.1.length ≤ 3 ∧ (∀ a ∈ s.1, a.str = ⟨0, 0⟩ ∧ a.Ok) ∧ (s.1.map Acid.oz).sum = n - max s.2 0 ∧ s.2 = n - 200 * s.1.length) ([], n) (by simp [hM]) (fun _ h => nomatch h) (by simp; omega) ?_ ?_
  · exact ForgetTo.same' (by simp) (by simp [EWe, Env.look]) (by simp [hM])
  rintro ⟨ws, left⟩ ⟨g1, g2, g3, g4⟩ hn2
  simp only at g1 g2 g3 g4
  refine AWP.run (fun _ => false) tt_ok (fun _ h => nomatch h) (by simp [hM]) rfl ?_
  simp only [go_sem, Nat.reduceBEq, Nat.reduceEqDiff, Nat.reduceLT, Nat.reduceLeDiff, Nat.reduceAdd, Nat.reduceSub, Nat.reduceMul, reduceCtorEq, Int.reduceToNat, Int.reduceEq, Int.reduceLT, Int.reduceLE, Int.reduceNe, Int.reduceNeg, hM]
  have fin : (left ≤ 0 ∨ acids.length + ws.length ≥ 5) → left ≤ 0 := fun h => by
    have : acids.length + ws.length ≥ 5 → left ≤ 0 := fun h => by omega
    omega
  refine Br_split (fun hd => ?_) (fun hd => ?_) <;> simp only [go_sem, Nat.reduceBEq, Nat.reduceEqDiff, Nat.reduceLT, Nat.reduceLeDiff, Nat.reduceAdd, Nat.reduceSub, Nat.reduceMul, reduceCtorEq, Int.reduceToNat, Int.reduceEq, Int.reduceLT, Int.reduceLE, Int.reduceNe, Int.reduceNeg, hd]
  · have hd' : 0 < left := by simpa using hd
    have hw2 : ws.length < 3 := by omega
    have hnx : IntKind.i64.wrap (left - 200) = left - 200 := w64 (by omega) (by omega)
    have hlt : decide (((acids.length + ws.length : Nat) : Int) < 5) = true := by simp; omega
    have hle3 : acids.length + ws.length + 1 ≤ 4294967296 := by omega
    have hln : (acids ++ ws).length = acids.length + ws.length := by simp
    simp only [go_sem, Nat.reduceBEq, Nat.reduceEqDiff, Nat.reduceLT, Nat.reduceLeDiff, Nat.reduceAdd, Nat.reduceSub, Nat.reduceMul, reduceCtorEq, Int.reduceToNat, Int.reduceEq, Int.reduceLT, Int.reduceLE, Int.reduceNe, Int.reduceNeg, hd, hlt, hle3, hln, List.length_map, hnx]
    refine ⟨(ws ++ [⟨⟨0, 0⟩, min left 200⟩], left - 200), ⟨by simp; omega, ?_, ?_, ?_⟩, by simp; omega, ?_⟩
    · intro a ha
      rcases List.mem_append.1 ha with ha | ha
      · exact g2 a ha
      · rw [List.mem_singleton.1 ha]
        exact ⟨rfl, by simp only [Acid.Ok]; omega⟩
    · rw [List.map_append, List.sum_append, g3]
      simp
      omega
    · simp
      omega
    · refine ForgetTo.same' (by simp) ?_ ?_
      · simp [EWe, Env.look, Nat.add_assoc]
      · simp [Acid.d]
  have hd' : left ≤ 0 := by simpa using hd
  simp only [hM] at hq
  have hsum : (ws.map Acid.oz).sum = n := by omega
  have hok : ∀ a ∈ acids ++ ws, a.Ok := fun a ha => by
    rcases List.mem_append.1 ha with ha | ha
    · exact k3 a ha
    · exact (g2 a ha).2
  have ha0 : acidsP (acids ++ ws) = 0 := by
    have h1 : ¬ (acids ++ ws).length > 5 := by simp; omega
    have h2' : ¬ (acids ++ ws).length = 0 := by rw [List.length_append]; omega
    have h3 : (acids ++ ws).any badAcid = false := List.any_eq_false.2 fun a ha => by simpa using (badAcid_iff a).2 (hok a ha)
    simp only [acidsP, if_neg h1, if_neg h2', h3, Bool.false_eq_true, if_false]
  have hmx : mixV (acids ++ ws) = (mixAll acids).with n := by
    rw [mixV, if_pos ha0, mixAll, List.foldl_append, mixAll_water ws _ (fun a ha => (g2 a ha).1), hsum]
    simp [Mixed.with, mixAll]
  have htk2 : ((acids ++ ws).map Acid.d).take (acids.length + ws.length) = (acids ++ ws).map Acid.d := List.take_of_length_le (by simp)
  have htk3 := htk2
  rw [List.map_append] at htk3
  refine (c43 (acids ++ ws) (by simp; omega)).callL rfl (by simp [pubVs, pubV, dz, htk3]) rfl ?_
  rw [hmx, ha0]
  have hf : fitR (mixAll acids) want n = (decide (((mixAll acids).with n).lo ≥ want.lo) && decide (((mixAll acids).with n).hi ≤ want.hi)) := rfl
  rw [hf] at hq
  generalize (mixAll acids).with n = s at hq
  simp only [go_sem, Nat.reduceBEq, Nat.reduceEqDiff, Nat.reduceLT, Nat.reduceLeDiff, Nat.reduceAdd, Nat.reduceSub, Nat.reduceMul, reduceCtorEq, Int.reduceToNat, Int.reduceEq, Int.reduceLT, Int.reduceLE, Int.reduceNe, Int.reduceNeg, Sp.d]
  refine Br_split (fun h1 => ?_) (fun h1 => ?_) <;> simp only [go_sem, Nat.reduceBEq, Nat.reduceEqDiff, Nat.reduceLT, Nat.reduceLeDiff, Nat.reduceAdd, Nat.reduceSub, Nat.reduceMul, reduceCtorEq, Int.reduceToNat, Int.reduceEq, Int.reduceLT, Int.reduceLE, Int.reduceNe, Int.reduceNeg, h1]
  · rw [show decide (s.lo ≥ want.lo) = true from h1, Bool.true_and] at hq
    exact hq
  · rw [show decide (s.lo ≥ want.lo) = false from h1, Bool.false_and] at hq
    exact hq
end Go.Aw
end

section
set_option maxRecDepth 100000
namespace Go.Aw
open Go Go.Proofs.Try

theorem c14 (l : List B4) (hl : ∀ v ∈ l, v.Ok) (v : B2) (hv : v.Ok) : PC prog 14 [.d (.sl (l.map B4.d)), .d v.d] (.d (.bool true)) := by
  have hd0 : ∀ {α : Type} [DecidableEq α] (l : α), decide (l = l) = true := fun l => by simp
  have ob : ∀ k, k ≤ 5 → 0 ≤ (mixAll ((l.take k).map acidB)).lo ∧ (mixAll ((l.take k).map acidB)).lo ≤ ((l.take k).map trueB).sum ∧ ((l.take k).map trueB).sum ≤ (mixAll ((l.take k).map acidB)).hi ∧ (mixAll ((l.take k).map acidB)).hi ≤ 40000 ∧ 0 ≤ (mixAll ((l.take k).map acidB)).oz ∧ (mixAll ((l.take k).map acidB)).oz ≤ 1000 := fun k hk => by
    have h1 := mix_true (l.take k) ⟨0, 0, 0⟩ 0 (fun v h => hl v (List.mem_of_mem_take h)) (by simp)
    have h2 := mix_bnd ((l.take k).map acidB) ⟨0, 0, 0⟩ (fun a ha => by
      obtain ⟨w, hw, rfl⟩ := List.mem_map.1 ha
      exact acidB_ok (hl w (List.mem_of_mem_take hw))) (by simp) (by simp) (by simp) (by simp)
    have h3 : ((l.take k).map acidB).length ≤ 5 := by simp; omega
    simp only [mixAll]
    simp only at h1 h2
    omega
  refine PC.of_body tt_ok (fn := f14) (c := bodyOf f14) (rs := [.tmp 4]) rfl rfl rfl rfl rfl rfl ?_
  refine AWP.stepN 3 [(7, .d (.int .i64 (mixAll ((l.take 5).map acidB)).oz)), (6, .d (.int .i64 ((l.take 5).map trueB).sum)), (5, .ptr 2 0), (3, .ptr 0 0)] (hM v ((l.take 5).map acidB)) (fun k => k == 19) tt_ok (fun _ h => nomatch h) (Nat.zero_le _) rfl ?_ ?_
  · simp only [go_sem, Nat.reduceBEq, Nat.reduceEqDiff, Nat.reduceLT, Nat.reduceLeDiff, Nat.reduceAdd, Nat.reduceSub, Nat.reduceMul, reduceCtorEq, Int.reduceToNat, Int.reduceEq, Int.reduceLT, Int.reduceLE, Int.reduceNe, Int.reduceNeg, B2.d]
    refine ALoop.by (S := Nat) (fun i => [(8, .d (.int .i64 i)), (7, .d (.int .i64 (mixAll ((l.take i).map acidB)).oz)), (6, .d (.int .i64 ((l.take i).map trueB).sum)), (5, .ptr 2 0), (3, .ptr 0 0), (0, .d (.sl (l.map B4.d)))])
      (fun i => hM v ((l.take i).map acidB)) (fun i => l.length - i) (fun i => i ≤ l.length ∧ i ≤ 5) 0 (Nat.zero_le _) (fun _ h => nomatch h) (by simp) ?_ ?_
    · exact ForgetTo.same' (Nat.zero_le _) (by simp [EWe, Env.look, mixAll]) (by simp [hM])
    rintro i ⟨hi, hi5⟩ hn
    refine AWP.run (fun k => k == 19) tt_ok (fun _ h => nomatch h) (Nat.zero_le _) rfl ?_
    have obi := ob i hi5
    have hAl : ((l.take i).map acidB).length = i := by simp; omega
    by_cases hc : i < l.length ∧ i < 5
    · obtain ⟨hlt, hl5⟩ := hc
      have hst1 : (l.take (i + 1)).map acidB = (l.take i).map acidB ++ [acidB l[i]] := by
        rw [List.take_succ_eq_append_getElem hlt, List.map_append]; rfl
      have hst2 : ((l.take (i + 1)).map trueB).sum = ((l.take i).map trueB).sum + trueB l[i] := by
        rw [List.take_succ_eq_append_getElem hlt, List.map_append, List.sum_append]; simp
      have hst3 : mixAll ((l.take (i + 1)).map acidB) = (mixAll ((l.take i).map acidB)).add (acidB l[i]) := by
        rw [hst1, mixAll, List.foldl_append]; rfl
      have ob1 := ob (i + 1) (by omega)
      have hix : idx? (l.map B4.d) (i : Int) = some (l[i]).d := by simp [idx?, List.getElem?_eq_getElem hlt]
      have hw := hl _ (List.getElem_mem hlt)
      have hok := acidB_ok hw
      rw [hst2, hst3] at ob1
      have hst4 : (mixAll ((l.take (i + 1)).map acidB)).oz = (mixAll ((l.take i).map acidB)).oz + (acidB l[i]).oz := by rw [hst3]; rfl
      clear hst3
      generalize (l.take i).map acidB = A at *
      generalize ((l.take i).map trueB).sum = S at *
      generalize l[i] = w at *
      have d1 : decide ((i : Int) < l.length) = true := by simp; omega
      have d2 : decide ((i : Int) < 5) = true := by simp; omega
      obtain ⟨w1, w2, w3, w4⟩ := id hw
      have e1 := byte_conv w1
      have e2 := byte_conv w2
      have e3 := byte_conv w3
      have e4 := byte_conv w4
      simp only [Byte] at w1 w2 w3 w4
      have t1 : w.a.tmod 36 = w.a % 36 := Int.tmod_eq_emod_of_nonneg w1.1
      have t2 : w.b.tmod 5 = w.b % 5 := Int.tmod_eq_emod_of_nonneg w2.1
      have t3 : w.c.tmod 200 = w.c % 200 := Int.tmod_eq_emod_of_nonneg w3.1
      have t4 : w.e.tmod (w.b % 5 + 1) = w.e % (w.b % 5 + 1) := Int.tmod_eq_emod_of_nonneg w4.1
      have x1 : IntKind.i64.wrap (w.a % 36 + w.b % 5) = w.a % 36 + w.b % 5 := w64 (by omega) (by omega)
      have x2 : IntKind.i64.wrap (1 + w.c % 200) = 1 + w.c % 200 := w64 (by omega) (by omega)
      simp only [go_sem, Nat.reduceBEq, Nat.reduceEqDiff, Nat.reduceLT, Nat.reduceLeDiff, Nat.reduceAdd, Nat.reduceSub, Nat.reduceMul, reduceCtorEq, Int.reduceToNat, Int.reduceEq, Int.reduceLT, Int.reduceLE, Int.reduceNe, Int.reduceNeg, hM, d1, d2, hix, B4.d, e1, t1]
      refine ADrw.treeG (fun k => k == 19) tt_ok (by kernel_rfl) (fun k => if k = 21 then some .W else if k = 20 then some .A else some .S) (.ones [0, 1, 2, 3, 4, 5, 6, 7, 8, 9, 10, 11, 12, 13, 14, 15, 16, 17, 18, 19, 20, 21] .done) (Nat.zero_le _) (fun _ h => nomatch h) rfl rfl (by kernel_rfl) ?_
      simp only [go_sem, Nat.reduceBEq, Nat.reduceEqDiff, Nat.reduceLT, Nat.reduceLeDiff, Nat.reduceAdd, Nat.reduceSub, Nat.reduceMul, reduceCtorEq, Int.reduceToNat, Int.reduceEq, Int.reduceLT, Int.reduceLE, Int.reduceNe, Int.reduceNeg, hix, B4.d, e2, t2, x1]
      refine (c26 (w.a % 36) (w.a % 36 + w.b % 5)).callS rfl rfl rfl rfl rfl rfl ?_
      simp only [go_sem, Nat.reduceBEq, Nat.reduceEqDiff, Nat.reduceLT, Nat.reduceLeDiff, Nat.reduceAdd, Nat.reduceSub, Nat.reduceMul, reduceCtorEq, Int.reduceToNat, Int.reduceEq, Int.reduceLT, Int.reduceLE, Int.reduceNe, Int.reduceNeg, hix, B4.d, Sp.d, e3, t3, x2]
      have y1 : IntKind.i64.wrap (w.a % 36 + w.b % 5 - w.a % 36) = w.b % 5 := by rw [w64 (by omega) (by omega)]; omega
      have y2 : IntKind.i64.wrap (w.b % 5 + 1) = w.b % 5 + 1 := w64 (by omega) (by omega)
      have y3 : w.b % 5 + 1 ≠ 0 := by omega
      have y4 : 0 ≤ w.e % (w.b % 5 + 1) ∧ w.e % (w.b % 5 + 1) < w.b % 5 + 1 := ⟨Int.emod_nonneg _ y3, Int.emod_lt_of_pos _ (by omega)⟩
      have y5 : IntKind.i64.wrap (w.a % 36 + w.e % (w.b % 5 + 1)) = w.a % 36 + w.e % (w.b % 5 + 1) := w64 (by omega) (by omega)
      have y6 : 0 ≤ trueB w := Int.mul_nonneg (by omega) (by omega)
      have y7 : IntKind.i64.wrap ((w.a % 36 + w.e % (w.b % 5 + 1)) * (1 + w.c % 200)) = trueB w := w64 (by simp only [trueB] at y6; omega) (by simp only [trueB] at ob1; omega)
      have y8 : IntKind.i64.wrap (S + trueB w) = S + trueB w := w64 (by omega) (by omega)
      have y9 : IntKind.i64.wrap ((mixAll A).oz + (1 + w.c % 200)) = (mixAll A).oz + (1 + w.c % 200) := w64 (by omega) (by omega)
      have y10 : IntKind.i64.wrap ((i : Int) + 1) = ((i + 1 : Nat) : Int) := w64 (by omega) (by omega)
      have y11 : i + 1 ≤ 4294967296 := by omega
      refine ADrw.treeG (fun k => k == 19) tt_ok (by kernel_rfl) (fun k => if k = 10 ∨ k = 17 then some .L else some .S) (.ones [0, 1, 2, 3, 4, 5, 6, 7, 8, 9, 10, 11, 12, 13, 14, 15, 16, 17, 18, 19, 20] .done) (Nat.zero_le _) (fun _ h => nomatch h) rfl rfl (by kernel_rfl) ?_
      simp only [go_sem, Nat.reduceBEq, Nat.reduceEqDiff, Nat.reduceLT, Nat.reduceLeDiff, Nat.reduceAdd, Nat.reduceSub, Nat.reduceMul, reduceCtorEq, Int.reduceToNat, Int.reduceEq, Int.reduceLT, Int.reduceLE, Int.reduceNe, Int.reduceNeg, hix, B4.d, e4, y1, y2, remO_ne y3, t4, y5, y7, y8]
      refine ADrw.treeG (fun k => k == 19) tt_ok (by kernel_rfl) (fun k => if k = 0 ∨ k = 1 ∨ k = 6 then some .L else if k = 3 ∨ k = 8 then some .W else some .S) (.ones [0, 1, 2, 4, 5] (.two 3 (.two 6 (.ones [7, 8, 9] .done) 8 (.ones [6, 7, 9] .done)) 6 (.ones [3, 7, 8, 9] .done))) (Nat.zero_le _) (fun _ h => nomatch h) rfl rfl (by kernel_rfl) ?_
      simp only [go_sem, Nat.reduceBEq, Nat.reduceEqDiff, Nat.reduceLT, Nat.reduceLeDiff, Nat.reduceAdd, Nat.reduceSub, Nat.reduceMul, reduceCtorEq, Int.reduceToNat, Int.reduceEq, Int.reduceLT, Int.reduceLE, Int.reduceNe, Int.reduceNeg, y9, y10, hAl, y11]
      have hln : (l.take (i + 1)).length = i + 1 := by simp; omega
      constructor
      all_goals
        refine ⟨i + 1, ⟨by omega, by omega⟩, by omega, ?_⟩
        refine ForgetTo.drop (H0 := [_, _, _]) (Y := [_]) (Nat.zero_le _) ?_ (by simp [BBs, BB, VBs, VB]) ?_
        · rw [hst1, hln, List.map_append]; rfl
        · simp [EWp, Env.look, pubV, -List.map_take, hst4, hst2, acidB]
    · have hAe : l.take i = l.take 5 := by
        by_cases h5 : i < 5
        · rw [List.take_of_length_le (by omega), List.take_of_length_le (by omega)]
        · rw [show i = 5 by omega]
      rw [hAe]
      rw [hAe] at hAl
      generalize (l.take 5).map acidB = A at *
      generalize ((l.take 5).map trueB).sum = S at *
      by_cases hlt : i < l.length
      · have d1 : decide ((i : Int) < l.length) = true := by simp; omega
        have d2 : decide ((i : Int) < 5) = false := by simp; omega
        simp only [go_sem, Nat.reduceBEq, Nat.reduceEqDiff, Nat.reduceLT, Nat.reduceLeDiff, Nat.reduceAdd, Nat.reduceSub, Nat.reduceMul, reduceCtorEq, Int.reduceToNat, Int.reduceEq, Int.reduceLT, Int.reduceLE, Int.reduceNe, Int.reduceNeg, hM, d1, d2]
        exact ForgetTo.same' (Nat.zero_le _) (by simp [EWe, Env.look]) (by simp [hM])
      · have d1 : decide ((i : Int) < l.length) = false := by simp; omega
        simp only [go_sem, Nat.reduceBEq, Nat.reduceEqDiff, Nat.reduceLT, Nat.reduceLeDiff, Nat.reduceAdd, Nat.reduceSub, Nat.reduceMul, reduceCtorEq, Int.reduceToNat, Int.reduceEq, Int.reduceLT, Int.reduceLE, Int.reduceNe, Int.reduceNeg, hM, d1]
        exact ForgetTo.same' (Nat.zero_le _) (by simp [EWe, Env.look]) (by simp [hM])
  have hA : ∀ a ∈ (l.take 5).map acidB, a.Ok := fun a ha => by
    obtain ⟨w, hw, rfl⟩ := List.mem_map.1 ha
    exact acidB_ok (hl w (List.mem_of_mem_take hw))
  have hAl : ((l.take 5).map acidB).length ≤ 5 := by simp; omega
  have ob5 := ob 5 (Nat.le_refl _)
  clear ob
  generalize (l.take 5).map acidB = A at *
  generalize ((l.take 5).map trueB).sum = S at *
  obtain ⟨v1, v2⟩ := id hv
  have e1 := byte_conv v1
  have e2 := byte_conv v2
  simp only [Byte] at v1 v2
  have t1 : v.a.tmod 30 = v.a % 30 := Int.tmod_eq_emod_of_nonneg v1.1
  have t2 : v.b.tmod 8 = v.b % 8 := Int.tmod_eq_emod_of_nonneg v2.1
  have x1 : IntKind.i64.wrap (v.a % 30 + v.b % 8) = v.a % 30 + v.b % 8 := w64 (by omega) (by omega)
  have htk : (A.map Acid.d).take A.length = A.map Acid.d := List.take_of_length_le (by simp)
  have hsz := sized_acids A
  have hle : A.length ≤ 4294967296 := by omega
  refine AWP.stepN 4 [(16, .d (.int .i64 (waterP A ⟨v.a % 30, v.a % 30 + v.b % 8⟩).2)), (15, .ptr 5 0), (14, .ptr 4 0), (12, .d (.int .i64 (acidsP A))), (11, .ptr 3 0), (7, .d (.int .i64 (mixAll A).oz)), (6, .d (.int .i64 S)), (5, .ptr 2 0), (3, .ptr 0 0)]
    (hM v A ++ [.cells [.d (.int .i64 (mixV A).lo), .d (.int .i64 (mixV A).hi)], .cells [.d (.int .i64 (v.a % 30)), .d (.int .i64 (v.a % 30 + v.b % 8))], .cells [.d (.int .i64 (waterP A ⟨v.a % 30, v.a % 30 + v.b % 8⟩).1.lo), .d (.int .i64 (waterP A ⟨v.a % 30, v.a % 30 + v.b % 8⟩).1.hi)]])
    (fun _ => false) tt_ok (fun _ h => nomatch h) (Nat.zero_le _) rfl ?_ ?_
  · simp only [go_sem, Nat.reduceBEq, Nat.reduceEqDiff, Nat.reduceLT, Nat.reduceLeDiff, Nat.reduceAdd, Nat.reduceSub, Nat.reduceMul, reduceCtorEq, Int.reduceToNat, Int.reduceEq, Int.reduceLT, Int.reduceLE, Int.reduceNe, Int.reduceNeg, hM, htk, hsz, hle, List.nil_append, Nat.zero_add]
    refine (c43 A (by omega)).call rfl rfl rfl ?_
    simp only [go_sem, Nat.reduceBEq, Nat.reduceEqDiff, Nat.reduceLT, Nat.reduceLeDiff, Nat.reduceAdd, Nat.reduceSub, Nat.reduceMul, reduceCtorEq, Int.reduceToNat, Int.reduceEq, Int.reduceLT, Int.reduceLE, Int.reduceNe, Int.reduceNeg, Sp.d, e1, e2, t1, t2, x1]
    refine (c26 (v.a % 30) (v.a % 30 + v.b % 8)).call rfl rfl rfl ?_
    simp only [go_sem, Nat.reduceBEq, Nat.reduceEqDiff, Nat.reduceLT, Nat.reduceLeDiff, Nat.reduceAdd, Nat.reduceSub, Nat.reduceMul, reduceCtorEq, Int.reduceToNat, Int.reduceEq, Int.reduceLT, Int.reduceLE, Int.reduceNe, Int.reduceNeg, Sp.d]
    refine ADrw.treeG (fun _ => false) tt_ok (by kernel_rfl) (fun k => if k = 1 ∨ k = 2 ∨ k = 3 then some .L else if k = 9 then some .W else if k = 8 then some .A else some .S) (.ones [0, 1, 2, 3, 4, 5, 6, 7, 8, 9, 10] .done) (Nat.zero_le _) (fun _ h => nomatch h) rfl rfl (by kernel_rfl) ?_
    simp only [go_sem, Nat.reduceBEq, Nat.reduceEqDiff, Nat.reduceLT, Nat.reduceLeDiff, Nat.reduceAdd, Nat.reduceSub, Nat.reduceMul, reduceCtorEq, Int.reduceToNat, Int.reduceEq, Int.reduceLT, Int.reduceLE, Int.reduceNe, Int.reduceNeg, htk, hsz, hle, List.nil_append, Nat.zero_add]
    refine (c44 A ⟨v.a % 30, v.a % 30 + v.b % 8⟩ (by omega)).callS rfl rfl rfl rfl rfl rfl ?_
    simp only [go_sem, Nat.reduceBEq, Nat.reduceEqDiff, Nat.reduceLT, Nat.reduceLeDiff, Nat.reduceAdd, Nat.reduceSub, Nat.reduceMul, reduceCtorEq, Int.reduceToNat, Int.reduceEq, Int.reduceLT, Int.reduceLE, Int.reduceNe, Int.reduceNeg, Sp.d]
    exact ForgetTo.same' (Nat.zero_le _) (by simp [EWe, Env.look]) (by simp [hM])
  generalize hwt : (⟨v.a % 30, v.a % 30 + v.b % 8⟩ : Sp) = want
  have hw1 : v.a % 30 = want.lo := by rw [← hwt]
  have hw2 : v.a % 30 + v.b % 8 = want.hi := by rw [← hwt]
  have hw3 : 0 ≤ want.lo ∧ want.lo ≤ want.hi ∧ want.hi ≤ 40 := by omega
  rw [hw1] at *
  rw [hw2] at *
  clear hwt hw1 hw2 x1 t1 t2
  by_cases hE : A.length = 0
  · refine AWP.runS (fun _ => false) tt_ok (fun _ h => nomatch h) (Nat.zero_le _) rfl ?_
    obtain rfl : A = [] := List.length_eq_zero_iff.1 hE
    have a7 : acidsP [] = 7 := rfl
    have w7 : waterP [] want = (sp0, 7) := rfl
    have m7 : mixV [] = sp0 := rfl
    simp only [go_sem, Nat.reduceBEq, Nat.reduceEqDiff, Nat.reduceLT, Nat.reduceLeDiff, Nat.reduceAdd, Nat.reduceSub, Nat.reduceMul, reduceCtorEq, Int.reduceToNat, Int.reduceEq, Int.reduceLT, Int.reduceLE, Int.reduceNe, Int.reduceNeg, hM, a7, w7, m7, List.length_nil]
    refine ADrw.treeG (fun _ => false) tt_ok (by kernel_rfl) (fun k => if k = 7 ∨ k = 12 then some .L else some .S) (.ones [0, 1, 2, 3, 4, 5, 6, 7, 8, 9, 10, 11, 12, 13, 14, 15, 16, 17, 18, 19] .done) (Nat.zero_le _) (fun _ h => nomatch h) rfl rfl (by kernel_rfl) ?_
    simp only [go_sem, Nat.reduceBEq, Nat.reduceEqDiff, Nat.reduceLT, Nat.reduceLeDiff, Nat.reduceAdd, Nat.reduceSub, Nat.reduceMul, reduceCtorEq, Int.reduceToNat, Int.reduceEq, Int.reduceLT, Int.reduceLE, Int.reduceNe, Int.reduceNeg]
    refine (c26 0 0).callS rfl rfl rfl rfl rfl rfl ?_
    simp only [go_sem, Nat.reduceBEq, Nat.reduceEqDiff, Nat.reduceLT, Nat.reduceLeDiff, Nat.reduceAdd, Nat.reduceSub, Nat.reduceMul, reduceCtorEq, Int.reduceToNat, Int.reduceEq, Int.reduceLT, Int.reduceLE, Int.reduceNe, Int.reduceNeg, Sp.d, sp0, hd0]
    refine (c26 0 0).callS rfl rfl rfl rfl rfl rfl ?_
    simp only [go_sem, Nat.reduceBEq, Nat.reduceEqDiff, Nat.reduceLT, Nat.reduceLeDiff, Nat.reduceAdd, Nat.reduceSub, Nat.reduceMul, reduceCtorEq, Int.reduceToNat, Int.reduceEq, Int.reduceLT, Int.reduceLE, Int.reduceNe, Int.reduceNeg, Sp.d, sp0, hd0]
    refine c17.callS rfl rfl rfl rfl rfl rfl ?_
    simp only [go_sem, Nat.reduceBEq, Nat.reduceEqDiff, Nat.reduceLT, Nat.reduceLeDiff, Nat.reduceAdd, Nat.reduceSub, Nat.reduceMul, reduceCtorEq, Int.reduceToNat, Int.reduceEq, Int.reduceLT, Int.reduceLE, Int.reduceNe, Int.reduceNeg]
  have d0 : decide ((A.length : Int) = 0) = false := by simpa using hE
  have ha0 : acidsP A = 0 := by
    have h1 : ¬ A.length > 5 := by omega
    have h3 : A.any badAcid = false := List.any_eq_false.2 fun a ha => by simpa using (badAcid_iff a).2 (hA a ha)
    simp only [acidsP, if_neg h1, if_neg hE, h3, Bool.false_eq_true, if_false]
  have hmv : mixV A = (mixAll A).with 0 := by rw [mixV, if_pos ha0]
  have hwp : waterP A want = waterUp (mixAll A) want 501 := by
    have h1 : (within 0 40 [want.lo, want.hi] && decide (want.lo ≤ want.hi)) = true := by
      simp only [within_iff, Bool.and_eq_true, decide_eq_true_eq]
      refine ⟨?_, hw3.2.1⟩
      intro x hx
      simp at hx
      omega
    rw [waterP, if_pos ha0, if_pos h1]
  obtain ⟨m1, m2, m3, m4, m5⟩ := mixAll_bnd ha0
  have hft := water_fits (m := mixAll A) (want := want) (by omega) m4 501 (Nat.le_refl _)
  have hwe := water_eq (mixAll A) want 501 (Nat.le_refl _)
  have hCL := fun (n : Int) (hn : 0 ≤ n ∧ n ≤ 500) (h2 : A.length ≤ 2) Q hq => c68 v ha0 h2 (mixV A) want (waterP A want).1 n hn (Q := Q) hq
  have hS1 : 0 ≤ (mixV A).lo * (mixAll A).oz ∧ (mixV A).lo * (mixAll A).oz ≤ S := by
    rw [hmv]
    simp only [Mixed.with, Int.add_zero]
    have := Int.ediv_mul_le (mixAll A).lo (show (mixAll A).oz ≠ 0 by omega)
    have := Int.mul_nonneg (Int.ediv_nonneg m1 (show 0 ≤ (mixAll A).oz by omega)) (show 0 ≤ (mixAll A).oz by omega)
    omega
  have hS2 : S ≤ (mixV A).hi * (mixAll A).oz ∧ (mixV A).hi * (mixAll A).oz ≤ 100000 := by
    rw [hmv]
    simp only [Mixed.with, Int.add_zero]
    have k1 := Int.lt_ediv_add_one_mul_self ((mixAll A).hi + (mixAll A).oz - 1) (show 0 < (mixAll A).oz by omega)
    have k2 := Int.ediv_mul_le ((mixAll A).hi + (mixAll A).oz - 1) (show (mixAll A).oz ≠ 0 by omega)
    rw [Int.add_mul, Int.one_mul] at k1
    omega
  have z1 : IntKind.i64.wrap ((mixV A).lo * (mixAll A).oz) = (mixV A).lo * (mixAll A).oz := w64 (by omega) (by omega)
  have z2 : IntKind.i64.wrap ((mixV A).hi * (mixAll A).oz) = (mixV A).hi * (mixAll A).oz := w64 (by omega) (by omega)
  have z3 : decide (S < (mixV A).lo * (mixAll A).oz) = false := by simp; omega
  have z4 : decide ((mixV A).hi * (mixAll A).oz < S) = false := by simp; omega
  rw [← hwp] at hft hwe
  generalize mixAll A = M at *
  generalize mixV A = mv at *
  generalize waterP A want = W at *
  refine AWP.stepN 2 [(16, .d (.int .i64 W.2)), (15, .ptr 5 0), (14, .ptr 4 0), (5, .ptr 2 0), (3, .ptr 0 0)] (hM v A ++ [.cells [.d (.int .i64 mv.lo), .d (.int .i64 mv.hi)], .cells [.d (.int .i64 want.lo), .d (.int .i64 want.hi)], .cells [.d (.int .i64 W.1.lo), .d (.int .i64 W.1.hi)]])
    (fun _ => false) tt_ok (fun _ h => nomatch h) (Nat.zero_le _) rfl ?_ ?_
  · simp only [go_sem, Nat.reduceBEq, Nat.reduceEqDiff, Nat.reduceLT, Nat.reduceLeDiff, Nat.reduceAdd, Nat.reduceSub, Nat.reduceMul, reduceCtorEq, Int.reduceToNat, Int.reduceEq, Int.reduceLT, Int.reduceLE, Int.reduceNe, Int.reduceNeg, hM, d0]
    refine ADrw.treeG (fun _ => false) tt_ok (by kernel_rfl) (fun k => if k = 9 ∨ k = 17 ∨ k = 25 then some .L else some .S) (.ones [0, 1, 2, 3, 4, 5, 6, 7, 8, 9, 10, 11, 12, 13, 14, 15, 16, 17, 18, 19, 20, 21, 22, 23, 24, 25, 26, 27, 28, 29, 30] .done) (Nat.zero_le _) (fun _ h => nomatch h) rfl rfl (by kernel_rfl) ?_
    rcases hwe with ⟨e1, e2⟩ | ⟨a, b, e1, e2, _⟩
    · rw [e1]
      simp only [go_sem, Nat.reduceBEq, Nat.reduceEqDiff, Nat.reduceLT, Nat.reduceLeDiff, Nat.reduceAdd, Nat.reduceSub, Nat.reduceMul, reduceCtorEq, Int.reduceToNat, Int.reduceEq, Int.reduceLT, Int.reduceLE, Int.reduceNe, Int.reduceNeg, ha0]
      refine (c26 0 0).callS rfl rfl rfl rfl rfl rfl ?_
      simp only [go_sem, Nat.reduceBEq, Nat.reduceEqDiff, Nat.reduceLT, Nat.reduceLeDiff, Nat.reduceAdd, Nat.reduceSub, Nat.reduceMul, reduceCtorEq, Int.reduceToNat, Int.reduceEq, Int.reduceLT, Int.reduceLE, Int.reduceNe, Int.reduceNeg, Sp.d, sp0, hd0, z1, z2, z3, z4]
      exact ForgetTo.same' (Nat.zero_le _) (by simp [EWe, Env.look]) (by simp [hM, sp0])
    · rw [e1]
      simp only [go_sem, Nat.reduceBEq, Nat.reduceEqDiff, Nat.reduceLT, Nat.reduceLeDiff, Nat.reduceAdd, Nat.reduceSub, Nat.reduceMul, reduceCtorEq, Int.reduceToNat, Int.reduceEq, Int.reduceLT, Int.reduceLE, Int.reduceNe, Int.reduceNeg, ha0, z1, z2, z3, z4]
      exact ForgetTo.same' (Nat.zero_le _) (by simp [EWe, Env.look]) (by simp [hM, sp0])
  have hW2 : W.2 = 0 ∨ W.2 = 7 := by
    rcases hwe with ⟨e1, _⟩ | ⟨a, b, e1, _⟩
    · exact .inr (by rw [e1])
    · exact .inl (by rw [e1])
  have hW1 : W.2 = 0 → 0 ≤ W.1.lo ∧ W.1.lo ≤ W.1.hi ∧ W.1.hi ≤ 500 := fun h => by
    rcases hwe with ⟨e1, _⟩ | ⟨a, b, e1, _, e3, e4, e5⟩
    · rw [e1] at h; exact absurd h (by simp)
    · rw [e1]; simp only; omega
  clear hwe
  obtain ⟨w, f⟩ := W
  simp only at hW1 hW2 hft hCL
  refine AWP.runS (fun _ => false) tt_ok (fun _ h => nomatch h) (Nat.zero_le _) rfl ?_
  simp only [go_sem, Nat.reduceBEq, Nat.reduceEqDiff, Nat.reduceLT, Nat.reduceLeDiff, Nat.reduceAdd, Nat.reduceSub, Nat.reduceMul, reduceCtorEq, Int.reduceToNat, Int.reduceEq, Int.reduceLT, Int.reduceLE, Int.reduceNe, Int.reduceNeg, hM]
  refine Br_split (fun hc => ?_) (fun hc => ?_) <;> simp only [go_sem, Nat.reduceBEq, Nat.reduceEqDiff, Nat.reduceLT, Nat.reduceLeDiff, Nat.reduceAdd, Nat.reduceSub, Nat.reduceMul, reduceCtorEq, Int.reduceToNat, Int.reduceEq, Int.reduceLT, Int.reduceLE, Int.reduceNe, Int.reduceNeg, hc]
  · refine c17.call rfl rfl rfl ?_
    simp only [go_sem, Nat.reduceBEq, Nat.reduceEqDiff, Nat.reduceLT, Nat.reduceLeDiff, Nat.reduceAdd, Nat.reduceSub, Nat.reduceMul, reduceCtorEq, Int.reduceToNat, Int.reduceEq, Int.reduceLT, Int.reduceLE, Int.reduceNe, Int.reduceNeg]
  have h2 : A.length ≤ 2 := by simp only [decide_eq_false_iff_not] at hc; omega
  have hCL := fun (n : Int) (hn : 0 ≤ n ∧ n ≤ 500) Q hq => hCL n hn h2 Q hq
  refine ALoop.by (S := Nat) (fun i => [(18, .d (.int .i64 i)), (17, .fn (.func 68) [] [.ptr 2 0, .ptr 4 0]), (16, .d (.int .i64 f)), (15, .ptr 5 0), (3, .ptr 0 0)])
    (fun i => hM v A ++ [.cells [.d (.int .i64 mv.lo), .d (.int .i64 mv.hi)], .cells [.d (.int .i64 want.lo), .d (.int .i64 want.hi)], .cells [.d (.int .i64 w.lo), .d (.int .i64 w.hi)]]) (fun i => 501 - i) (fun i => i ≤ 600) 0 (Nat.zero_le _) (fun _ h => nomatch h) (by simp) ?_ ?_
  · exact ForgetTo.same' (Nat.zero_le _) (by simp [EWe, Env.look]) (by simp [hM])
  rintro i hi hn
  refine AWP.run (fun _ => false) tt_ok (fun _ h => nomatch h) (Nat.zero_le _) rfl ?_
  simp only [go_sem, Nat.reduceBEq, Nat.reduceEqDiff, Nat.reduceLT, Nat.reduceLeDiff, Nat.reduceAdd, Nat.reduceSub, Nat.reduceMul, reduceCtorEq, Int.reduceToNat, Int.reduceEq, Int.reduceLT, Int.reduceLE, Int.reduceNe, Int.reduceNeg, hM]
  have tv : v.a.tmod 7 = v.a % 7 := Int.tmod_eq_emod_of_nonneg v1.1
  have x1 : IntKind.i64.wrap (1 + v.a % 7) = 1 + v.a % 7 := w64 (by omega) (by omega)
  have x2 : IntKind.i64.wrap ((i : Int) + (1 + v.a % 7)) = (i : Int) + (1 + v.a % 7) := w64 (by omega) (by omega)
  refine Br_split (fun hd => ?_) (fun hd => ?_) <;> simp only [go_sem, Nat.reduceBEq, Nat.reduceEqDiff, Nat.reduceLT, Nat.reduceLeDiff, Nat.reduceAdd, Nat.reduceSub, Nat.reduceMul, reduceCtorEq, Int.reduceToNat, Int.reduceEq, Int.reduceLT, Int.reduceLE, Int.reduceNe, Int.reduceNeg, hd]
  · have hd' : i ≤ 500 := by simp only [decide_eq_true_eq] at hd; omega
    have hf := hft i (by omega) (by omega)
    refine ACallV.of rfl (hCL i (by omega) _ ?_)
    generalize fitR M want i = g at hf
    rcases hW2 with rfl | rfl
    · simp only [go_sem, Nat.reduceBEq, Nat.reduceEqDiff, Nat.reduceLT, Nat.reduceLeDiff, Nat.reduceAdd, Nat.reduceSub, Nat.reduceMul, reduceCtorEq, Int.reduceToNat, Int.reduceEq, Int.reduceLT, Int.reduceLE, Int.reduceNe, Int.reduceNeg, hM]
      refine (c62 i w).call rfl rfl rfl ?_
      have hgv : g = (decide ((i : Int) ≥ w.lo) && decide ((i : Int) ≤ w.hi)) := by rw [Bool.eq_iff_iff]; simpa using hf
      rw [hgv]
      generalize (decide ((i : Int) ≥ w.lo) && decide ((i : Int) ≤ w.hi)) = g
      have hgg : (!g == g) = false := by cases g <;> rfl
      simp only [go_sem, Nat.reduceBEq, Nat.reduceEqDiff, Nat.reduceLT, Nat.reduceLeDiff, Nat.reduceAdd, Nat.reduceSub, Nat.reduceMul, reduceCtorEq, Int.reduceToNat, Int.reduceEq, Int.reduceLT, Int.reduceLE, Int.reduceNe, Int.reduceNeg, hgg, e1, tv, x1, x2]
      refine ⟨i + (1 + v.a % 7).toNat, by omega, by omega, ?_⟩
      exact ForgetTo.same' (Nat.zero_le _) (by simp [EWe, Env.look]; omega) (by simp [hM])
    · have hgv : g = false := by cases g <;> simp at hf ⊢
      subst hgv
      simp only [go_sem, Nat.reduceBEq, Nat.reduceEqDiff, Nat.reduceLT, Nat.reduceLeDiff, Nat.reduceAdd, Nat.reduceSub, Nat.reduceMul, reduceCtorEq, Int.reduceToNat, Int.reduceEq, Int.reduceLT, Int.reduceLE, Int.reduceNe, Int.reduceNeg, hM, e1, tv, x1, x2]
      refine ⟨i + (1 + v.a % 7).toNat, by omega, by omega, ?_⟩
      exact ForgetTo.same' (Nat.zero_le _) (by simp [EWe, Env.look]; omega) (by simp [hM])
  · rcases hW2 with rfl | rfl
    · obtain ⟨b1, b2, b3⟩ := hW1 rfl
      simp only [true_and] at hft
      have f1 : fitR M want w.lo = true := (hft w.lo (by omega) (by omega)).2 (by omega)
      have f2 : fitR M want w.hi = true := (hft w.hi (by omega) (by omega)).2 (by omega)
      have q1 : decide (w.lo < 0) = false := by simp; omega
      have q2 : decide (500 < w.hi) = false := by simp; omega
      have q3 : IntKind.i64.wrap (w.lo - 1) = w.lo - 1 := w64 (by omega) (by omega)
      have q4 : IntKind.i64.wrap (w.hi + 1) = w.hi + 1 := w64 (by omega) (by omega)
      simp only [go_sem, Nat.reduceBEq, Nat.reduceEqDiff, Nat.reduceLT, Nat.reduceLeDiff, Nat.reduceAdd, Nat.reduceSub, Nat.reduceMul, reduceCtorEq, Int.reduceToNat, Int.reduceEq, Int.reduceLT, Int.reduceLE, Int.reduceNe, Int.reduceNeg, q1, q2]
      refine ACallV.of rfl (hCL w.lo (by omega) _ ?_)
      rw [f1]
      simp only [go_sem, Nat.reduceBEq, Nat.reduceEqDiff, Nat.reduceLT, Nat.reduceLeDiff, Nat.reduceAdd, Nat.reduceSub, Nat.reduceMul, reduceCtorEq, Int.reduceToNat, Int.reduceEq, Int.reduceLT, Int.reduceLE, Int.reduceNe, Int.reduceNeg, hM]
      refine ACallV.of rfl (hCL w.hi (by omega) _ ?_)
      rw [f2]
      simp only [go_sem, Nat.reduceBEq, Nat.reduceEqDiff, Nat.reduceLT, Nat.reduceLeDiff, Nat.reduceAdd, Nat.reduceSub, Nat.reduceMul, reduceCtorEq, Int.reduceToNat, Int.reduceEq, Int.reduceLT, Int.reduceLE, Int.reduceNe, Int.reduceNeg, hM]
      have g1 : ¬ fitR M want (w.lo - 1) = true ∨ w.lo = 0 := by
        by_cases h : w.lo = 0
        · exact .inr h
        · exact .inl fun hf => by have := (hft (w.lo - 1) (by omega) (by omega)).1 hf; omega
      have g2 : ¬ fitR M want (w.hi + 1) = true ∨ w.hi = 500 := by
        by_cases h : w.hi = 500
        · exact .inr h
        · exact .inl fun hf => by have := (hft (w.hi + 1) (by omega) (by omega)).1 hf; omega
      refine Br_split (fun r1 => ?_) (fun r1 => ?_) <;> simp only [go_sem, Nat.reduceBEq, Nat.reduceEqDiff, Nat.reduceLT, Nat.reduceLeDiff, Nat.reduceAdd, Nat.reduceSub, Nat.reduceMul, reduceCtorEq, Int.reduceToNat, Int.reduceEq, Int.reduceLT, Int.reduceLE, Int.reduceNe, Int.reduceNeg, r1]
      · have r1' : 0 < w.lo := by simpa using r1
        rw [q3]
        refine ACallV.of rfl (hCL (w.lo - 1) (by omega) _ ?_)
        rw [show fitR M want (w.lo - 1) = false by rcases g1 with h | h; simpa using h; omega]
        simp only [go_sem, Nat.reduceBEq, Nat.reduceEqDiff, Nat.reduceLT, Nat.reduceLeDiff, Nat.reduceAdd, Nat.reduceSub, Nat.reduceMul, reduceCtorEq, Int.reduceToNat, Int.reduceEq, Int.reduceLT, Int.reduceLE, Int.reduceNe, Int.reduceNeg, hM]
        refine Br_split (fun r2 => ?_) (fun r2 => ?_) <;> simp only [go_sem, Nat.reduceBEq, Nat.reduceEqDiff, Nat.reduceLT, Nat.reduceLeDiff, Nat.reduceAdd, Nat.reduceSub, Nat.reduceMul, reduceCtorEq, Int.reduceToNat, Int.reduceEq, Int.reduceLT, Int.reduceLE, Int.reduceNe, Int.reduceNeg, r2]
        · have r2' : w.hi < 500 := by simpa using r2
          rw [q4]
          refine ACallV.of rfl (hCL (w.hi + 1) (by omega) _ ?_)
          rw [show fitR M want (w.hi + 1) = false by rcases g2 with h | h; simpa using h; omega]
          simp only [go_sem, Nat.reduceBEq, Nat.reduceEqDiff, Nat.reduceLT, Nat.reduceLeDiff, Nat.reduceAdd, Nat.reduceSub, Nat.reduceMul, reduceCtorEq, Int.reduceToNat, Int.reduceEq, Int.reduceLT, Int.reduceLE, Int.reduceNe, Int.reduceNeg, hM]
          refine c17.call rfl rfl rfl ?_
          simp only [go_sem, Nat.reduceBEq, Nat.reduceEqDiff, Nat.reduceLT, Nat.reduceLeDiff, Nat.reduceAdd, Nat.reduceSub, Nat.reduceMul, reduceCtorEq, Int.reduceToNat, Int.reduceEq, Int.reduceLT, Int.reduceLE, Int.reduceNe, Int.reduceNeg]
        · refine c17.call rfl rfl rfl ?_
          simp only [go_sem, Nat.reduceBEq, Nat.reduceEqDiff, Nat.reduceLT, Nat.reduceLeDiff, Nat.reduceAdd, Nat.reduceSub, Nat.reduceMul, reduceCtorEq, Int.reduceToNat, Int.reduceEq, Int.reduceLT, Int.reduceLE, Int.reduceNe, Int.reduceNeg]
      · refine Br_split (fun r2 => ?_) (fun r2 => ?_) <;> simp only [go_sem, Nat.reduceBEq, Nat.reduceEqDiff, Nat.reduceLT, Nat.reduceLeDiff, Nat.reduceAdd, Nat.reduceSub, Nat.reduceMul, reduceCtorEq, Int.reduceToNat, Int.reduceEq, Int.reduceLT, Int.reduceLE, Int.reduceNe, Int.reduceNeg, r2]
        · have r2' : w.hi < 500 := by simpa using r2
          rw [q4]
          refine ACallV.of rfl (hCL (w.hi + 1) (by omega) _ ?_)
          rw [show fitR M want (w.hi + 1) = false by rcases g2 with h | h; simpa using h; omega]
          simp only [go_sem, Nat.reduceBEq, Nat.reduceEqDiff, Nat.reduceLT, Nat.reduceLeDiff, Nat.reduceAdd, Nat.reduceSub, Nat.reduceMul, reduceCtorEq, Int.reduceToNat, Int.reduceEq, Int.reduceLT, Int.reduceLE, Int.reduceNe, Int.reduceNeg, hM]
          refine c17.call rfl rfl rfl ?_
          simp only [go_sem, Nat.reduceBEq, Nat.reduceEqDiff, Nat.reduceLT, Nat.reduceLeDiff, Nat.reduceAdd, Nat.reduceSub, Nat.reduceMul, reduceCtorEq, Int.reduceToNat, Int.reduceEq, Int.reduceLT, Int.reduceLE, Int.reduceNe, Int.reduceNeg]
        · refine c17.call rfl rfl rfl ?_
          simp only [go_sem, Nat.reduceBEq, Nat.reduceEqDiff, Nat.reduceLT, Nat.reduceLeDiff, Nat.reduceAdd, Nat.reduceSub, Nat.reduceMul, reduceCtorEq, Int.reduceToNat, Int.reduceEq, Int.reduceLT, Int.reduceLE, Int.reduceNe, Int.reduceNeg]
    · simp only [go_sem, Nat.reduceBEq, Nat.reduceEqDiff, Nat.reduceLT, Nat.reduceLeDiff, Nat.reduceAdd, Nat.reduceSub, Nat.reduceMul, reduceCtorEq, Int.reduceToNat, Int.reduceEq, Int.reduceLT, Int.reduceLE, Int.reduceNe, Int.reduceNeg]
      refine c17.call rfl rfl rfl ?_
      simp only [go_sem, Nat.reduceBEq, Nat.reduceEqDiff, Nat.reduceLT, Nat.reduceLeDiff, Nat.reduceAdd, Nat.reduceSub, Nat.reduceMul, reduceCtorEq, Int.reduceToNat, Int.reduceEq, Int.reduceLT, Int.reduceLE, Int.reduceNe, Int.reduceNeg]
end Go.Aw
end
