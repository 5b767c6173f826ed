/- The reference's Share. The pennies of Share: sorting by what was lost gives the same as picking the greatest again and again. The statement LedgerShares: what the code answers is true of any loss and parts. The reference's Check. The law's large; the reference's Same, Left's ends, Counted. The reference's Same, of a book and itself; Counted. The reference's Copy. The reference's Truths. The reference's Rest. The reference's Left and Counted. What is left: the ends of the account's span are those of the truths. The statement LedgerLefts: what the code answers is true of any book and counts. All truths, by the program and by the reference, in one order. Shares: what LedgerShared asks of them. The statement LedgerShared: what the code answers is true of any loss, parts and sales. Bytes as arguments. -/
import Derived.Test.YtglcghgokedbcaaL2
set_option linter.unusedSimpArgs false
set_option linter.unusedVariables false

section
namespace Go.Aw
open Go Go.Proofs Go.Proofs.Try

def lostW (pence all : Int) (parts : List Int) (i : Nat) : Int := wr (wr (pence * parts.getD i 0) - wr (qW pence all parts i * all))

/-- The first place of the greatest of the first elements. -/
def argm (l : List Int) : Nat → Nat
  | 0 => 0
  | i + 1 => if l.getD i 0 > l.getD (argm l i) 0 then i else argm l i

theorem argm_lt (l : List Int) : ∀ i, 0 < l.length → i ≤ l.length → argm l i < l.length
  | 0, h, _ => h
  | i + 1, h, hi => by
    simp only [argm]
    split
    · omega
    · exact argm_lt l i h (by omega)

def stepR (s : List Int × List Int) : List Int × List Int := (s.1.set (argm s.2 s.2.length) (wr (s.1.getD (argm s.2 s.2.length) 0 + 1)), s.2.set (argm s.2 s.2.length) (-1))

def iterR : Nat → List Int × List Int → List Int × List Int
  | 0, s => s
  | k + 1, s => stepR (iterR k s)

theorem iterR_len (s : List Int × List Int) : ∀ k, (iterR k s).1.length = s.1.length ∧ (iterR k s).2.length = s.2.length
  | 0 => ⟨rfl, rfl⟩
  | k + 1 => by
    obtain ⟨h1, h2⟩ := iterR_len s k
    simp [iterR, stepR, h1, h2]

def shareR (pence : Int) (parts : List Int) : List Int :=
  (iterR (leftN pence parts.sum parts parts.length).toNat ((List.range parts.length).map (qW pence parts.sum parts), (List.range parts.length).map (lostW pence parts.sum parts))).1

theorem map_range_len {α : Type} (f : Nat → α) (i : Nat) : ((List.range i).map f).length = i := by simp

theorem getD_range {f : Nat → Int} {n i : Nat} (h : i < n) : ((List.range n).map f).getD i 0 = f i := by simp [h]

theorem c44 {pence : Int} {parts : List Int} (h : PartsOk pence parts) (hs : 0 < parts.sum) : PC prog 44 [.d (.int .i64 pence), .d (.sl (parts.map (.int .i64)))] (.d (.sl ((shareR pence parts).map (.int .i64)))) := by
  have hlen := h.len
  have hlf := leftN_lt h hs
  have hl0 : 0 < parts.length := by
    rcases parts with _ | _
    · simp at hs
    · simp
  refine PC.run (fun k => k == 6 || k == 7) tt_ok (fn := f44) (rs := [.tmp 4]) rfl rfl rfl rfl rfl rfl rfl ?_
  simp only [go_sem, Nat.reduceBEq, Nat.reduceEqDiff, Nat.reduceLT, Nat.reduceLeDiff, Nat.reduceAdd, Nat.reduceSub, Nat.reduceMul, reduceCtorEq, Int.reduceToNat, Int.reduceEq, Int.reduceLT, Int.reduceLE, Int.reduceNe, Int.reduceNeg , or_self, or_false, false_or , List.length_map, Bool.or_true, Bool.true_or, Bool.or_false, Bool.false_or]
  refine ALoop.by (S := Nat) (fun i => [(9, .d (.int .i64 i)), (5, .d (.int .i64 (sumP (parts.take i)))), (0, .d (.int .i64 pence)), (1, .d (.sl (parts.map (.int .i64)))), (6, .ref 0 0 0 0), (7, .ref 1 0 0 0), (8, .d (.int .i64 pence))])
    (fun _ => [.arr 1 false [], .arr 1 false []]) (fun i => parts.length - i) (fun i => i ≤ parts.length) 0 (by simp) (fun _ h => nomatch h) (Nat.zero_le _) ?_ ?_
  · exact ForgetTo.same (by simp) (by simp [EWe, Env.look, sumP])
  rintro i hi hn
  refine AWP.run (fun k => k == 6 || k == 7) tt_ok (fun _ h => nomatch h) (by simp) rfl ?_
  simp only [go_sem, Nat.reduceBEq, Nat.reduceEqDiff, Nat.reduceLT, Nat.reduceLeDiff, Nat.reduceAdd, Nat.reduceSub, Nat.reduceMul, reduceCtorEq, Int.reduceToNat, Int.reduceEq, Int.reduceLT, Int.reduceLE, Int.reduceNe, Int.reduceNeg , or_self, or_false, false_or , List.length_map, Bool.or_true, Bool.true_or, Bool.or_false, Bool.false_or]
  refine Br_split (fun hd => ?_) (fun hd => ?_) <;> simp only [go_sem, Nat.reduceBEq, Nat.reduceEqDiff, Nat.reduceLT, Nat.reduceLeDiff, Nat.reduceAdd, Nat.reduceSub, Nat.reduceMul, reduceCtorEq, Int.reduceToNat, Int.reduceEq, Int.reduceLT, Int.reduceLE, Int.reduceNe, Int.reduceNeg , or_self, or_false, false_or , List.length_map, hd, Bool.or_true, Bool.true_or, Bool.or_false, Bool.false_or]
  · have hlt : i < parts.length := by simpa using hd
    simp only [go_sem, Nat.reduceBEq, Nat.reduceEqDiff, Nat.reduceLT, Nat.reduceLeDiff, Nat.reduceAdd, Nat.reduceSub, Nat.reduceMul, reduceCtorEq, Int.reduceToNat, Int.reduceEq, Int.reduceLT, Int.reduceLE, Int.reduceNe, Int.reduceNeg , or_self, or_false, false_or , List.length_map, idx_nat, List.getElem?_map, List.getElem?_eq_getElem hlt, Bool.or_true, Bool.true_or, Bool.or_false, Bool.false_or]
    refine ⟨i + 1, hlt, by omega, ?_⟩
    exact ForgetTo.same (by simp) (by simp [EWe, Env.look, w64 (n := (i : Int) + 1) (by omega) (by omega), sumP, foldl_take _ _ hlt])
  have hnl : ¬ i < parts.length := by simpa using hd
  rw [show parts.take i = parts from List.take_of_length_le (by omega), (sumP_eq h).1]
  have hall : parts.sum ≠ 0 := by omega
  rw [shareR]
  generalize hA : parts.sum = all at hs hall hlf
  refine ALoop.by (S := Nat) (fun i => [(10, .d (.int .i64 i)), (5, .d (.int .i64 all)), (0, .d (.int .i64 pence)), (1, .d (.sl (parts.map (.int .i64)))), (6, .ref 0 i 0 i), (7, .ref 1 i 0 i), (8, .d (.int .i64 (leftN pence all parts i)))])
    (fun i => [rowB ((List.range i).map (qW pence all parts)), rowB ((List.range i).map (lostW pence all parts))]) (fun i => parts.length - i) (fun i => i ≤ parts.length) 0 (by simp) (fun _ h => nomatch h) (Nat.zero_le _) ?_ ?_
  · exact ForgetTo.same' (by simp) (by simp [EWe, Env.look, leftN]) (by simp [rowB])
  clear hi hn hd hnl
  rintro i hi hn
  refine AWP.run (fun k => k == 6 || k == 7) tt_ok (fun _ h => nomatch h) (by simp) rfl ?_
  simp only [go_sem, Nat.reduceBEq, Nat.reduceEqDiff, Nat.reduceLT, Nat.reduceLeDiff, Nat.reduceAdd, Nat.reduceSub, Nat.reduceMul, reduceCtorEq, Int.reduceToNat, Int.reduceEq, Int.reduceLT, Int.reduceLE, Int.reduceNe, Int.reduceNeg , or_self, or_false, false_or , List.length_map, Bool.or_true, Bool.true_or, Bool.or_false, Bool.false_or, rowB]
  refine Br_split (fun hd => ?_) (fun hd => ?_) <;> simp only [go_sem, Nat.reduceBEq, Nat.reduceEqDiff, Nat.reduceLT, Nat.reduceLeDiff, Nat.reduceAdd, Nat.reduceSub, Nat.reduceMul, reduceCtorEq, Int.reduceToNat, Int.reduceEq, Int.reduceLT, Int.reduceLE, Int.reduceNe, Int.reduceNeg , or_self, or_false, false_or , List.length_map, hd, Bool.or_true, Bool.true_or, Bool.or_false, Bool.false_or]
  · have hlt : i < parts.length := by simpa using hd
    have hle : i + 1 ≤ 4294967296 := by omega
    simp only [go_sem, Nat.reduceBEq, Nat.reduceEqDiff, Nat.reduceLT, Nat.reduceLeDiff, Nat.reduceAdd, Nat.reduceSub, Nat.reduceMul, reduceCtorEq, Int.reduceToNat, Int.reduceEq, Int.reduceLT, Int.reduceLE, Int.reduceNe, Int.reduceNeg , or_self, or_false, false_or , List.length_map, Bool.or_true, Bool.true_or, Bool.or_false, Bool.false_or, idx_nat, List.getElem?_map, List.getElem?_eq_getElem hlt, quoO_ne hall]
    refine ADrw.treeG (fun k => k == 6 || k == 7) tt_ok (by kernel_rfl) (fun k => if k = 3 ∨ k = 16 then some .W else some .S) (.ones [0, 1, 2, 3, 4, 5, 6, 7, 8, 9, 10, 11, 12, 13, 14, 15, 16, 17, 18, 19, 20, 21, 22] .done) (by simp) (fun _ h => nomatch h) rfl rfl (by kernel_rfl) ?_
    simp only [go_sem, Nat.reduceBEq, Nat.reduceEqDiff, Nat.reduceLT, Nat.reduceLeDiff, Nat.reduceAdd, Nat.reduceSub, Nat.reduceMul, reduceCtorEq, Int.reduceToNat, Int.reduceEq, Int.reduceLT, Int.reduceLE, Int.reduceNe, Int.reduceNeg , or_self, or_false, false_or , List.length_map, Bool.or_true, Bool.true_or, Bool.or_false, Bool.false_or, idx_nat, List.getElem?_map, List.getElem?_eq_getElem hlt, List.length_range, List.length_map, hle]
    refine ⟨i + 1, hlt, by omega, ?_⟩
    exact ForgetTo.same' (by simp) (by simp [EWe, Env.look, w64 (n := (i : Int) + 1) (by omega) (by omega), leftN, qW, hlt]) (by simp [rowB, List.range_succ, qW, lostW, hlt])
  have hni : i = parts.length := by have : ¬ i < parts.length := by simpa using hd
                                    omega
  rw [hni]
  obtain ⟨lf, hlfe⟩ : ∃ lf : Nat, leftN pence all parts parts.length = lf := ⟨(leftN pence all parts parts.length).toNat, by omega⟩
  rw [hlfe] at hlf ⊢
  obtain ⟨n, hnn⟩ : ∃ n, parts.length = n := ⟨_, rfl⟩
  rw [hnn] at hlf hl0 hlen ⊢
  clear hi hn hd hni
  generalize hS0 : ((List.range n).map (qW pence all parts), (List.range n).map (lostW pence all parts)) = S0
  have hS1 : (List.range n).map (qW pence all parts) = S0.1 := by rw [← hS0]
  have hS2 : (List.range n).map (lostW pence all parts) = S0.2 := by rw [← hS0]
  rw [hS1, hS2]
  have hl1 : S0.1.length = n := by rw [← hS1]; simp
  have hl2 : S0.2.length = n := by rw [← hS2]; simp
  refine ALoop.by (S := Nat) (fun k => [(6, .ref 0 n 0 n), (7, .ref 1 n 0 n), (8, .d (.int .i64 ((lf : Int) - k)))])
    (fun k => [rowB (iterR k S0).1, rowB (iterR k S0).2]) (fun k => lf - k) (fun k => k ≤ lf) 0 (by simp) (fun _ h => nomatch h) (Nat.zero_le _) ?_ ?_
  · exact ForgetTo.same' (by simp) (by simp [EWe, Env.look]) (by simp [iterR, rowB])
  rintro k hk hn
  refine AWP.run (fun k => k == 6 || k == 7) tt_ok (fun _ h => nomatch h) (by simp) rfl ?_
  simp only [go_sem, Nat.reduceBEq, Nat.reduceEqDiff, Nat.reduceLT, Nat.reduceLeDiff, Nat.reduceAdd, Nat.reduceSub, Nat.reduceMul, reduceCtorEq, Int.reduceToNat, Int.reduceEq, Int.reduceLT, Int.reduceLE, Int.reduceNe, Int.reduceNeg , or_self, or_false, false_or , List.length_map, Bool.or_true, Bool.true_or, Bool.or_false, Bool.false_or, rowB]
  obtain ⟨k1, k2⟩ := iterR_len S0 k
  rw [hl1] at k1
  rw [hl2] at k2
  refine Br_split (fun hd => ?_) (fun hd => ?_) <;> simp only [go_sem, Nat.reduceBEq, Nat.reduceEqDiff, Nat.reduceLT, Nat.reduceLeDiff, Nat.reduceAdd, Nat.reduceSub, Nat.reduceMul, reduceCtorEq, Int.reduceToNat, Int.reduceEq, Int.reduceLT, Int.reduceLE, Int.reduceNe, Int.reduceNeg , or_self, or_false, false_or , List.length_map, hd, Bool.or_true, Bool.true_or, Bool.or_false, Bool.false_or]
  · have hkl : k < lf := by have : 0 < (lf : Int) - k := by simpa using hd
                            omega
    have hst : iterR (k + 1) S0 = stepR (iterR k S0) := rfl
    generalize iterR k S0 = Sk at k1 k2 hst ⊢
    refine ALoop.by (S := Nat) (fun j => [(13, .d (.int .i64 j)), (12, .d (.int .i64 (argm Sk.2 j))), (6, .ref 0 n 0 n), (7, .ref 1 n 0 n), (8, .d (.int .i64 ((lf : Int) - k)))])
      (fun j => [rowB Sk.1, rowB Sk.2]) (fun j => n - j) (fun j => j ≤ n) 0 (by simp) (fun _ h => nomatch h) (Nat.zero_le _) ?_ ?_
    · exact ForgetTo.same' (by simp) (by simp [EWe, Env.look, argm]) (by simp [rowB])
    rintro j hj hn
    refine AWP.run (fun k => k == 6 || k == 7) tt_ok (fun _ h => nomatch h) (by simp) rfl ?_
    simp only [go_sem, Nat.reduceBEq, Nat.reduceEqDiff, Nat.reduceLT, Nat.reduceLeDiff, Nat.reduceAdd, Nat.reduceSub, Nat.reduceMul, reduceCtorEq, Int.reduceToNat, Int.reduceEq, Int.reduceLT, Int.reduceLE, Int.reduceNe, Int.reduceNeg , or_self, or_false, false_or , List.length_map, Bool.or_true, Bool.true_or, Bool.or_false, Bool.false_or, rowB, List.length_map, k2]
    have ha := argm_lt Sk.2 j (by omega) (by omega)
    refine Br_split (fun he => ?_) (fun he => ?_) <;> simp only [go_sem, Nat.reduceBEq, Nat.reduceEqDiff, Nat.reduceLT, Nat.reduceLeDiff, Nat.reduceAdd, Nat.reduceSub, Nat.reduceMul, reduceCtorEq, Int.reduceToNat, Int.reduceEq, Int.reduceLT, Int.reduceLE, Int.reduceNe, Int.reduceNeg , or_self, or_false, false_or , List.length_map, he, Bool.or_true, Bool.true_or, Bool.or_false, Bool.false_or]
    · have hjn : j < n := by simpa using he
      have z0 : (0 : Int) ≤ (j : Int) := by omega
      have z1 : (j : Int) < (n : Int) := by omega
      have z2 : (0 : Int) ≤ ((argm Sk.2 j : Nat) : Int) := by omega
      have z3 : ((argm Sk.2 j : Nat) : Int) < (n : Int) := by omega
      have hj2 : j < Sk.2.length := by omega
      refine ADrw.treeG (fun k => k == 6 || k == 7) tt_ok (by kernel_rfl) (fun k => if k = 2 ∨ k = 3 ∨ k = 6 ∨ k = 7 then some .L else some .S) (.ones [0, 1, 2, 3, 4, 5, 6, 7, 8] .done) (by simp) (fun _ h => nomatch h) rfl rfl (by kernel_rfl) ?_
      simp only [go_sem, Nat.reduceBEq, Nat.reduceEqDiff, Nat.reduceLT, Nat.reduceLeDiff, Nat.reduceAdd, Nat.reduceSub, Nat.reduceMul, reduceCtorEq, Int.reduceToNat, Int.reduceEq, Int.reduceLT, Int.reduceLE, Int.reduceNe, Int.reduceNeg , or_self, or_false, false_or , List.length_map, Bool.or_true, Bool.true_or, Bool.or_false, Bool.false_or, z0, z1, z2, z3, Int.toNat_natCast, List.getElem?_map, List.getElem?_eq_getElem hj2, List.getElem?_eq_getElem ha, k2]
      refine Br_split (fun hg => ?_) (fun hg => ?_) <;> simp only [go_sem, Nat.reduceBEq, Nat.reduceEqDiff, Nat.reduceLT, Nat.reduceLeDiff, Nat.reduceAdd, Nat.reduceSub, Nat.reduceMul, reduceCtorEq, Int.reduceToNat, Int.reduceEq, Int.reduceLT, Int.reduceLE, Int.reduceNe, Int.reduceNeg , or_self, or_false, false_or , List.length_map, hg, Bool.or_true, Bool.true_or, Bool.or_false, Bool.false_or]
      · have hg' : Sk.2[argm Sk.2 j] < Sk.2[j] := by simpa using hg
        refine ⟨j + 1, hjn, by omega, ?_⟩
        exact ForgetTo.same' (by simp) (by simp [EWe, Env.look, w64 (n := (j : Int) + 1) (by omega) (by omega), argm, List.getElem?_eq_getElem hj2, List.getElem?_eq_getElem ha, hg']) (by simp [rowB])
      · have hg' : ¬ Sk.2[argm Sk.2 j] < Sk.2[j] := by simpa using hg
        refine ⟨j + 1, hjn, by omega, ?_⟩
        exact ForgetTo.same' (by simp) (by simp [EWe, Env.look, w64 (n := (j : Int) + 1) (by omega) (by omega), argm, List.getElem?_eq_getElem hj2, List.getElem?_eq_getElem ha, hg']) (by simp [rowB])
    · have hje : j = n := by have : ¬ j < n := by simpa using he
                             omega
      rw [hje] at ha ⊢
      have z2 : (0 : Int) ≤ ((argm Sk.2 n : Nat) : Int) := by omega
      have z3 : ((argm Sk.2 n : Nat) : Int) < (n : Int) := by omega
      have ha1 : argm Sk.2 n < Sk.1.length := by omega
      have ha2 : argm Sk.2 n < Sk.2.length := by omega
      simp only [go_sem, Nat.reduceBEq, Nat.reduceEqDiff, Nat.reduceLT, Nat.reduceLeDiff, Nat.reduceAdd, Nat.reduceSub, Nat.reduceMul, reduceCtorEq, Int.reduceToNat, Int.reduceEq, Int.reduceLT, Int.reduceLE, Int.reduceNe, Int.reduceNeg , or_self, or_false, false_or , List.length_map, Bool.or_true, Bool.true_or, Bool.or_false, Bool.false_or, z2, z3, Int.toNat_natCast, List.length_map, List.getElem?_map, List.getElem?_eq_getElem ha1, List.getElem?_eq_getElem ha2, k1, k2, List.length_set]
      refine ⟨k + 1, hkl, by omega, ?_⟩
      exact ForgetTo.same' (by simp) (by simp [EWe, Env.look, w64 (n := (lf : Int) - k - 1) (by omega) (by omega)]; try omega) (by simp [rowB, hst, stepR, k2, List.map_set, List.getElem?_eq_getElem ha1, wr])
  · have hke : k = lf := by have : ¬ 0 < (lf : Int) - k := by simpa using hd
                            omega
    rw [hke] at k1 ⊢
    have ht : ((iterR lf S0).1.map (D.int .i64)).take n = (iterR lf S0).1.map (D.int .i64) := List.take_of_length_le (by simp [k1])
    simp only [go_sem, Nat.reduceBEq, Nat.reduceEqDiff, Nat.reduceLT, Nat.reduceLeDiff, Nat.reduceAdd, Nat.reduceSub, Nat.reduceMul, reduceCtorEq, Int.reduceToNat, Int.reduceEq, Int.reduceLT, Int.reduceLE, Int.reduceNe, Int.reduceNeg , or_self, or_false, false_or , List.length_map, Bool.or_true, Bool.true_or, Bool.or_false, Bool.false_or, k1, ht]
    simp
end Go.Aw
end

section
namespace Go.Aw
open Go Go.Proofs Go.Proofs.Try

theorem getD_set_set {l : List Int} {j : Nat} (hj : j + 1 < l.length) (u v : Int) (a : Nat) : ((l.set (j + 1) u).set j v).getD a 0 = if a = j then v else if a = j + 1 then u else l.getD a 0 := by
  have e : ∀ x : List Int, x.getD a 0 = x[a]?.getD 0 := fun x => by simp
  rw [e, e, List.getElem?_set, List.getElem?_set]
  by_cases h1 : a = j
  · subst h1
    have : a < l.length := by omega
    simp [this]
  · rw [if_neg (Ne.symm h1), if_neg h1]
    by_cases h2 : a = j + 1
    · subst h2; simp [hj]
    · rw [if_neg (Ne.symm h2), if_neg h2]

theorem sink_sorted {T : Int → Int → Prop} {lt : Int → Int → Bool} (tr : ∀ x y z, T x y → T y z → T x z) (m : Nat) : ∀ (j : Nat) (l : List Int), j < l.length → j ≤ m →
    (∀ a b, a < b → b ≤ m → a ≠ j → b ≠ j → T (l.getD a 0) (l.getD b 0)) →
    (∀ b, j < b → b ≤ m → T (l.getD j 0) (l.getD b 0)) →
    (∀ a, a < j → (lt (l.getD j 0) (l.getD a 0) = true → T (l.getD j 0) (l.getD a 0)) ∧ (lt (l.getD j 0) (l.getD a 0) = false → T (l.getD a 0) (l.getD j 0))) →
    ∀ a b, a < b → b ≤ m → T ((sink lt j l).getD a 0) ((sink lt j l).getD b 0)
  | 0, l, _, _, h1, h2, _ => fun a b hab hb => by
    show T (l.getD a 0) (l.getD b 0)
    by_cases ha : a = 0
    · subst ha; exact h2 b hab hb
    · exact h1 a b hab hb ha (by omega)
  | j + 1, l, hl, hm, h1, h2, h3 => by
    simp only [sink]
    split
    · rename_i hlt
      have hv := (h3 j (by omega)).1 hlt
      refine sink_sorted tr m j _ (by simp; omega) (by omega) ?_ ?_ ?_
      · intro a b hab hb ha hbj
        rw [getD_set_set hl, getD_set_set hl, if_neg ha, if_neg hbj]
        by_cases ha1 : a = j + 1
        · rw [if_pos ha1, if_neg (by omega)]; exact h1 j b (by omega) hb (by omega) (by omega)
        · rw [if_neg ha1]
          by_cases hb1 : b = j + 1
          · rw [if_pos hb1]; exact h1 a j (by omega) (by omega) ha1 (by omega)
          · rw [if_neg hb1]; exact h1 a b hab hb ha1 hb1
      · intro b hb hbm
        rw [getD_set_set hl, getD_set_set hl, if_pos rfl, if_neg (by omega)]
        by_cases hb1 : b = j + 1
        · rw [if_pos hb1]; exact hv
        · rw [if_neg hb1]; exact h2 b (by omega) hbm
      · intro a ha
        rw [getD_set_set hl, getD_set_set hl, if_pos rfl, if_neg (by omega), if_neg (by omega)]
        exact h3 a (by omega)
    · rename_i hlt
      have hv := (h3 j (by omega)).2 (by simpa using hlt)
      intro a b hab hb
      by_cases ha : a = j + 1
      · subst ha; exact h2 b hab hb
      · by_cases hb1 : b = j + 1
        · subst hb1
          by_cases haj : a = j
          · subst haj; exact hv
          · exact tr _ _ _ (h1 a j (by omega) (by omega) ha (by omega)) hv
        · exact h1 a b hab hb ha hb1

theorem sink_keeps {lt : Int → Int → Bool} {x : Int} : ∀ (j : Nat) (l : List Int), j < l.length → (∃ a, a ≤ j ∧ l.getD a 0 = x) → ∃ a, a ≤ j ∧ (sink lt j l).getD a 0 = x
  | 0, _, _, h => h
  | j + 1, l, hl, ⟨a, ha, e⟩ => by
    simp only [sink]
    split
    · have far : ∀ (j : Nat) (l : List Int) (b : Nat), j < l.length → j < b → (sink lt j l).getD b 0 = l.getD b 0 := by
        intro j
        induction j with
        | zero => intros; rfl
        | succ j ih =>
          intro l b hl hb
          simp only [sink]
          split
          · rw [ih _ _ (by simp; omega) (by omega), getD_set_set hl, if_neg (by omega), if_neg (by omega)]
          · rfl
      by_cases haj : a = j
      · subst haj
        refine ⟨a + 1, Nat.le_refl _, ?_⟩
        rw [far _ _ _ (by simp; omega) (by omega), getD_set_set hl, if_neg (by omega), if_pos rfl, e]
      · obtain ⟨b, hb, eb⟩ := sink_keeps (lt := lt) (x := x) j ((l.set (j + 1) (l.getD j 0)).set j (l.getD (j + 1) 0)) (by simp; omega) (by
          by_cases ha1 : a = j + 1
          · subst ha1; exact ⟨j, Nat.le_refl _, by rw [getD_set_set hl, if_pos rfl, e]⟩
          · exact ⟨a, by omega, by rw [getD_set_set hl, if_neg haj, if_neg ha1, e]⟩)
        exact ⟨b, by omega, eb⟩
    · exact ⟨a, ha, e⟩

theorem sink_far {lt : Int → Int → Bool} : ∀ (j : Nat) (l : List Int) (b : Nat), j < l.length → j < b → (sink lt j l).getD b 0 = l.getD b 0
  | 0, _, _, _, _ => rfl
  | j + 1, l, b, hl, hb => by
    simp only [sink]
    split
    · rw [sink_far _ _ _ (by simp; omega) (by omega), getD_set_set hl, if_neg (by omega), if_neg (by omega)]
    · rfl

/-- The greater remainder first; among equals the earlier part. -/
def Bef (R : Nat → Int) (x y : Int) : Prop := R y.toNat < R x.toNat ∨ (R x.toNat = R y.toNat ∧ x < y)

theorem Bef.trans {R : Nat → Int} (x y z : Int) (h : Bef R x y) (k : Bef R y z) : Bef R x z := by
  unfold Bef at *; omega

theorem sink_le {lt : Int → Int → Bool} {p : Int → Prop} : ∀ (j : Nat) (l : List Int), j < l.length → (∀ a, a ≤ j → p (l.getD a 0)) → ∀ a, a ≤ j → p ((sink lt j l).getD a 0)
  | 0, _, _, h => h
  | j + 1, l, hl, h => by
    simp only [sink]
    split
    · intro a ha
      by_cases ha1 : a = j + 1
      · subst ha1
        rw [sink_far _ _ _ (by simp; omega) (by omega), getD_set_set hl, if_neg (by omega), if_pos rfl]
        exact h j (by omega)
      · refine sink_le j _ (by simp; omega) (fun a ha => ?_) a (by omega)
        rw [getD_set_set hl]
        by_cases haj : a = j
        · rw [if_pos haj]; exact h _ (Nat.le_refl _)
        · rw [if_neg haj, if_neg (by omega)]; exact h a (by omega)
    · exact h

theorem nats_getD {n i : Nat} (h : i < n) : (nats n).getD i 0 = i := by simp [nats, h]

theorem isort_spec (R : Nat → Int) (lt : Int → Int → Bool) (hlt : ∀ x y, lt x y = decide (R y.toNat < R x.toNat)) (n : Nat) : ∀ i, i < n →
    (∀ a b, a < b → b ≤ i → Bef R ((isortI lt (nats n) i).getD a 0) ((isortI lt (nats n) i).getD b 0)) ∧
    (∀ b, i < b → (isortI lt (nats n) i).getD b 0 = (nats n).getD b 0) ∧
    (∀ a, a ≤ i → ∃ k : Nat, k ≤ i ∧ (isortI lt (nats n) i).getD a 0 = k) ∧
    (∀ k : Nat, k ≤ i → ∃ a, a ≤ i ∧ (isortI lt (nats n) i).getD a 0 = k)
  | 0, h => ⟨fun a b _ _ => by omega, fun _ _ => rfl, fun a ha => ⟨0, Nat.le_refl _, by rw [Nat.le_zero.1 ha]; exact nats_getD h⟩, fun k hk => ⟨0, Nat.le_refl _, by rw [Nat.le_zero.1 hk]; exact nats_getD h⟩⟩
  | i + 1, h => by
    obtain ⟨h1, h2, h3, h4⟩ := isort_spec R lt hlt n i (by omega)
    have hl : (isortI lt (nats n) i).length = n := by rw [isortI_len]; simp [nats]
    have hv : (isortI lt (nats n) i).getD (i + 1) 0 = ((i + 1 : Nat) : Int) := by rw [h2 _ (by omega)]; exact nats_getD h
    rw [isortI_succ]
    generalize isortI lt (nats n) i = l at *
    refine ⟨?_, ?_, ?_, ?_⟩
    · refine sink_sorted (Bef.trans) (i + 1) (i + 1) l (by omega) (Nat.le_refl _) ?_ ?_ ?_
      · intro a b hab hb ha hb1; exact h1 a b hab (by omega)
      · intro b hb hb1; omega
      · intro a ha
        obtain ⟨k, hk, e⟩ := h3 a (by omega)
        rw [hv, e, hlt]
        simp only [Bef, decide_eq_true_eq, decide_eq_false_iff_not, Int.toNat_natCast]
        constructor <;> intro <;> omega
    · intro b hb; rw [sink_far _ _ _ (by omega) hb]; exact h2 b (by omega)
    · refine sink_le (p := fun x => ∃ k : Nat, k ≤ i + 1 ∧ x = k) (i + 1) l (by omega) fun a ha => ?_
      by_cases ha1 : a = i + 1
      · subst ha1; exact ⟨i + 1, Nat.le_refl _, hv⟩
      · obtain ⟨k, hk, e⟩ := h3 a (by omega); exact ⟨k, by omega, e⟩
    · intro k hk
      refine sink_keeps (i + 1) l (by omega) ?_
      by_cases hk1 : k = i + 1
      · subst hk1; exact ⟨i + 1, Nat.le_refl _, hv⟩
      · obtain ⟨a, ha, e⟩ := h4 k (by omega); exact ⟨a, by omega, e⟩

theorem argm_eq {l : List Int} {x : Nat} : ∀ i, x < i → (∀ j, j < i → l.getD j 0 ≤ l.getD x 0) → (∀ j, j < x → l.getD j 0 < l.getD x 0) → argm l i = x := by
  have spec : ∀ i, 0 < i → argm l i < i ∧ (∀ j, j < i → l.getD j 0 ≤ l.getD (argm l i) 0) ∧ (∀ j, j < argm l i → l.getD j 0 < l.getD (argm l i) 0) := by
    intro i
    induction i with
    | zero => intro h; omega
    | succ i ih =>
      intro _
      by_cases hi : i = 0
      · subst hi
        rw [show argm l (0 + 1) = 0 by simp [argm]]
        refine ⟨by omega, fun j hj => ?_, fun j hj => by omega⟩
        rw [show j = 0 by omega]; exact Int.le_refl _
      · obtain ⟨k1, k2, k3⟩ := ih (by omega)
        simp only [argm]
        split
        · rename_i hg
          refine ⟨by omega, fun j hj => ?_, fun j hj => ?_⟩
          · by_cases hji : j = i
            · rw [hji]; exact Int.le_refl _
            · have := k2 j (by omega); omega
          · have := k2 j hj; omega
        · rename_i hg
          refine ⟨by omega, fun j hj => ?_, k3⟩
          by_cases hji : j = i
          · rw [hji]; omega
          · exact k2 j (by omega)
  intro i hx h1 h2
  obtain ⟨k1, k2, k3⟩ := spec i (by omega)
  have a1 := k2 x hx
  have a2 := h1 _ k1
  rcases Nat.lt_trichotomy (argm l i) x with h | h | h
  · have := h2 _ h; omega
  · exact h
  · have := k3 _ h; omega

theorem iter_eq {Q0 R0 order : List Int} {n : Nat} (hn : 0 < n) (hR : R0.length = n) (ho : order.length = n) (hr : ∀ i, i < n → 0 ≤ R0.getD i 0)
    (hb : ∀ a b, a < b → b < n → Bef (fun i => R0.getD i 0) (order.getD a 0) (order.getD b 0)) (hin : ∀ a, a < n → ∃ k : Nat, k < n ∧ order.getD a 0 = k) (hon : ∀ k : Nat, k < n → ∃ a, a < n ∧ order.getD a 0 = k) :
    ∀ k, k ≤ n → (iterR k (Q0, R0)).1 = incL Q0 (order.take k) ∧ (iterR k (Q0, R0)).2.length = n ∧ (∀ a, a < n → (iterR k (Q0, R0)).2.getD (order.getD a 0).toNat 0 = if a < k then -1 else R0.getD (order.getD a 0).toNat 0)
  | 0, _ => ⟨rfl, hR, fun a ha => by simp [iterR]⟩
  | k + 1, hk => by
    obtain ⟨h1, h2, h3⟩ := iter_eq hn hR ho hr hb hin hon k (by omega)
    obtain ⟨x, hx, ex⟩ := hin k (by omega)
    have hsx : (iterR k (Q0, R0)).2.getD x 0 = R0.getD x 0 := by
      have := h3 k (by omega)
      rw [ex, if_neg (by omega)] at this; simpa using this
    have key : argm (iterR k (Q0, R0)).2 n = x := by
      have all : ∀ j, j < n → j ≠ x → (iterR k (Q0, R0)).2.getD j 0 ≤ R0.getD x 0 ∧ (j < x → (iterR k (Q0, R0)).2.getD j 0 < R0.getD x 0) := by
        intro j hj hjx
        obtain ⟨b, hbn, eb⟩ := hon j hj
        have hj3 := h3 b hbn
        rw [eb, Int.toNat_natCast] at hj3
        have hx0 := hr x hx
        by_cases hbk : b < k
        · rw [if_pos hbk] at hj3; rw [hj3]; omega
        · rw [if_neg hbk] at hj3
          have hbk2 : b ≠ k := by rintro rfl; rw [eb] at ex; omega
          have := hb k b (by omega) hbn
          rw [ex, eb] at this
          simp only [Bef, Int.toNat_natCast] at this
          rw [hj3]; omega
      refine argm_eq n hx (fun j hj => ?_) (fun j hj => ?_)
      · rw [hsx]
        by_cases hjx : j = x
        · rw [hjx, hsx]; exact Int.le_refl _
        · exact (all j hj hjx).1
      · rw [hsx]; exact (all j (by omega) (by omega)).2 hj
    have hst : iterR (k + 1) (Q0, R0) = stepR (iterR k (Q0, R0)) := rfl
    rw [hst]
    simp only [stepR, h2, key]
    refine ⟨?_, by simp [h2], fun a ha => ?_⟩
    · have hko : k < order.length := by omega
      rw [incL_succ hko, h1]
      rw [show order[k] = (x : Int) by rw [← ex, getD_eq hko]]
      simp
    · obtain ⟨y, hy, ey⟩ := hin a ha
      have hy3 := h3 a ha
      rw [ey, Int.toNat_natCast] at hy3 ⊢
      rw [show ∀ l : List Int, l.getD y 0 = l[y]?.getD 0 from fun l => by simp, List.getElem?_set]
      have hxy : x = y ↔ a = k := by
        constructor
        · rintro rfl
          rcases Nat.lt_trichotomy a k with h | h | h
          · have := hb a k h (by omega); rw [ex, ey] at this; simp only [Bef, Int.toNat_natCast] at this; omega
          · exact h
          · have := hb k a h ha; rw [ex, ey] at this; simp only [Bef, Int.toNat_natCast] at this; omega
        · rintro rfl; rw [ex] at ey; omega
      by_cases hak : a = k
      · have := hxy.2 hak
        subst this
        rw [if_pos rfl, if_pos (by omega), if_pos (by omega)]; rfl
      · rw [if_neg fun h => hak (hxy.1 h)]
        have : (iterR k (Q0, R0)).2[y]?.getD 0 = (iterR k (Q0, R0)).2.getD y 0 := by simp
        rw [this, hy3]
        by_cases hlt : a < k
        · rw [if_pos hlt, if_pos (by omega)]
        · rw [if_neg hlt, if_neg (by omega)]
end Go.Aw
end

section
namespace Go.Aw
open Go Go.Proofs Go.Proofs.Try

theorem lost_eq {pence : Int} {parts : List Int} (h : PartsOk pence parts) (hs : 0 < parts.sum) {i : Nat} (hi : i < parts.length) : lostW pence parts.sum parts i = remW pence parts.sum parts i := by
  obtain ⟨m1, m2, m3, _, _, m4, m5⟩ := quo_rem h hs hi
  have hp := h.part _ (List.getElem_mem hi)
  have h0 : 0 ≤ pence * parts[i] := Int.mul_nonneg h.p0 hp.1
  have h1 : pence * parts[i] ≤ 100000000 := by
    calc pence * parts[i] ≤ 100000 * parts[i] := Int.mul_le_mul_of_nonneg_right h.p1 hp.1
      _ ≤ 100000000 := by omega
  have e1 : wr (pence * parts[i]) = pence * parts[i] := w64 (by omega) (by omega)
  have hq : qW pence parts.sum parts i * parts.sum = pence * parts[i] - remW pence parts.sum parts i := by rw [Int.mul_comm]; omega
  have hr := (sumP_eq h).2.2
  have e2 : wr (qW pence parts.sum parts i * parts.sum) = qW pence parts.sum parts i * parts.sum := w64 (by omega) (by omega)
  rw [lostW, getD_eq hi, e1, e2, hq]
  rw [show pence * parts[i] - (pence * parts[i] - remW pence parts.sum parts i) = remW pence parts.sum parts i by omega]
  exact w64 (by omega) (by omega)

theorem cmpI_lt (x y : Int) : decide (cmpI x y < 0) = decide (x < y) := by
  unfold cmpI
  split
  · simp_all
  · split <;> simp_all

theorem shares_eq {pence : Int} {parts : List Int} (h : PartsOk pence parts) (hs : 0 < parts.sum) : sharesW pence parts.sum parts = shareR pence parts := by
  have hlf := leftN_lt h hs
  have hl0 : 0 < parts.length := by
    rcases parts with _ | _
    · simp at hs
    · simp
  have hlm : (List.range parts.length).map (lostW pence parts.sum parts) = (List.range parts.length).map (remW pence parts.sum parts) := by
    apply List.map_congr_left
    intro i hi; exact lost_eq h hs (List.mem_range.1 hi)
  have hrd : ∀ i, i < parts.length → ((List.range parts.length).map (remW pence parts.sum parts)).getD i 0 = remW pence parts.sum parts i := fun i hi => getD_range hi
  obtain ⟨s1, s2, s3, s4⟩ := isort_spec (remW pence parts.sum parts) (ltW pence parts.sum parts) (fun x y => cmpI_lt _ _) parts.length (parts.length - 1) (by omega)
  have hin : ∀ a, a < parts.length → ∃ k : Nat, k < parts.length ∧ (orderW pence parts.sum parts).getD a 0 = k := fun a ha => by
    obtain ⟨k, hk, e⟩ := s3 a (by omega); exact ⟨k, by omega, e⟩
  have it := iter_eq (Q0 := (List.range parts.length).map (qW pence parts.sum parts)) (R0 := (List.range parts.length).map (remW pence parts.sum parts)) (order := orderW pence parts.sum parts) (n := parts.length) hl0 (by simp) (order_len _ _ _)
    (fun i hi => by rw [hrd i hi]; exact (quo_rem h hs hi).2.1)
    (fun a b hab hb => by
      obtain ⟨x, hx, ex⟩ := hin a (by omega)
      obtain ⟨y, hy, ey⟩ := hin b hb
      have := s1 a b hab (by omega)
      rw [show isortI (ltW pence parts.sum parts) (nats parts.length) (parts.length - 1) = orderW pence parts.sum parts from rfl, ex, ey] at this
      rw [ex, ey]
      simp only [Bef, Int.toNat_natCast] at this ⊢
      rw [hrd x hx, hrd y hy]; exact this)
    hin (fun k hk => by obtain ⟨a, ha, e⟩ := s4 k (by omega); exact ⟨a, by omega, e⟩)
    (leftN pence parts.sum parts parts.length).toNat (by omega)
  rw [shareR, hlm, it.1]; rfl

theorem any_pos : ∀ (l : List Int), (∀ p ∈ l, 0 ≤ p) → ((l.any fun p => decide (p > 0)) = true ↔ l.sum ≠ 0)
  | [], _ => by simp
  | p :: r, h => by
    have ih := any_pos r fun q hq => h q (List.mem_cons_of_mem _ hq)
    have h0 := h p (by simp)
    have h1 := sum_nonneg r fun q hq => h q (List.mem_cons_of_mem _ hq)
    rw [List.any_cons, Bool.or_eq_true, ih, List.sum_cons, decide_eq_true_eq]
    omega

theorem inR_iff (n a b : Int) : inR n a b = true ↔ a ≤ n ∧ n ≤ b := by simp [inR]

theorem within_iff (a b : Int) (l : List Int) : within a b l = true ↔ ∀ n ∈ l, a ≤ n ∧ n ≤ b := by
  constructor
  · exact within_all
  · intro h
    simp [within]
    intro x hx
    have := h x hx; omega

/-- What the program answers, in the reference's words. -/
theorem shareP_eq (pence : Int) (parts : List Int) : (shareP pence parts).2 = partsR pence parts ∧ (partsR pence parts ≠ 0 → (shareP pence parts).1 = []) ∧
    (partsR pence parts = 0 → PartsOk pence parts ∧ 0 < parts.sum ∧ (shareP pence parts).1 = shareR pence parts) := by
  by_cases h1 : 0 ≤ pence ∧ pence ≤ 100000
  · have w1 : within 0 100000 [pence] = true := (within_iff _ _ _).2 (by simpa using h1)
    have i1 : inR pence 0 100000 = true := (inR_iff _ _ _).2 h1
    by_cases h2 : ∀ p ∈ parts, 0 ≤ p ∧ p ≤ 1000
    · have w2 : within 0 1000 parts = true := (within_iff _ _ _).2 h2
      have i2 : parts.any (fun p => !inR p 0 1000) = false := by
        rw [List.any_eq_false]; intro p hp; simp [(inR_iff _ _ _).2 (h2 p hp)]
      by_cases h3 : parts.length ≤ 6
      · have ok : PartsOk pence parts := ⟨h1.1, h1.2, h3, h2⟩
        obtain ⟨e1, e2, e3⟩ := sumP_eq ok
        have ap := any_pos parts fun p hp => (h2 p hp).1
        by_cases h4 : parts.sum = 0
        · have a4 : (parts.any fun p => decide (p > 0)) = false := by rw [Bool.eq_false_iff]; intro h; exact ap.1 h h4
          simp [shareP, partsR, w1, i1, w2, i2, e1, h4, a4]
        · have a4 := ap.2 h4
          have hl0 : 0 < parts.length := by
            rcases parts with _ | _
            · simp at h4
            · simp
          have w3 : within 1 6 [(parts.length : Int)] = true := (within_iff _ _ _).2 (by simp; omega)
          have l6 : ¬ parts.length > 6 := by omega
          have hpr : partsR pence parts = 0 := by simp only [partsR, i1, i2, a4]; simp [l6]
          have hsp : shareP pence parts = (sharesW pence parts.sum parts, 0) := by simp [shareP, w1, w2, w3, e1, h4]
          rw [hpr, hsp]
          exact ⟨rfl, fun h => absurd rfl h, fun _ => ⟨ok, by omega, shares_eq ok (by omega)⟩⟩
      · have w3 : within 1 6 [(parts.length : Int)] = false := by
          rw [Bool.eq_false_iff]; intro h; have := (within_iff _ _ _).1 h (parts.length : Int) (by simp); omega
        have l6 : parts.length > 6 := by omega
        simp [shareP, partsR, w1, i1, w3, i2, l6]
    · have w2 : within 0 1000 parts = false := by rw [Bool.eq_false_iff]; intro h; exact h2 ((within_iff _ _ _).1 h)
      have i2 : parts.any (fun p => !inR p 0 1000) = true := by
        rw [← Bool.not_eq_false, List.any_eq_false]
        intro h; apply h2; intro p hp
        have := h p hp
        simp only [Bool.not_eq_true', Bool.not_eq_false] at this
        exact (inR_iff _ _ _).1 this
      simp [shareP, partsR, w1, i1, w2, i2]
  · have w1 : within 0 100000 [pence] = false := by rw [Bool.eq_false_iff]; intro h; exact h1 ((within_iff _ _ _).1 h pence (by simp))
    have i1 : inR pence 0 100000 = false := by rw [Bool.eq_false_iff]; intro h; exact h1 ((inR_iff _ _ _).1 h)
    simp [shareP, partsR, w1, i1]

theorem incLen (xs l : List Int) : (incL l xs).length = l.length := incL_len xs l

theorem c7 (pence : Int) (parts : List Int) : PC prog 7 [.d (.int .i64 pence), .d (.sl (parts.map (.int .i64)))] (.d (.bool true)) := by
  refine PC.run (fun _ => false) tt_ok (fn := f7) (rs := [.tmp 4]) rfl rfl rfl rfl rfl rfl rfl ?_
  simp only [go_sem, Nat.reduceBEq, Nat.reduceEqDiff, Nat.reduceLT, Nat.reduceLeDiff, Nat.reduceAdd, Nat.reduceSub, Nat.reduceMul, reduceCtorEq, Int.reduceToNat, Int.reduceEq, Int.reduceLT, Int.reduceLE, Int.reduceNe, Int.reduceNeg , or_self, or_false, false_or , List.length_map]
  refine Br_split (fun h1 => ?_) (fun h1 => ?_) <;> simp only [go_sem, Nat.reduceBEq, Nat.reduceEqDiff, Nat.reduceLT, Nat.reduceLeDiff, Nat.reduceAdd, Nat.reduceSub, Nat.reduceMul, reduceCtorEq, Int.reduceToNat, Int.reduceEq, Int.reduceLT, Int.reduceLE, Int.reduceNe, Int.reduceNeg , or_self, or_false, false_or , List.length_map, h1]
  · refine c14.call rfl rfl rfl ?_
    simp only [go_sem, Nat.reduceBEq, Nat.reduceEqDiff, Nat.reduceLT, Nat.reduceLeDiff, Nat.reduceAdd, Nat.reduceSub, Nat.reduceMul, reduceCtorEq, Int.reduceToNat, Int.reduceEq, Int.reduceLT, Int.reduceLE, Int.reduceNe, Int.reduceNeg , or_self, or_false, false_or , List.length_map]
  have hl : parts.length ≤ 20 := by simp at h1; omega
  have hl2 : parts.length ≤ 4294967296 := by omega
  obtain ⟨e1, e2, e3⟩ := shareP_eq pence parts
  have hsz : sized 1 (parts.map (D.int .i64)) = true := by simp [sized, dcells]
  simp only [go_sem, Nat.reduceBEq, Nat.reduceEqDiff, Nat.reduceLT, Nat.reduceLeDiff, Nat.reduceAdd, Nat.reduceSub, Nat.reduceMul, reduceCtorEq, Int.reduceToNat, Int.reduceEq, Int.reduceLT, Int.reduceLE, Int.reduceNe, Int.reduceNeg , or_self, or_false, false_or , List.length_map, hl2, hsz]
  refine (c42 pence parts hl2).call rfl rfl rfl ?_
  simp only [go_sem, Nat.reduceBEq, Nat.reduceEqDiff, Nat.reduceLT, Nat.reduceLeDiff, Nat.reduceAdd, Nat.reduceSub, Nat.reduceMul, reduceCtorEq, Int.reduceToNat, Int.reduceEq, Int.reduceLT, Int.reduceLE, Int.reduceNe, Int.reduceNeg , or_self, or_false, false_or , List.length_map]
  refine (c28 parts parts hl2 hl2).call rfl rfl rfl ?_
  simp only [go_sem, Nat.reduceBEq, Nat.reduceEqDiff, Nat.reduceLT, Nat.reduceLeDiff, Nat.reduceAdd, Nat.reduceSub, Nat.reduceMul, reduceCtorEq, Int.reduceToNat, Int.reduceEq, Int.reduceLT, Int.reduceLE, Int.reduceNe, Int.reduceNeg , or_self, or_false, false_or , List.length_map]
  refine (c43 pence parts hl2).call rfl rfl rfl ?_
  simp only [go_sem, Nat.reduceBEq, Nat.reduceEqDiff, Nat.reduceLT, Nat.reduceLeDiff, Nat.reduceAdd, Nat.reduceSub, Nat.reduceMul, reduceCtorEq, Int.reduceToNat, Int.reduceEq, Int.reduceLT, Int.reduceLE, Int.reduceNe, Int.reduceNeg , or_self, or_false, false_or , List.length_map]
  by_cases hz : partsR pence parts = 0
  · obtain ⟨ok, hs, f3⟩ := e3 hz
    have hle : (shareR pence parts).length ≤ 4294967296 := by
      rw [shareR, (iterR_len _ _).1]; simp; omega
    simp only [go_sem, Nat.reduceBEq, Nat.reduceEqDiff, Nat.reduceLT, Nat.reduceLeDiff, Nat.reduceAdd, Nat.reduceSub, Nat.reduceMul, reduceCtorEq, Int.reduceToNat, Int.reduceEq, Int.reduceLT, Int.reduceLE, Int.reduceNe, Int.reduceNeg , or_self, or_false, false_or , List.length_map, hz, e1, f3]
    refine (c44 ok hs).call rfl rfl rfl ?_
    simp only [go_sem, Nat.reduceBEq, Nat.reduceEqDiff, Nat.reduceLT, Nat.reduceLeDiff, Nat.reduceAdd, Nat.reduceSub, Nat.reduceMul, reduceCtorEq, Int.reduceToNat, Int.reduceEq, Int.reduceLT, Int.reduceLE, Int.reduceNe, Int.reduceNeg , or_self, or_false, false_or , List.length_map]
    refine (c28 (shareR pence parts) (shareR pence parts) hle hle).call rfl rfl rfl ?_
    simp only [go_sem, Nat.reduceBEq, Nat.reduceEqDiff, Nat.reduceLT, Nat.reduceLeDiff, Nat.reduceAdd, Nat.reduceSub, Nat.reduceMul, reduceCtorEq, Int.reduceToNat, Int.reduceEq, Int.reduceLT, Int.reduceLE, Int.reduceNe, Int.reduceNeg , or_self, or_false, false_or , List.length_map]
    refine c14.call rfl rfl rfl ?_
    simp only [go_sem, Nat.reduceBEq, Nat.reduceEqDiff, Nat.reduceLT, Nat.reduceLeDiff, Nat.reduceAdd, Nat.reduceSub, Nat.reduceMul, reduceCtorEq, Int.reduceToNat, Int.reduceEq, Int.reduceLT, Int.reduceLE, Int.reduceNe, Int.reduceNeg , or_self, or_false, false_or , List.length_map]
  · have f2 := e2 hz
    have z0 : ((0 : Nat) : Int) = 0 := rfl
    simp only [go_sem, Nat.reduceBEq, Nat.reduceEqDiff, Nat.reduceLT, Nat.reduceLeDiff, Nat.reduceAdd, Nat.reduceSub, Nat.reduceMul, reduceCtorEq, Int.reduceToNat, Int.reduceEq, Int.reduceLT, Int.reduceLE, Int.reduceNe, Int.reduceNeg , or_self, or_false, false_or , List.length_map, hz, e1, f2, z0]
    refine c14.call rfl rfl rfl ?_
    simp only [go_sem, Nat.reduceBEq, Nat.reduceEqDiff, Nat.reduceLT, Nat.reduceLeDiff, Nat.reduceAdd, Nat.reduceSub, Nat.reduceMul, reduceCtorEq, Int.reduceToNat, Int.reduceEq, Int.reduceLT, Int.reduceLE, Int.reduceNe, Int.reduceNeg , or_self, or_false, false_or , List.length_map]
end Go.Aw
end

section
namespace Go.Aw
open Go Go.Proofs Go.Proofs.Try

theorem c37w (n a b : Int) : PC prog 37 [.d (.int .i64 n), .d (.int .i64 a), .d (.int .i64 b)] (.d (.bool (within a b [n]))) := by
  have : within a b [n] = (decide (n ≥ a) && decide (n ≤ b)) := by
    rw [Bool.eq_iff_iff, within_iff]; simp
  rw [this]; exact c37 n a b

theorem c69w (s : Sp) : PC prog 69 [.d s.d, .d (.int .i64 0), .d (.int .i64 50)] (.d (.bool (within 0 50 [s.lo, s.hi] && decide (s.lo ≤ s.hi)))) := by
  have : (within 0 50 [s.lo, s.hi] && decide (s.lo ≤ s.hi)) = (decide (s.lo ≥ 0) && decide (s.lo ≤ s.hi) && decide (s.hi ≤ 50)) := by
    rw [Bool.eq_iff_iff]
    simp only [Bool.and_eq_true, within_iff, decide_eq_true_eq, List.mem_cons, List.not_mem_nil, or_false, forall_eq_or_imp, forall_eq]
    try omega
  rw [this]; exact c69 s 0 50

theorem any_take {α : Type} {l : List α} {i : Nat} (h : i < l.length) (f : α → Bool) : (l.take (i + 1)).any f = ((l.take i).any f || f l[i]) := by
  rw [List.take_succ_eq_append_getElem h, List.any_append]; simp

theorem any_at {α : Type} {l : List α} {i : Nat} (h : i < l.length) {f : α → Bool} (hf : f l[i] = true) : l.any f = true :=
  List.any_eq_true.2 ⟨l[i], List.getElem_mem h, hf⟩

theorem within_any (a b : Int) (l : List Int) : within a b l = !l.any (fun n => !within a b [n]) := by
  rw [Bool.eq_iff_iff, within_iff]
  simp [within_iff]

theorem c19 (b : Book) (hb : b.Fits) : PC prog 19 [.d b.d] (.d (.int .i64 (checkP b))) := by
  have hs := hb.stock
  refine PC.run (fun _ => false) tt_ok (fn := f19) (rs := [.tmp 2]) rfl rfl rfl rfl rfl rfl rfl ?_
  simp only [go_sem, Nat.reduceBEq, Nat.reduceEqDiff, Nat.reduceLT, Nat.reduceLeDiff, Nat.reduceAdd, Nat.reduceSub, Nat.reduceMul, reduceCtorEq, Int.reduceToNat, Int.reduceEq, Int.reduceLT, Int.reduceLE, Int.reduceNe, Int.reduceNeg , or_self, or_false, false_or , List.length_map, Book.d]
  refine (c37w (b.stock.length : Int) 1 4).call rfl rfl rfl ?_
  simp only [go_sem, Nat.reduceBEq, Nat.reduceEqDiff, Nat.reduceLT, Nat.reduceLeDiff, Nat.reduceAdd, Nat.reduceSub, Nat.reduceMul, reduceCtorEq, Int.reduceToNat, Int.reduceEq, Int.reduceLT, Int.reduceLE, Int.reduceNe, Int.reduceNeg , or_self, or_false, false_or , List.length_map]
  refine Br_split (fun h1 => ?_) (fun h1 => ?_) <;> simp only [go_sem, Nat.reduceBEq, Nat.reduceEqDiff, Nat.reduceLT, Nat.reduceLeDiff, Nat.reduceAdd, Nat.reduceSub, Nat.reduceMul, reduceCtorEq, Int.reduceToNat, Int.reduceEq, Int.reduceLT, Int.reduceLE, Int.reduceNe, Int.reduceNeg , or_self, or_false, false_or , List.length_map, h1]
  · have h1' : (!within 1 4 [(b.stock.length : Int)]) = true := h1
    simp [checkP, h1']
  have h1' : (!within 1 4 [(b.stock.length : Int)]) = false := h1
  have hb4 := within_one (by simpa using h1')
  refine ALoop.by (S := Nat) (fun i => [(4, .d (.int .i64 i)), (3, .d (.int .i64 b.stock.length)), (1, .ptr 0 0)]) (fun _ => [.cells (bookV b)]) (fun i => b.stock.length - i) (fun i => i ≤ b.stock.length ∧ (b.stock.take i).any (fun n => !within 0 10000 [n]) = false) 0 (by simp) (fun _ h => nomatch h) ⟨Nat.zero_le _, rfl⟩ ?_ ?_
  · exact ForgetTo.same' (by simp) (by simp [EWe, Env.look]) (by simp [bookV])
  rintro i ⟨hi, hx⟩ hn
  refine AWP.run (fun _ => false) tt_ok (fun _ h => nomatch h) (by simp) rfl ?_
  simp only [go_sem, Nat.reduceBEq, Nat.reduceEqDiff, Nat.reduceLT, Nat.reduceLeDiff, Nat.reduceAdd, Nat.reduceSub, Nat.reduceMul, reduceCtorEq, Int.reduceToNat, Int.reduceEq, Int.reduceLT, Int.reduceLE, Int.reduceNe, Int.reduceNeg , or_self, or_false, false_or , List.length_map, bookV]
  refine Br_split (fun hd => ?_) (fun hd => ?_) <;> simp only [go_sem, Nat.reduceBEq, Nat.reduceEqDiff, Nat.reduceLT, Nat.reduceLeDiff, Nat.reduceAdd, Nat.reduceSub, Nat.reduceMul, reduceCtorEq, Int.reduceToNat, Int.reduceEq, Int.reduceLT, Int.reduceLE, Int.reduceNe, Int.reduceNeg , or_self, or_false, false_or , List.length_map, hd]
  · have hlt : i < b.stock.length := by simpa using hd
    simp only [go_sem, Nat.reduceBEq, Nat.reduceEqDiff, Nat.reduceLT, Nat.reduceLeDiff, Nat.reduceAdd, Nat.reduceSub, Nat.reduceMul, reduceCtorEq, Int.reduceToNat, Int.reduceEq, Int.reduceLT, Int.reduceLE, Int.reduceNe, Int.reduceNeg , or_self, or_false, false_or , List.length_map, idx_nat, List.getElem?_map, List.getElem?_eq_getElem hlt]
    refine (c37w b.stock[i] 0 10000).call rfl rfl rfl ?_
    simp only [go_sem, Nat.reduceBEq, Nat.reduceEqDiff, Nat.reduceLT, Nat.reduceLeDiff, Nat.reduceAdd, Nat.reduceSub, Nat.reduceMul, reduceCtorEq, Int.reduceToNat, Int.reduceEq, Int.reduceLT, Int.reduceLE, Int.reduceNe, Int.reduceNeg , or_self, or_false, false_or , List.length_map]
    refine Br_split (fun he => ?_) (fun he => ?_) <;> simp only [go_sem, Nat.reduceBEq, Nat.reduceEqDiff, Nat.reduceLT, Nat.reduceLeDiff, Nat.reduceAdd, Nat.reduceSub, Nat.reduceMul, reduceCtorEq, Int.reduceToNat, Int.reduceEq, Int.reduceLT, Int.reduceLE, Int.reduceNe, Int.reduceNeg , or_self, or_false, false_or , List.length_map, he]
    · have he' : (!within 0 10000 [b.stock[i]]) = true := he
      have hbad : within 0 10000 b.stock = false := by rw [within_any, any_at hlt he']; rfl
      simp [checkP, hbad]
    · have he' : (!within 0 10000 [b.stock[i]]) = false := he
      refine ⟨i + 1, ⟨hlt, by rw [any_take hlt, hx, he']; rfl⟩, by omega, ?_⟩
      exact ForgetTo.same' (by simp) (by simp [EWe, Env.look, w64 (n := (i : Int) + 1) (by omega) (by omega)]) (by simp [bookV])
  have hnl : ¬ i < b.stock.length := by simpa using hd
  rw [List.take_of_length_le (by omega)] at hx
  have h2 : within 0 10000 b.stock = true := by rw [within_any, hx]; rfl
  clear hd hnl hx hn
  refine Br_split (fun h3 => ?_) (fun h3 => ?_) <;> simp only [go_sem, Nat.reduceBEq, Nat.reduceEqDiff, Nat.reduceLT, Nat.reduceLeDiff, Nat.reduceAdd, Nat.reduceSub, Nat.reduceMul, reduceCtorEq, Int.reduceToNat, Int.reduceEq, Int.reduceLT, Int.reduceLE, Int.reduceNe, Int.reduceNeg , or_self, or_false, false_or , List.length_map, h3]
  · have : b.ents.length > 12 := by simp at h3; omega
    simp [checkP, h1', h2, this]
  refine Br_split (fun h4 => ?_) (fun h4 => ?_) <;> simp only [go_sem, Nat.reduceBEq, Nat.reduceEqDiff, Nat.reduceLT, Nat.reduceLeDiff, Nat.reduceAdd, Nat.reduceSub, Nat.reduceMul, reduceCtorEq, Int.reduceToNat, Int.reduceEq, Int.reduceLT, Int.reduceLE, Int.reduceNe, Int.reduceNeg , or_self, or_false, false_or , List.length_map, h4]
  · have : b.recs.length > 3 := by simp at h4; omega
    simp [checkP, h1', h2, this]
  refine Br_split (fun h5 => ?_) (fun h5 => ?_) <;> simp only [go_sem, Nat.reduceBEq, Nat.reduceEqDiff, Nat.reduceLT, Nat.reduceLeDiff, Nat.reduceAdd, Nat.reduceSub, Nat.reduceMul, reduceCtorEq, Int.reduceToNat, Int.reduceEq, Int.reduceLT, Int.reduceLE, Int.reduceNe, Int.reduceNeg , or_self, or_false, false_or , List.length_map, h5]
  · have : b.made.length > 8 := by simp at h5; omega
    simp [checkP, h1', h2, this]
  have h3' : ¬ b.ents.length > 12 := by simp at h3; omega
  have h4' : ¬ b.recs.length > 3 := by simp at h4; omega
  have h5' : ¬ b.made.length > 8 := by simp at h5; omega
  have hch : checkP b = if (b.ents.any (badEnt b.stock.length) || (b.recs.any (badRec b.stock.length) || b.made.any (badMad b.recs.length))) = true then 2 else 0 := by
    unfold checkP
    rw [if_neg (by simp [h1', h2]), if_neg (by simp; omega)]
  rw [hch]
  clear hch
  refine ALoop.by (S := Nat) (fun i => [(5, .d (.int .i64 i)), (3, .d (.int .i64 b.stock.length)), (1, .ptr 0 0)]) (fun _ => [.cells (bookV b)]) (fun i => b.ents.length - i) (fun i => i ≤ b.ents.length ∧ (b.ents.take i).any (badEnt b.stock.length) = false) 0 (by simp) (fun _ h => nomatch h) ⟨Nat.zero_le _, rfl⟩ ?_ ?_
  · exact ForgetTo.same' (by simp) (by simp [EWe, Env.look]) (by simp [bookV])
  rintro i ⟨hi, hx⟩ hn
  refine AWP.run (fun _ => false) tt_ok (fun _ h => nomatch h) (by simp) rfl ?_
  simp only [go_sem, Nat.reduceBEq, Nat.reduceEqDiff, Nat.reduceLT, Nat.reduceLeDiff, Nat.reduceAdd, Nat.reduceSub, Nat.reduceMul, reduceCtorEq, Int.reduceToNat, Int.reduceEq, Int.reduceLT, Int.reduceLE, Int.reduceNe, Int.reduceNeg , or_self, or_false, false_or , List.length_map, bookV]
  refine Br_split (fun hd => ?_) (fun hd => ?_) <;> simp only [go_sem, Nat.reduceBEq, Nat.reduceEqDiff, Nat.reduceLT, Nat.reduceLeDiff, Nat.reduceAdd, Nat.reduceSub, Nat.reduceMul, reduceCtorEq, Int.reduceToNat, Int.reduceEq, Int.reduceLT, Int.reduceLE, Int.reduceNe, Int.reduceNeg , or_self, or_false, false_or , List.length_map, hd]
  · have hlt : i < b.ents.length := by simpa using hd
    simp only [go_sem, Nat.reduceBEq, Nat.reduceEqDiff, Nat.reduceLT, Nat.reduceLeDiff, Nat.reduceAdd, Nat.reduceSub, Nat.reduceMul, reduceCtorEq, Int.reduceToNat, Int.reduceEq, Int.reduceLT, Int.reduceLE, Int.reduceNe, Int.reduceNeg , or_self, or_false, false_or , List.length_map, idx_nat, List.getElem?_map, List.getElem?_eq_getElem hlt, Ent.d]
    have kb : badEnt b.stock.length b.ents[i] = true → b.ents.any (badEnt b.stock.length) = true := any_at hlt
    have kn : badEnt b.stock.length b.ents[i] = false → (b.ents.take (i + 1)).any (badEnt b.stock.length) = false := fun h => by rw [any_take hlt, hx, h]; rfl
    refine (c37w b.ents[i].day 0 365).call rfl rfl rfl ?_
    simp only [go_sem, Nat.reduceBEq, Nat.reduceEqDiff, Nat.reduceLT, Nat.reduceLeDiff, Nat.reduceAdd, Nat.reduceSub, Nat.reduceMul, reduceCtorEq, Int.reduceToNat, Int.reduceEq, Int.reduceLT, Int.reduceLE, Int.reduceNe, Int.reduceNeg , or_self, or_false, false_or , List.length_map]
    refine Br_split (fun e1 => ?_) (fun e1 => ?_) <;> simp only [go_sem, Nat.reduceBEq, Nat.reduceEqDiff, Nat.reduceLT, Nat.reduceLeDiff, Nat.reduceAdd, Nat.reduceSub, Nat.reduceMul, reduceCtorEq, Int.reduceToNat, Int.reduceEq, Int.reduceLT, Int.reduceLE, Int.reduceNe, Int.reduceNeg , or_self, or_false, false_or , List.length_map, e1]
    · have e1' : (!within 0 365 [b.ents[i].day]) = true := e1
      simp [kb (by simp only [badEnt, e1', Bool.true_or])]
    have e1' : (!within 0 365 [b.ents[i].day]) = false := e1
    refine (c37w b.ents[i].goods 0 (IntKind.i64.wrap ((b.stock.length : Int) - 1))).call rfl rfl rfl ?_
    simp only [go_sem, Nat.reduceBEq, Nat.reduceEqDiff, Nat.reduceLT, Nat.reduceLeDiff, Nat.reduceAdd, Nat.reduceSub, Nat.reduceMul, reduceCtorEq, Int.reduceToNat, Int.reduceEq, Int.reduceLT, Int.reduceLE, Int.reduceNe, Int.reduceNeg , or_self, or_false, false_or , List.length_map]
    refine Br_split (fun e2 => ?_) (fun e2 => ?_) <;> simp only [go_sem, Nat.reduceBEq, Nat.reduceEqDiff, Nat.reduceLT, Nat.reduceLeDiff, Nat.reduceAdd, Nat.reduceSub, Nat.reduceMul, reduceCtorEq, Int.reduceToNat, Int.reduceEq, Int.reduceLT, Int.reduceLE, Int.reduceNe, Int.reduceNeg , or_self, or_false, false_or , List.length_map, e2]
    · have e2' : (!within 0 (IntKind.i64.wrap ((b.stock.length : Int) - 1)) [b.ents[i].goods]) = true := e2
      simp [kb (by simp only [badEnt, e2', Bool.true_or, Bool.or_true])]
    have e2' : (!within 0 (IntKind.i64.wrap ((b.stock.length : Int) - 1)) [b.ents[i].goods]) = false := e2
    refine (c37w b.ents[i].amount (-1000) 1000).call rfl rfl rfl ?_
    simp only [go_sem, Nat.reduceBEq, Nat.reduceEqDiff, Nat.reduceLT, Nat.reduceLeDiff, Nat.reduceAdd, Nat.reduceSub, Nat.reduceMul, reduceCtorEq, Int.reduceToNat, Int.reduceEq, Int.reduceLT, Int.reduceLE, Int.reduceNe, Int.reduceNeg , or_self, or_false, false_or , List.length_map]
    refine Br_split (fun e3 => ?_) (fun e3 => ?_) <;> simp only [go_sem, Nat.reduceBEq, Nat.reduceEqDiff, Nat.reduceLT, Nat.reduceLeDiff, Nat.reduceAdd, Nat.reduceSub, Nat.reduceMul, reduceCtorEq, Int.reduceToNat, Int.reduceEq, Int.reduceLT, Int.reduceLE, Int.reduceNe, Int.reduceNeg , or_self, or_false, false_or , List.length_map, e3]
    · have e3' : (!within (-1000) 1000 [b.ents[i].amount]) = true := e3
      simp [kb (by simp only [badEnt, e3', Bool.true_or, Bool.or_true])]
    have e3' : (!within (-1000) 1000 [b.ents[i].amount]) = false := e3
    refine Br_split (fun e4 => ?_) (fun e4 => ?_) <;> simp only [go_sem, Nat.reduceBEq, Nat.reduceEqDiff, Nat.reduceLT, Nat.reduceLeDiff, Nat.reduceAdd, Nat.reduceSub, Nat.reduceMul, reduceCtorEq, Int.reduceToNat, Int.reduceEq, Int.reduceLT, Int.reduceLE, Int.reduceNe, Int.reduceNeg , or_self, or_false, false_or , List.length_map, e4]
    · have e4' : (b.ents[i].amount == 0) = true := by simpa using e4
      simp [kb (by simp only [badEnt, e4', Bool.true_or, Bool.or_true])]
    have e4' : (b.ents[i].amount == 0) = false := by simpa using e4
    refine ⟨i + 1, ⟨hlt, kn (by simp only [badEnt, e1', e2', e3', e4', Bool.or_false])⟩, by omega, ?_⟩
    simp [ForgetTo, EW, VW, BBq, BBs, BB, VBs, VB, Env.look, pubV, bookV, w64 (n := (i : Int) + 1) (by omega) (by omega)]
  have hnl : ¬ i < b.ents.length := by simpa using hd
  rw [List.take_of_length_le (by omega)] at hx
  rw [hx]
  simp only [Bool.false_or]
  clear hx
  refine ALoop.by (S := Nat) (fun i => [(7, .d (.int .i64 i)), (3, .d (.int .i64 b.stock.length)), (1, .ptr 0 0)]) (fun _ => [.cells (bookV b)]) (fun i => b.recs.length - i) (fun i => i ≤ b.recs.length ∧ (b.recs.take i).any (badRec b.stock.length) = false) 0 (by simp) (fun _ h => nomatch h) ⟨Nat.zero_le _, rfl⟩ ?_ ?_
  · exact ForgetTo.same' (by simp) (by simp [EWe, Env.look]) (by simp [bookV])
  rintro i ⟨hi, hx⟩ hn
  refine AWP.run (fun _ => false) tt_ok (fun _ h => nomatch h) (by simp) rfl ?_
  simp only [go_sem, Nat.reduceBEq, Nat.reduceEqDiff, Nat.reduceLT, Nat.reduceLeDiff, Nat.reduceAdd, Nat.reduceSub, Nat.reduceMul, reduceCtorEq, Int.reduceToNat, Int.reduceEq, Int.reduceLT, Int.reduceLE, Int.reduceNe, Int.reduceNeg , or_self, or_false, false_or , List.length_map, bookV]
  refine Br_split (fun hd => ?_) (fun hd => ?_) <;> simp only [go_sem, Nat.reduceBEq, Nat.reduceEqDiff, Nat.reduceLT, Nat.reduceLeDiff, Nat.reduceAdd, Nat.reduceSub, Nat.reduceMul, reduceCtorEq, Int.reduceToNat, Int.reduceEq, Int.reduceLT, Int.reduceLE, Int.reduceNe, Int.reduceNeg , or_self, or_false, false_or , List.length_map, hd]
  · have hlt : i < b.recs.length := by simpa using hd
    simp only [go_sem, Nat.reduceBEq, Nat.reduceEqDiff, Nat.reduceLT, Nat.reduceLeDiff, Nat.reduceAdd, Nat.reduceSub, Nat.reduceMul, reduceCtorEq, Int.reduceToNat, Int.reduceEq, Int.reduceLT, Int.reduceLE, Int.reduceNe, Int.reduceNeg , or_self, or_false, false_or , List.length_map, idx_nat, List.getElem?_map, List.getElem?_eq_getElem hlt, recD]
    have kb : badRec b.stock.length b.recs[i] = true → b.recs.any (badRec b.stock.length) = true := any_at hlt
    have kn : badRec b.stock.length b.recs[i] = false → (b.recs.take (i + 1)).any (badRec b.stock.length) = false := fun h => by rw [any_take hlt, hx, h]; rfl
    refine Br_split (fun e1 => ?_) (fun e1 => ?_) <;> simp only [go_sem, Nat.reduceBEq, Nat.reduceEqDiff, Nat.reduceLT, Nat.reduceLeDiff, Nat.reduceAdd, Nat.reduceSub, Nat.reduceMul, reduceCtorEq, Int.reduceToNat, Int.reduceEq, Int.reduceLT, Int.reduceLE, Int.reduceNe, Int.reduceNeg , or_self, or_false, false_or , List.length_map, e1]
    · simp [kb (by simp only [badRec, e1, Bool.true_or])]
    have hrl : b.recs[i].length = b.stock.length := by simp at e1; omega
    have hcat : ∀ j, j < b.recs[i].length → badSpan (b.recs[i].getD j ⟨0, 0⟩) = true → badRec b.stock.length b.recs[i] = true := by
      intro j hj h
      rw [getD_eq hj] at h
      simp only [badRec, any_at hj h, Bool.or_true]
    generalize b.recs[i] = r at *
    refine ALoop.by (S := Nat) (fun j => [(9, .d (.int .i64 j)), (8, .d (.sl (r.map Sp.d))), (7, .d (.int .i64 i)), (3, .d (.int .i64 b.stock.length)), (1, .ptr 0 0)]) (fun _ => [.cells (bookV b)]) (fun j => r.length - j) (fun j => j ≤ r.length ∧ (r.take j).any badSpan = false) 0 (by simp) (fun _ h => nomatch h) ⟨Nat.zero_le _, rfl⟩ ?_ ?_
    · exact ForgetTo.same' (by simp) (by simp [EWe, Env.look]) (by simp [bookV])
    rintro j ⟨hj, hy⟩ hn
    refine AWP.run (fun _ => false) tt_ok (fun _ h => nomatch h) (by simp) rfl ?_
    simp only [go_sem, Nat.reduceBEq, Nat.reduceEqDiff, Nat.reduceLT, Nat.reduceLeDiff, Nat.reduceAdd, Nat.reduceSub, Nat.reduceMul, reduceCtorEq, Int.reduceToNat, Int.reduceEq, Int.reduceLT, Int.reduceLE, Int.reduceNe, Int.reduceNeg , or_self, or_false, false_or , List.length_map, bookV]
    refine Br_split (fun hd => ?_) (fun hd => ?_) <;> simp only [go_sem, Nat.reduceBEq, Nat.reduceEqDiff, Nat.reduceLT, Nat.reduceLeDiff, Nat.reduceAdd, Nat.reduceSub, Nat.reduceMul, reduceCtorEq, Int.reduceToNat, Int.reduceEq, Int.reduceLT, Int.reduceLE, Int.reduceNe, Int.reduceNeg , or_self, or_false, false_or , List.length_map, hd]
    · have hjl : j < r.length := by have : j < b.stock.length := by simpa using hd
                                    omega
      have hc := hcat j hjl
      rw [getD_eq hjl] at hc
      refine ADrw.treeG (fun _ => false) tt_ok (by kernel_rfl) (fun _ => some .S) (.ones [0, 1, 2, 3, 4, 5, 6, 7, 8, 9, 10, 11, 12, 13, 14, 15, 16, 17, 18, 19] .done) (by simp) (fun _ h => nomatch h) rfl rfl (by kernel_rfl) ?_
      simp only [go_sem, Nat.reduceBEq, Nat.reduceEqDiff, Nat.reduceLT, Nat.reduceLeDiff, Nat.reduceAdd, Nat.reduceSub, Nat.reduceMul, reduceCtorEq, Int.reduceToNat, Int.reduceEq, Int.reduceLT, Int.reduceLE, Int.reduceNe, Int.reduceNeg , or_self, or_false, false_or , List.length_map, idx_nat, List.getElem?_map, List.getElem?_eq_getElem hjl, Sp.d]
      refine (c69w r[j]).callS rfl rfl rfl rfl rfl rfl ?_
      simp only [go_sem, Nat.reduceBEq, Nat.reduceEqDiff, Nat.reduceLT, Nat.reduceLeDiff, Nat.reduceAdd, Nat.reduceSub, Nat.reduceMul, reduceCtorEq, Int.reduceToNat, Int.reduceEq, Int.reduceLT, Int.reduceLE, Int.reduceNe, Int.reduceNeg , or_self, or_false, false_or , List.length_map]
      refine Br_split (fun f1 => ?_) (fun f1 => ?_) <;> simp only [go_sem, Nat.reduceBEq, Nat.reduceEqDiff, Nat.reduceLT, Nat.reduceLeDiff, Nat.reduceAdd, Nat.reduceSub, Nat.reduceMul, reduceCtorEq, Int.reduceToNat, Int.reduceEq, Int.reduceLT, Int.reduceLE, Int.reduceNe, Int.reduceNeg , or_self, or_false, false_or , List.length_map, f1]
      · have f1' : (!(within 0 50 [r[j].lo, r[j].hi] && decide (r[j].lo ≤ r[j].hi))) = true := f1
        simp [kb (hc (by simp only [badSpan, f1', Bool.true_or]))]
      have f1' : (!(within 0 50 [r[j].lo, r[j].hi] && decide (r[j].lo ≤ r[j].hi))) = false := f1
      simp only [go_sem, Nat.reduceBEq, Nat.reduceEqDiff, Nat.reduceLT, Nat.reduceLeDiff, Nat.reduceAdd, Nat.reduceSub, Nat.reduceMul, reduceCtorEq, Int.reduceToNat, Int.reduceEq, Int.reduceLT, Int.reduceLE, Int.reduceNe, Int.reduceNeg , or_self, or_false, false_or , List.length_map, idx_nat, List.getElem?_map, List.getElem?_eq_getElem hjl, Sp.d]
      refine Br_split (fun f2 => ?_) (fun f2 => ?_) <;> simp only [go_sem, Nat.reduceBEq, Nat.reduceEqDiff, Nat.reduceLT, Nat.reduceLeDiff, Nat.reduceAdd, Nat.reduceSub, Nat.reduceMul, reduceCtorEq, Int.reduceToNat, Int.reduceEq, Int.reduceLT, Int.reduceLE, Int.reduceNe, Int.reduceNeg , or_self, or_false, false_or , List.length_map, f2]
      · have f2' : IntKind.i64.wrap (r[j].hi - r[j].lo) ≥ 8 := by simp at f2; omega
        simp [kb (hc (by simp [badSpan, f2']))]
      have f2' : ¬ IntKind.i64.wrap (r[j].hi - r[j].lo) ≥ 8 := by simp at f2; omega
      refine ⟨j + 1, ⟨hjl, by rw [any_take hjl, hy, badSpan, f1']; simp; omega⟩, by omega, ?_⟩
      exact ForgetTo.same' (by simp) (by simp [EWe, Env.look, w64 (n := (j : Int) + 1) (by omega) (by omega)]) (by simp [bookV])
    have hnj : ¬ j < r.length := by have : ¬ j < b.stock.length := by simpa using hd
                                    omega
    rw [List.take_of_length_le (by omega)] at hy
    refine ⟨i + 1, ⟨hlt, kn (by simp only [badRec, e1, hy, Bool.or_false])⟩, by omega, ?_⟩
    exact ForgetTo.same' (by simp) (by simp [EWe, Env.look, w64 (n := (i : Int) + 1) (by omega) (by omega)]) (by simp [bookV])
  have hnl : ¬ i < b.recs.length := by simpa using hd
  rw [List.take_of_length_le (by omega)] at hx
  rw [hx]
  simp only [Bool.false_or]
  clear hx
  refine ALoop.by (S := Nat) (fun i => [(10, .d (.int .i64 i)), (1, .ptr 0 0)]) (fun _ => [.cells (bookV b)]) (fun i => b.made.length - i) (fun i => i ≤ b.made.length ∧ (b.made.take i).any (badMad b.recs.length) = false) 0 (by simp) (fun _ h => nomatch h) ⟨Nat.zero_le _, rfl⟩ ?_ ?_
  · exact ForgetTo.same' (by simp) (by simp [EWe, Env.look]) (by simp [bookV])
  rintro i ⟨hi, hx⟩ hn
  refine AWP.run (fun _ => false) tt_ok (fun _ h => nomatch h) (by simp) rfl ?_
  simp only [go_sem, Nat.reduceBEq, Nat.reduceEqDiff, Nat.reduceLT, Nat.reduceLeDiff, Nat.reduceAdd, Nat.reduceSub, Nat.reduceMul, reduceCtorEq, Int.reduceToNat, Int.reduceEq, Int.reduceLT, Int.reduceLE, Int.reduceNe, Int.reduceNeg , or_self, or_false, false_or , List.length_map, bookV]
  refine Br_split (fun hd => ?_) (fun hd => ?_) <;> simp only [go_sem, Nat.reduceBEq, Nat.reduceEqDiff, Nat.reduceLT, Nat.reduceLeDiff, Nat.reduceAdd, Nat.reduceSub, Nat.reduceMul, reduceCtorEq, Int.reduceToNat, Int.reduceEq, Int.reduceLT, Int.reduceLE, Int.reduceNe, Int.reduceNeg , or_self, or_false, false_or , List.length_map, hd]
  · have hlt : i < b.made.length := by simpa using hd
    simp only [go_sem, Nat.reduceBEq, Nat.reduceEqDiff, Nat.reduceLT, Nat.reduceLeDiff, Nat.reduceAdd, Nat.reduceSub, Nat.reduceMul, reduceCtorEq, Int.reduceToNat, Int.reduceEq, Int.reduceLT, Int.reduceLE, Int.reduceNe, Int.reduceNeg , or_self, or_false, false_or , List.length_map, idx_nat, List.getElem?_map, List.getElem?_eq_getElem hlt, Mad.d]
    have kb : badMad b.recs.length b.made[i] = true → b.made.any (badMad b.recs.length) = true := any_at hlt
    have kn : badMad b.recs.length b.made[i] = false → (b.made.take (i + 1)).any (badMad b.recs.length) = false := fun h => by rw [any_take hlt, hx, h]; rfl
    refine (c37w b.made[i].day 0 365).call rfl rfl rfl ?_
    simp only [go_sem, Nat.reduceBEq, Nat.reduceEqDiff, Nat.reduceLT, Nat.reduceLeDiff, Nat.reduceAdd, Nat.reduceSub, Nat.reduceMul, reduceCtorEq, Int.reduceToNat, Int.reduceEq, Int.reduceLT, Int.reduceLE, Int.reduceNe, Int.reduceNeg , or_self, or_false, false_or , List.length_map]
    refine Br_split (fun e1 => ?_) (fun e1 => ?_) <;> simp only [go_sem, Nat.reduceBEq, Nat.reduceEqDiff, Nat.reduceLT, Nat.reduceLeDiff, Nat.reduceAdd, Nat.reduceSub, Nat.reduceMul, reduceCtorEq, Int.reduceToNat, Int.reduceEq, Int.reduceLT, Int.reduceLE, Int.reduceNe, Int.reduceNeg , or_self, or_false, false_or , List.length_map, e1]
    · have e1' : (!within 0 365 [b.made[i].day]) = true := e1
      simp [kb (by simp only [badMad, e1', Bool.true_or])]
    have e1' : (!within 0 365 [b.made[i].day]) = false := e1
    refine (c37w b.made[i].kind 0 (IntKind.i64.wrap ((b.recs.length : Int) - 1))).call rfl rfl rfl ?_
    simp only [go_sem, Nat.reduceBEq, Nat.reduceEqDiff, Nat.reduceLT, Nat.reduceLeDiff, Nat.reduceAdd, Nat.reduceSub, Nat.reduceMul, reduceCtorEq, Int.reduceToNat, Int.reduceEq, Int.reduceLT, Int.reduceLE, Int.reduceNe, Int.reduceNeg , or_self, or_false, false_or , List.length_map]
    refine Br_split (fun e2 => ?_) (fun e2 => ?_) <;> simp only [go_sem, Nat.reduceBEq, Nat.reduceEqDiff, Nat.reduceLT, Nat.reduceLeDiff, Nat.reduceAdd, Nat.reduceSub, Nat.reduceMul, reduceCtorEq, Int.reduceToNat, Int.reduceEq, Int.reduceLT, Int.reduceLE, Int.reduceNe, Int.reduceNeg , or_self, or_false, false_or , List.length_map, e2]
    · have e2' : (!within 0 (IntKind.i64.wrap ((b.recs.length : Int) - 1)) [b.made[i].kind]) = true := e2
      simp [kb (by simp only [badMad, e2', Bool.true_or, Bool.or_true])]
    have e2' : (!within 0 (IntKind.i64.wrap ((b.recs.length : Int) - 1)) [b.made[i].kind]) = false := e2
    refine (c37w b.made[i].many 1 100).call rfl rfl rfl ?_
    simp only [go_sem, Nat.reduceBEq, Nat.reduceEqDiff, Nat.reduceLT, Nat.reduceLeDiff, Nat.reduceAdd, Nat.reduceSub, Nat.reduceMul, reduceCtorEq, Int.reduceToNat, Int.reduceEq, Int.reduceLT, Int.reduceLE, Int.reduceNe, Int.reduceNeg , or_self, or_false, false_or , List.length_map]
    refine Br_split (fun e3 => ?_) (fun e3 => ?_) <;> simp only [go_sem, Nat.reduceBEq, Nat.reduceEqDiff, Nat.reduceLT, Nat.reduceLeDiff, Nat.reduceAdd, Nat.reduceSub, Nat.reduceMul, reduceCtorEq, Int.reduceToNat, Int.reduceEq, Int.reduceLT, Int.reduceLE, Int.reduceNe, Int.reduceNeg , or_self, or_false, false_or , List.length_map, e3]
    · have e3' : (!within 1 100 [b.made[i].many]) = true := e3
      simp [kb (by simp only [badMad, e3', Bool.true_or, Bool.or_true])]
    have e3' : (!within 1 100 [b.made[i].many]) = false := e3
    refine ⟨i + 1, ⟨hlt, kn (by simp only [badMad, e1', e2', e3', Bool.or_false])⟩, by omega, ?_⟩
    simp [ForgetTo, EW, VW, BBq, BBs, BB, VBs, VB, Env.look, pubV, bookV, w64 (n := (i : Int) + 1) (by omega) (by omega)]
  have hnl : ¬ i < b.made.length := by simpa using hd
  rw [List.take_of_length_le (by omega)] at hx
  simp [hx]
end Go.Aw
end

section
namespace Go.Aw
open Go Go.Proofs Go.Proofs.Try

def largeL (b : Book) : Bool := (b.recs.take 21).any (fun r => decide (20 < r.length)) || (decide (20 < b.stock.length) || (decide (20 < b.ents.length) || (decide (20 < b.recs.length) || decide (20 < b.made.length))))

theorem dec_int (a : Nat) (n : Nat) : decide ((n : Int) < (a : Int)) = decide (n < a) := by simp [Int.ofNat_lt]

theorem c13 (b : Book) : PC prog 13 [.d b.d] (.d (.bool (largeL b))) := by
  refine PC.run (fun _ => false) tt_ok (fn := f13) (rs := [.tmp 2]) rfl rfl rfl rfl rfl rfl rfl ?_
  simp only [go_sem, Nat.reduceBEq, Nat.reduceEqDiff, Nat.reduceLT, Nat.reduceLeDiff, Nat.reduceAdd, Nat.reduceSub, Nat.reduceMul, reduceCtorEq, Int.reduceToNat, Int.reduceEq, Int.reduceLT, Int.reduceLE, Int.reduceNe, Int.reduceNeg , or_self, or_false, false_or , List.length_map, Book.d]
  refine ALoop.by (S := Nat) (fun i => [(3, .d (.int .i64 i)), (1, .ptr 0 0)]) (fun _ => [.cells (bookV b)]) (fun i => 21 - i) (fun i => i ≤ 21 ∧ i ≤ b.recs.length ∧ (b.recs.take i).any (fun r => decide (20 < r.length)) = false) 0 (by simp) (fun _ h => nomatch h) ⟨Nat.zero_le _, Nat.zero_le _, rfl⟩ ?_ ?_
  · exact ForgetTo.same' (by simp) (by simp [EWe, Env.look]) (by simp [bookV])
  rintro i ⟨hi, hi2, hx⟩ hn
  refine AWP.run (fun _ => false) tt_ok (fun _ h => nomatch h) (by simp) rfl ?_
  simp only [go_sem, Nat.reduceBEq, Nat.reduceEqDiff, Nat.reduceLT, Nat.reduceLeDiff, Nat.reduceAdd, Nat.reduceSub, Nat.reduceMul, reduceCtorEq, Int.reduceToNat, Int.reduceEq, Int.reduceLT, Int.reduceLE, Int.reduceNe, Int.reduceNeg , or_self, or_false, false_or , List.length_map, bookV]
  by_cases hd : i < b.recs.length ∧ i < 21
  · have d1 : ((i : Int) < (b.recs.length : Int)) := by omega
    have d2 : ((i : Int) < 21) := by omega
    have hlt := hd.1
    simp only [go_sem, Nat.reduceBEq, Nat.reduceEqDiff, Nat.reduceLT, Nat.reduceLeDiff, Nat.reduceAdd, Nat.reduceSub, Nat.reduceMul, reduceCtorEq, Int.reduceToNat, Int.reduceEq, Int.reduceLT, Int.reduceLE, Int.reduceNe, Int.reduceNeg , or_self, or_false, false_or , List.length_map, d1, d2, idx_nat, List.getElem?_map, List.getElem?_eq_getElem hlt, recD]
    have htk : i < (b.recs.take 21).length := by simp; omega
    refine Br_split (fun e1 => ?_) (fun e1 => ?_) <;> simp only [go_sem, Nat.reduceBEq, Nat.reduceEqDiff, Nat.reduceLT, Nat.reduceLeDiff, Nat.reduceAdd, Nat.reduceSub, Nat.reduceMul, reduceCtorEq, Int.reduceToNat, Int.reduceEq, Int.reduceLT, Int.reduceLE, Int.reduceNe, Int.reduceNeg , or_self, or_false, false_or , List.length_map, e1]
    · have e1' : 20 < b.recs[i].length := by simp at e1; omega
      have : (b.recs.take 21).any (fun r => decide (20 < r.length)) = true := any_at htk (by rw [List.getElem_take]; simpa using e1')
      simp [largeL, this]
    · have e1' : ¬ 20 < b.recs[i].length := by simp at e1; omega
      refine ⟨i + 1, ⟨hd.2, hlt, by rw [any_take hlt, hx]; simpa using e1'⟩, by omega, ?_⟩
      exact ForgetTo.same' (by simp) (by simp [EWe, Env.look, w64 (n := (i : Int) + 1) (by omega) (by omega)]) (by simp [bookV])
  · have hnx : (b.recs.take 21).any (fun r => decide (20 < r.length)) = false := by
      rcases Nat.lt_or_ge i b.recs.length with h | h
      · rw [show (21 : Nat) = i by omega]; exact hx
      · rw [List.take_of_length_le (by omega)] at hx ⊢
        · exact hx
    have hres : largeL b = (decide (20 < b.stock.length) || (decide (20 < b.ents.length) || (decide (20 < b.recs.length) || decide (20 < b.made.length)))) := by
      rw [largeL, hnx, Bool.false_or]
    rw [hres]
    have both : ((i : Int) < (b.recs.length : Int) ∧ ¬ (i : Int) < 21) ∨ ¬ (i : Int) < (b.recs.length : Int) := by omega
    have tail : ∀ {P : Bool}, P = (decide ((20 : Int) < b.stock.length) || (decide ((20 : Int) < b.ents.length) || (decide ((20 : Int) < b.recs.length) || decide ((20 : Int) < b.made.length)))) → (decide (20 < b.stock.length) || (decide (20 < b.ents.length) || (decide (20 < b.recs.length) || decide (20 < b.made.length)))) = P := by
      rintro P rfl
      rw [Bool.eq_iff_iff]
      simp only [Bool.or_eq_true, decide_eq_true_eq]
      omega
    rw [tail rfl]
    rcases both with ⟨d1, d2⟩ | d1
    · simp only [go_sem, Nat.reduceBEq, Nat.reduceEqDiff, Nat.reduceLT, Nat.reduceLeDiff, Nat.reduceAdd, Nat.reduceSub, Nat.reduceMul, reduceCtorEq, Int.reduceToNat, Int.reduceEq, Int.reduceLT, Int.reduceLE, Int.reduceNe, Int.reduceNeg , or_self, or_false, false_or , List.length_map, d1, d2]
      refine Br_split (fun f1 => ?_) (fun f1 => ?_) <;> simp only [go_sem, Nat.reduceBEq, Nat.reduceEqDiff, Nat.reduceLT, Nat.reduceLeDiff, Nat.reduceAdd, Nat.reduceSub, Nat.reduceMul, reduceCtorEq, Int.reduceToNat, Int.reduceEq, Int.reduceLT, Int.reduceLE, Int.reduceNe, Int.reduceNeg , or_self, or_false, false_or , List.length_map, f1, Bool.true_or, Bool.false_or]
      refine Br_split (fun f2 => ?_) (fun f2 => ?_) <;> simp only [go_sem, Nat.reduceBEq, Nat.reduceEqDiff, Nat.reduceLT, Nat.reduceLeDiff, Nat.reduceAdd, Nat.reduceSub, Nat.reduceMul, reduceCtorEq, Int.reduceToNat, Int.reduceEq, Int.reduceLT, Int.reduceLE, Int.reduceNe, Int.reduceNeg , or_self, or_false, false_or , List.length_map, f1, f2, Bool.true_or, Bool.false_or]
      refine Br_split (fun f3 => ?_) (fun f3 => ?_) <;> simp only [go_sem, Nat.reduceBEq, Nat.reduceEqDiff, Nat.reduceLT, Nat.reduceLeDiff, Nat.reduceAdd, Nat.reduceSub, Nat.reduceMul, reduceCtorEq, Int.reduceToNat, Int.reduceEq, Int.reduceLT, Int.reduceLE, Int.reduceNe, Int.reduceNeg , or_self, or_false, false_or , List.length_map, f1, f2, f3, Bool.true_or, Bool.false_or]
    · simp only [go_sem, Nat.reduceBEq, Nat.reduceEqDiff, Nat.reduceLT, Nat.reduceLeDiff, Nat.reduceAdd, Nat.reduceSub, Nat.reduceMul, reduceCtorEq, Int.reduceToNat, Int.reduceEq, Int.reduceLT, Int.reduceLE, Int.reduceNe, Int.reduceNeg , or_self, or_false, false_or , List.length_map, d1]
      refine Br_split (fun f1 => ?_) (fun f1 => ?_) <;> simp only [go_sem, Nat.reduceBEq, Nat.reduceEqDiff, Nat.reduceLT, Nat.reduceLeDiff, Nat.reduceAdd, Nat.reduceSub, Nat.reduceMul, reduceCtorEq, Int.reduceToNat, Int.reduceEq, Int.reduceLT, Int.reduceLE, Int.reduceNe, Int.reduceNeg , or_self, or_false, false_or , List.length_map, f1, Bool.true_or, Bool.false_or]
      refine Br_split (fun f2 => ?_) (fun f2 => ?_) <;> simp only [go_sem, Nat.reduceBEq, Nat.reduceEqDiff, Nat.reduceLT, Nat.reduceLeDiff, Nat.reduceAdd, Nat.reduceSub, Nat.reduceMul, reduceCtorEq, Int.reduceToNat, Int.reduceEq, Int.reduceLT, Int.reduceLE, Int.reduceNe, Int.reduceNeg , or_self, or_false, false_or , List.length_map, f1, f2, Bool.true_or, Bool.false_or]
      refine Br_split (fun f3 => ?_) (fun f3 => ?_) <;> simp only [go_sem, Nat.reduceBEq, Nat.reduceEqDiff, Nat.reduceLT, Nat.reduceLeDiff, Nat.reduceAdd, Nat.reduceSub, Nat.reduceMul, reduceCtorEq, Int.reduceToNat, Int.reduceEq, Int.reduceLT, Int.reduceLE, Int.reduceNe, Int.reduceNeg , or_self, or_false, false_or , List.length_map, f1, f2, f3, Bool.true_or, Bool.false_or]

/-- Books of which the law speaks. -/
theorem large_fits {b : Book} (h : largeL b = false) : (∀ r ∈ b.recs, r.length ≤ 20) ∧ b.stock.length ≤ 20 ∧ b.ents.length ≤ 20 ∧ b.recs.length ≤ 20 ∧ b.made.length ≤ 20 := by
  simp only [largeL, Bool.or_eq_false_iff, decide_eq_false_iff_not, Nat.not_lt] at h
  obtain ⟨h0, h1, h2, h3, h4⟩ := h
  refine ⟨fun r hr => ?_, h1, h2, h3, h4⟩
  rw [List.take_of_length_le (by omega)] at h0
  have := any_false h0 r hr
  simpa using this

theorem large_fits' {b : Book} (h : largeL b = false) : b.Fits := by
  obtain ⟨h0, h1, h2, h3, h4⟩ := large_fits h
  exact ⟨by omega, by omega, by omega, by omega, fun r hr => by have := h0 r hr; omega⟩
end Go.Aw
end

section
namespace Go.Aw
open Go Go.Proofs Go.Proofs.Try

theorem c20 (b : Book) (hb : b.Fits) : PC prog 20 [.d b.d, .d b.d] (.d (.bool true)) := by
  refine PC.run (fun _ => false) tt_ok (fn := f20) (rs := [.tmp 4]) rfl rfl rfl rfl rfl rfl rfl ?_
  simp only [go_sem, Nat.reduceBEq, Nat.reduceEqDiff, Nat.reduceLT, Nat.reduceLeDiff, Nat.reduceAdd, Nat.reduceSub, Nat.reduceMul, reduceCtorEq, Int.reduceToNat, Int.reduceEq, Int.reduceLT, Int.reduceLE, Int.reduceNe, Int.reduceNeg , or_self, or_false, false_or , List.length_map, Book.d]
  refine (c28 b.stock b.stock hb.stock hb.stock).call rfl rfl rfl ?_
  simp only [go_sem, Nat.reduceBEq, Nat.reduceEqDiff, Nat.reduceLT, Nat.reduceLeDiff, Nat.reduceAdd, Nat.reduceSub, Nat.reduceMul, reduceCtorEq, Int.reduceToNat, Int.reduceEq, Int.reduceLT, Int.reduceLE, Int.reduceNe, Int.reduceNeg , or_self, or_false, false_or , List.length_map]
  refine ALoop.by (S := Nat) (fun i => [(5, .d (.int .i64 i)), (2, .ptr 0 0), (3, .ptr 1 0)]) (fun _ => [.cells (bookV b), .cells (bookV b)]) (fun i => b.ents.length - i) (fun i => i ≤ b.ents.length) 0 (by simp) (fun _ h => nomatch h) (Nat.zero_le _) ?_ ?_
  · exact ForgetTo.same' (by simp) (by simp [EWe, Env.look]) (by simp [bookV])
  rintro i hi hn
  refine AWP.run (fun _ => false) tt_ok (fun _ h => nomatch h) (by simp) rfl ?_
  simp only [go_sem, Nat.reduceBEq, Nat.reduceEqDiff, Nat.reduceLT, Nat.reduceLeDiff, Nat.reduceAdd, Nat.reduceSub, Nat.reduceMul, reduceCtorEq, Int.reduceToNat, Int.reduceEq, Int.reduceLT, Int.reduceLE, Int.reduceNe, Int.reduceNeg , or_self, or_false, false_or , List.length_map, bookV]
  refine Br_split (fun hd => ?_) (fun hd => ?_) <;> simp only [go_sem, Nat.reduceBEq, Nat.reduceEqDiff, Nat.reduceLT, Nat.reduceLeDiff, Nat.reduceAdd, Nat.reduceSub, Nat.reduceMul, reduceCtorEq, Int.reduceToNat, Int.reduceEq, Int.reduceLT, Int.reduceLE, Int.reduceNe, Int.reduceNeg , or_self, or_false, false_or , List.length_map, hd]
  · have hlt : i < b.ents.length := by simpa using hd
    refine ADrw.treeG (fun _ => false) tt_ok (by kernel_rfl) (fun k => if k = 1 ∨ k = 6 then some .L else some .S) (.ones [0, 1, 2, 3, 4, 5, 6, 7, 8, 9, 10] .done) (by simp) (fun _ h => nomatch h) rfl rfl (by kernel_rfl) ?_
    simp only [go_sem, Nat.reduceBEq, Nat.reduceEqDiff, Nat.reduceLT, Nat.reduceLeDiff, Nat.reduceAdd, Nat.reduceSub, Nat.reduceMul, reduceCtorEq, Int.reduceToNat, Int.reduceEq, Int.reduceLT, Int.reduceLE, Int.reduceNe, Int.reduceNeg , or_self, or_false, false_or , List.length_map, idx_nat, List.getElem?_map, List.getElem?_eq_getElem hlt, Ent.d]
    refine ⟨i + 1, hlt, by omega, ?_⟩
    exact ForgetTo.same' (by simp) (by simp [EWe, Env.look, w64 (n := (i : Int) + 1) (by omega) (by have := hb.ents; have := hb.recs; have := hb.made; omega)]) (by simp [bookV])
  have hl2 : b.ents.length ≤ 4294967296 := hb.ents
  refine ALoop.by (S := Nat) (fun i => [(6, .d (.int .i64 i)), (2, .ptr 0 0), (3, .ptr 1 0)]) (fun _ => [.cells (bookV b), .cells (bookV b)]) (fun i => b.recs.length - i) (fun i => i ≤ b.recs.length) 0 (by simp) (fun _ h => nomatch h) (Nat.zero_le _) ?_ ?_
  · exact ForgetTo.same' (by simp) (by simp [EWe, Env.look]) (by simp [bookV])
  rintro i hi hn
  refine AWP.run (fun _ => false) tt_ok (fun _ h => nomatch h) (by simp) rfl ?_
  simp only [go_sem, Nat.reduceBEq, Nat.reduceEqDiff, Nat.reduceLT, Nat.reduceLeDiff, Nat.reduceAdd, Nat.reduceSub, Nat.reduceMul, reduceCtorEq, Int.reduceToNat, Int.reduceEq, Int.reduceLT, Int.reduceLE, Int.reduceNe, Int.reduceNeg , or_self, or_false, false_or , List.length_map, bookV]
  refine Br_split (fun hd => ?_) (fun hd => ?_) <;> simp only [go_sem, Nat.reduceBEq, Nat.reduceEqDiff, Nat.reduceLT, Nat.reduceLeDiff, Nat.reduceAdd, Nat.reduceSub, Nat.reduceMul, reduceCtorEq, Int.reduceToNat, Int.reduceEq, Int.reduceLT, Int.reduceLE, Int.reduceNe, Int.reduceNeg , or_self, or_false, false_or , List.length_map, hd]
  · have hlt : i < b.recs.length := by simpa using hd
    have hr := hb.takes _ (List.getElem_mem hlt)
    refine ADrw.treeG (fun _ => false) tt_ok (by kernel_rfl) (fun k => if k = 1 ∨ k = 7 then some .L else some .S) (.ones [0, 1, 2, 3, 4, 5, 6, 7, 8, 9, 10, 11, 12, 13] .done) (by simp) (fun _ h => nomatch h) rfl rfl (by kernel_rfl) ?_
    simp only [go_sem, Nat.reduceBEq, Nat.reduceEqDiff, Nat.reduceLT, Nat.reduceLeDiff, Nat.reduceAdd, Nat.reduceSub, Nat.reduceMul, reduceCtorEq, Int.reduceToNat, Int.reduceEq, Int.reduceLT, Int.reduceLE, Int.reduceNe, Int.reduceNeg , or_self, or_false, false_or , List.length_map, idx_nat, List.getElem?_map, List.getElem?_eq_getElem hlt, recD]
    refine (c21 b.recs[i] b.recs[i] hr hr).callS rfl rfl rfl rfl rfl rfl ?_
    simp only [go_sem, Nat.reduceBEq, Nat.reduceEqDiff, Nat.reduceLT, Nat.reduceLeDiff, Nat.reduceAdd, Nat.reduceSub, Nat.reduceMul, reduceCtorEq, Int.reduceToNat, Int.reduceEq, Int.reduceLT, Int.reduceLE, Int.reduceNe, Int.reduceNeg , or_self, or_false, false_or , List.length_map]
    refine ⟨i + 1, hlt, by omega, ?_⟩
    exact ForgetTo.same' (by simp) (by simp [EWe, Env.look, w64 (n := (i : Int) + 1) (by omega) (by have := hb.ents; have := hb.recs; have := hb.made; omega)]) (by simp [bookV])
  refine ALoop.by (S := Nat) (fun i => [(7, .d (.int .i64 i)), (2, .ptr 0 0), (3, .ptr 1 0)]) (fun _ => [.cells (bookV b), .cells (bookV b)]) (fun i => b.made.length - i) (fun i => i ≤ b.made.length) 0 (by simp) (fun _ h => nomatch h) (Nat.zero_le _) ?_ ?_
  · exact ForgetTo.same' (by simp) (by simp [EWe, Env.look]) (by simp [bookV])
  rintro i hi hn
  refine AWP.run (fun _ => false) tt_ok (fun _ h => nomatch h) (by simp) rfl ?_
  simp only [go_sem, Nat.reduceBEq, Nat.reduceEqDiff, Nat.reduceLT, Nat.reduceLeDiff, Nat.reduceAdd, Nat.reduceSub, Nat.reduceMul, reduceCtorEq, Int.reduceToNat, Int.reduceEq, Int.reduceLT, Int.reduceLE, Int.reduceNe, Int.reduceNeg , or_self, or_false, false_or , List.length_map, bookV]
  refine Br_split (fun hd => ?_) (fun hd => ?_) <;> simp only [go_sem, Nat.reduceBEq, Nat.reduceEqDiff, Nat.reduceLT, Nat.reduceLeDiff, Nat.reduceAdd, Nat.reduceSub, Nat.reduceMul, reduceCtorEq, Int.reduceToNat, Int.reduceEq, Int.reduceLT, Int.reduceLE, Int.reduceNe, Int.reduceNeg , or_self, or_false, false_or , List.length_map, hd]
  · have hlt : i < b.made.length := by simpa using hd
    refine ADrw.treeG (fun _ => false) tt_ok (by kernel_rfl) (fun k => if k = 1 ∨ k = 6 then some .L else some .S) (.ones [0, 1, 2, 3, 4, 5, 6, 7, 8, 9, 10] .done) (by simp) (fun _ h => nomatch h) rfl rfl (by kernel_rfl) ?_
    simp only [go_sem, Nat.reduceBEq, Nat.reduceEqDiff, Nat.reduceLT, Nat.reduceLeDiff, Nat.reduceAdd, Nat.reduceSub, Nat.reduceMul, reduceCtorEq, Int.reduceToNat, Int.reduceEq, Int.reduceLT, Int.reduceLE, Int.reduceNe, Int.reduceNeg , or_self, or_false, false_or , List.length_map, idx_nat, List.getElem?_map, List.getElem?_eq_getElem hlt, Mad.d]
    refine ⟨i + 1, hlt, by omega, ?_⟩
    exact ForgetTo.same' (by simp) (by simp [EWe, Env.look, w64 (n := (i : Int) + 1) (by omega) (by have := hb.ents; have := hb.recs; have := hb.made; omega)]) (by simp [bookV])
end Go.Aw
end

section
namespace Go.Aw
open Go Go.Proofs Go.Proofs.Try

theorem c15 (b : Book) (hb : b.Fits) : PC prog 15 [.d b.d] (.d b.d) := by
  have h1 := hb.stock
  have h2 := hb.ents
  have h3 := hb.made
  have h4 := hb.recs
  have z1 : sized 1 (b.stock.map (D.int .i64)) = true := by simp [sized, dcells]
  have z2 : sized 3 (b.ents.map Ent.d) = true := by simp [sized, Ent.d, dcells]
  have z3 : sized 3 (b.made.map Mad.d) = true := by simp [sized, Mad.d, dcells]
  refine PC.run (fun k => k == 17 || k == 37) tt_ok (fn := f15) (rs := [.cell 2 27]) rfl rfl rfl rfl rfl rfl rfl ?_
  simp only [go_sem, Nat.reduceBEq, Nat.reduceEqDiff, Nat.reduceLT, Nat.reduceLeDiff, Nat.reduceAdd, Nat.reduceSub, Nat.reduceMul, reduceCtorEq, Int.reduceToNat, Int.reduceEq, Int.reduceLT, Int.reduceLE, Int.reduceNe, Int.reduceNeg , or_self, or_false, false_or , List.length_map, Book.d, Bool.or_true, Bool.true_or, Bool.or_false, Bool.false_or]
  refine ADrw.treeG (fun k => k == 17 || k == 37) tt_ok (by kernel_rfl) (fun k => if k = 2 ∨ k = 6 ∨ k = 10 then some .L else if k = 13 then some .A else if k = 14 then some .W else some .S) (.ones [0, 1, 2, 3, 4, 5, 6, 7, 8, 9, 10, 11, 12, 13, 14] .done) (by simp) (fun _ h => nomatch h) rfl rfl (by kernel_rfl) ?_
  simp only [go_sem, Nat.reduceBEq, Nat.reduceEqDiff, Nat.reduceLT, Nat.reduceLeDiff, Nat.reduceAdd, Nat.reduceSub, Nat.reduceMul, reduceCtorEq, Int.reduceToNat, Int.reduceEq, Int.reduceLT, Int.reduceLE, Int.reduceNe, Int.reduceNeg , or_self, or_false, false_or , List.length_map, Bool.or_true, Bool.true_or, Bool.or_false, Bool.false_or, z1, z2, z3, h1, h2, h3]
  refine ALoop.by (S := Nat) (fun i => [(4, .d (.int .i64 i)), (3, .ptr 2 0), (2, .ptr 1 0), (1, .ptr 0 0)])
    (fun i => match i with
      | 0 => [.cells (bookV b), .cells [.d (.sl []), .d (.sl []), .d (.sl []), .d (.sl [])], .cells [.d (.sl (b.stock.map (.int .i64))), .d (.sl (b.ents.map Ent.d)), .slx (some true) [], .d (.sl (b.made.map Mad.d))]]
      | i + 1 => [.cells (bookV b), .cells [.d (.sl []), .d (.sl []), .d (.sl []), .d (.sl [])], .cells [.d (.sl (b.stock.map (.int .i64))), .d (.sl (b.ents.map Ent.d)), .ref 3 (i + 1) 0 (i + 1), .d (.sl (b.made.map Mad.d))], .arr 1 false ((b.recs.take (i + 1)).map recD)]) (fun i => b.recs.length - i) (fun i => i ≤ b.recs.length) 0 (by simp) (fun _ h => nomatch h) (Nat.zero_le _) ?_ ?_
  · exact ForgetTo.same' (by simp) (by simp [EWe, Env.look]) (by simp [bookV])
  rintro i hi hn
  rcases i with _ | i
  · refine AWP.run (fun k => k == 17 || k == 37) tt_ok (fun _ h => nomatch h) (by simp) rfl ?_
    simp only [go_sem, Nat.reduceBEq, Nat.reduceEqDiff, Nat.reduceLT, Nat.reduceLeDiff, Nat.reduceAdd, Nat.reduceSub, Nat.reduceMul, reduceCtorEq, Int.reduceToNat, Int.reduceEq, Int.reduceLT, Int.reduceLE, Int.reduceNe, Int.reduceNeg , or_self, or_false, false_or , List.length_map, bookV, Bool.or_true, Bool.true_or, Bool.or_false, Bool.false_or]
    refine Br_split (fun hd => ?_) (fun hd => ?_) <;> simp only [go_sem, Nat.reduceBEq, Nat.reduceEqDiff, Nat.reduceLT, Nat.reduceLeDiff, Nat.reduceAdd, Nat.reduceSub, Nat.reduceMul, reduceCtorEq, Int.reduceToNat, Int.reduceEq, Int.reduceLT, Int.reduceLE, Int.reduceNe, Int.reduceNeg , or_self, or_false, false_or , List.length_map, hd, Bool.or_true, Bool.true_or, Bool.or_false, Bool.false_or]
    · have hlt : 0 < b.recs.length := by simpa using hd
      refine ADrw.treeG (fun k => k == 17 || k == 37) tt_ok (by kernel_rfl) (fun k => if k = 1 ∨ k = 4 then some .L else if k = 12 ∨ k = 14 then some .W else some .S) (.ones [0, 1, 2, 3, 4, 5, 6, 7, 8, 9, 10, 11, 12, 13, 14] .done) (by simp) (fun _ h => nomatch h) rfl rfl (by kernel_rfl) ?_
      have hr := hb.takes _ (List.getElem_mem hlt)
      have zr : sized 2 (b.recs[0].map Sp.d) = true := by simp [sized, Sp.d, dcells]
      have z0 : ((0 : Nat) : Int) = 0 := rfl
      have ix : idx? (b.recs.map recD) 0 = some (recD b.recs[0]) := by
        have := idx_nat (l := b.recs.map recD) 0
        simpa [hlt] using this
      simp only [go_sem, Nat.reduceBEq, Nat.reduceEqDiff, Nat.reduceLT, Nat.reduceLeDiff, Nat.reduceAdd, Nat.reduceSub, Nat.reduceMul, reduceCtorEq, Int.reduceToNat, Int.reduceEq, Int.reduceLT, Int.reduceLE, Int.reduceNe, Int.reduceNeg , or_self, or_false, false_or , List.length_map, Bool.or_true, Bool.true_or, Bool.or_false, Bool.false_or, z0, ix, recD, zr, hr]
      refine ⟨1, hlt, by omega, ?_⟩
      have tk : (b.recs.take 1) = [b.recs[0]] := by rw [List.take_succ_eq_append_getElem hlt]; rfl
      exact ForgetTo.same' (by simp) (by simp [EWe, Env.look, w64 (n := (1 : Int)) (by omega) (by omega)]) (by simp [bookV, tk, recD])
    · have hl0 : b.recs = [] := by
        have : ¬ 0 < b.recs.length := by simpa using hd
        exact List.length_eq_zero_iff.1 (by omega)
      simp only [go_sem, Nat.reduceBEq, Nat.reduceEqDiff, Nat.reduceLT, Nat.reduceLeDiff, Nat.reduceAdd, Nat.reduceSub, Nat.reduceMul, reduceCtorEq, Int.reduceToNat, Int.reduceEq, Int.reduceLT, Int.reduceLE, Int.reduceNe, Int.reduceNeg , or_self, or_false, false_or , List.length_map, Bool.or_true, Bool.true_or, Bool.or_false, Bool.false_or, hl0]
  · refine AWP.run (fun k => k == 17 || k == 37) tt_ok (fun _ h => nomatch h) (by simp) rfl ?_
    simp only [go_sem, Nat.reduceBEq, Nat.reduceEqDiff, Nat.reduceLT, Nat.reduceLeDiff, Nat.reduceAdd, Nat.reduceSub, Nat.reduceMul, reduceCtorEq, Int.reduceToNat, Int.reduceEq, Int.reduceLT, Int.reduceLE, Int.reduceNe, Int.reduceNeg , or_self, or_false, false_or , List.length_map, bookV, Bool.or_true, Bool.true_or, Bool.or_false, Bool.false_or]
    refine Br_split (fun hd => ?_) (fun hd => ?_) <;> simp only [go_sem, Nat.reduceBEq, Nat.reduceEqDiff, Nat.reduceLT, Nat.reduceLeDiff, Nat.reduceAdd, Nat.reduceSub, Nat.reduceMul, reduceCtorEq, Int.reduceToNat, Int.reduceEq, Int.reduceLT, Int.reduceLE, Int.reduceNe, Int.reduceNeg , or_self, or_false, false_or , List.length_map, hd, Bool.or_true, Bool.true_or, Bool.or_false, Bool.false_or]
    · have hlt : i + 1 < b.recs.length := by simp at hd; omega
      refine ADrw.treeG (fun k => k == 17 || k == 37) tt_ok (by kernel_rfl) (fun k => if k = 1 ∨ k = 4 then some .L else if k = 12 ∨ k = 14 then some .W else some .S) (.ones [0, 1, 2, 3, 4, 5, 6, 7, 8, 9, 10, 11, 12, 13, 14] .done) (by simp) (fun _ h => nomatch h) rfl rfl (by kernel_rfl) ?_
      have hr := hb.takes _ (List.getElem_mem hlt)
      have zr : sized 2 (b.recs[i + 1].map Sp.d) = true := by simp [sized, Sp.d, dcells]
      have hle : i + 1 + 1 ≤ 4294967296 := by omega
      have hmin : min (i + 1) b.recs.length = i + 1 := by omega
      simp only [go_sem, Nat.reduceBEq, Nat.reduceEqDiff, Nat.reduceLT, Nat.reduceLeDiff, Nat.reduceAdd, Nat.reduceSub, Nat.reduceMul, reduceCtorEq, Int.reduceToNat, Int.reduceEq, Int.reduceLT, Int.reduceLE, Int.reduceNe, Int.reduceNeg , or_self, or_false, false_or , List.length_map, Bool.or_true, Bool.true_or, Bool.or_false, Bool.false_or, idx_nat, List.getElem?_map, List.getElem?_eq_getElem hlt, recD, zr, hr, List.length_map, List.length_take, hmin, hle]
      refine ⟨i + 1 + 1, hlt, by omega, ?_⟩
      exact ForgetTo.same' (by simp) (by simp [EWe, Env.look, w64 (n := (i : Int) + 1 + 1) (by omega) (by omega)]) (by
        have tk := List.take_succ_eq_append_getElem hlt
        simp only [bookV, tk, List.map_append, List.map_cons, List.map_nil, recD])
    · have hnl : ¬ i + 1 < b.recs.length := by simp at hd; omega
      have htk : b.recs.take (i + 1) = b.recs := List.take_of_length_le (by omega)
      have hle : b.recs.length = i + 1 := by omega
      rw [htk]
      have ht : (b.recs.map recD).take (i + 1) = b.recs.map recD := List.take_of_length_le (by simp; omega)
      simp only [go_sem, Nat.reduceBEq, Nat.reduceEqDiff, Nat.reduceLT, Nat.reduceLeDiff, Nat.reduceAdd, Nat.reduceSub, Nat.reduceMul, reduceCtorEq, Int.reduceToNat, Int.reduceEq, Int.reduceLT, Int.reduceLE, Int.reduceNe, Int.reduceNeg , or_self, or_false, false_or , List.length_map, Bool.or_true, Bool.true_or, Bool.or_false, Bool.false_or, List.length_map, hle, ht]
end Go.Aw
end

section
namespace Go.Aw
open Go Go.Proofs Go.Proofs.Try

def upTo (s : Sp) : List Int := (List.range (s.hi - s.lo + 1).toNat).map fun k : Nat => s.lo + k

/-- All truths that begin so. -/
def truthsL : List Sp → List Int → List (List Int)
  | [], t => [t]
  | s :: r, t => (upTo s).flatMap fun n => truthsL r (t ++ [n])

def spansB (b : Book) (g : Nat) : List Sp := b.recs.map fun r => r.getD g ⟨0, 0⟩

def intsD (l : List Int) : D := .sl (l.map (.int .i64))

theorem upTo_len {s : Sp} (h : s.hi - s.lo < 8) : (upTo s).length ≤ 8 := by simp [upTo]; omega

theorem truthsL_len : ∀ (l : List Sp) (t : List Int), (∀ s ∈ l, s.hi - s.lo < 8) → (truthsL l t).length ≤ 8 ^ l.length
  | [], _, _ => by simp [truthsL]
  | s :: r, t, h => by
    simp only [truthsL, List.length_flatMap, List.length_cons, Nat.pow_succ]
    have h8 := upTo_len (h s (by simp))
    have : ∀ l : List Int, (l.map fun n => (truthsL r (t ++ [n])).length).sum ≤ 8 ^ r.length * l.length := by
      intro l
      induction l with
      | nil => simp
      | cons n l ih =>
        have := truthsL_len r (t ++ [n]) fun s hs => h s (List.mem_cons_of_mem _ hs)
        simp only [List.map_cons, List.sum_cons, List.length_cons, Nat.mul_add, Nat.mul_one]
        omega
    exact Nat.le_trans (this _) (Nat.mul_le_mul_left _ h8)

theorem c70 (b : Book) (hb : b.Ok) (g : Nat) (hg : g < b.stock.length) : ∀ (m : Nat) (t : List Int), t.length + m = b.recs.length → PC prog 70 [.d b.d, .d (.int .i64 g), .d (.sl (t.map (.int .i64)))] (.d (.sl ((truthsL ((spansB b g).drop t.length) t).map intsD))) := by
  have hr3 := hb.r3
  intro m
  induction m with
  | zero =>
    intro t ht
    refine PC.run (fun k => k == 17 || k == 42 || k == 47) tt_ok (fn := f70) (rs := [.tmp 6]) rfl rfl rfl rfl rfl rfl rfl ?_
    have htt : (t.length : Int) = (b.recs.length : Int) := by omega
    have hd : (spansB b g).drop t.length = [] := List.drop_of_length_le (by simp [spansB]; omega)
    simp only [go_sem, Nat.reduceBEq, Nat.reduceEqDiff, Nat.reduceLT, Nat.reduceLeDiff, Nat.reduceAdd, Nat.reduceSub, Nat.reduceMul, reduceCtorEq, Int.reduceToNat, Int.reduceEq, Int.reduceLT, Int.reduceLE, Int.reduceNe, Int.reduceNeg , or_self, or_false, false_or , List.length_map, Book.d, Bool.or_true, Bool.true_or, Bool.or_false, Bool.false_or, htt, hd, truthsL, intsD]
  | succ m ih =>
    intro t ht
    have hlt : t.length < b.recs.length := by omega
    refine PC.run (fun k => k == 17 || k == 42 || k == 47) tt_ok (fn := f70) (rs := [.tmp 6]) rfl rfl rfl rfl rfl rfl rfl ?_
    have htt : ¬ (t.length : Int) = (b.recs.length : Int) := by omega
    simp only [go_sem, Nat.reduceBEq, Nat.reduceEqDiff, Nat.reduceLT, Nat.reduceLeDiff, Nat.reduceAdd, Nat.reduceSub, Nat.reduceMul, reduceCtorEq, Int.reduceToNat, Int.reduceEq, Int.reduceLT, Int.reduceLE, Int.reduceNe, Int.reduceNeg , or_self, or_false, false_or , List.length_map, Book.d, Bool.or_true, Bool.true_or, Bool.or_false, Bool.false_or, htt]
    refine ADrw.treeG (fun k => k == 17 || k == 42 || k == 47) tt_ok (by kernel_rfl) (fun k => if k = 2 then some .L else if k = 11 then some .A else if k = 13 then some .W else some .S) (.ones [0, 1, 2, 3, 4, 5, 6, 7, 8, 9, 10, 11, 12, 13] .done) (by simp) (fun _ h => nomatch h) rfl rfl (by kernel_rfl) ?_
    have hrl := (hb.rv _ (List.getElem_mem hlt)).1
    have hgl : g < b.recs[t.length].length := by omega
    simp only [go_sem, Nat.reduceBEq, Nat.reduceEqDiff, Nat.reduceLT, Nat.reduceLeDiff, Nat.reduceAdd, Nat.reduceSub, Nat.reduceMul, reduceCtorEq, Int.reduceToNat, Int.reduceEq, Int.reduceLT, Int.reduceLE, Int.reduceNe, Int.reduceNeg , or_self, or_false, false_or , List.length_map, Bool.or_true, Bool.true_or, Bool.or_false, Bool.false_or, idx_nat, List.getElem?_map, List.getElem?_eq_getElem hlt, recD, List.getElem?_eq_getElem hgl, Sp.d]
    have hsp : b.recs[t.length][g] ∈ b.recs[t.length] := List.getElem_mem hgl
    have hsv := (hb.rv _ (List.getElem_mem hlt)).2 _ hsp
    have hdr : (spansB b g).drop t.length = b.recs[t.length][g] :: (spansB b g).drop (t.length + 1) := by
      rw [List.drop_eq_getElem_cons (by simp [spansB]; omega)]
      simp [spansB, hgl]
    have hall : ∀ s ∈ (spansB b g).drop (t.length + 1), s.hi - s.lo < 8 := by
      intro s hs
      obtain ⟨r, hr, rfl⟩ := List.mem_map.1 (List.mem_of_mem_drop hs)
      have := (hb.rv r hr).1
      rw [getD_eq (by omega)]
      exact ((hb.rv r hr).2 _ (List.getElem_mem _)).2.2.2
    have hln := truthsL_len ((spansB b g).drop (t.length + 1))
    rw [hdr, truthsL]
    generalize (spansB b g).drop (t.length + 1) = tl at *
    generalize b.recs[t.length][g] = s at *
    have ulen : (upTo s).length = (s.hi - s.lo + 1).toNat := by simp [upTo]
    have tlm : tl.length = m := by
      have := congrArg List.length hdr
      simp [spansB] at this; omega
    obtain ⟨L, hL⟩ : ∃ L : Nat → List (List Int), ∀ i, L i = ((upTo s).take i).flatMap fun n => truthsL tl (t ++ [n]) := ⟨_, fun _ => rfl⟩
    have hbd : ∀ i, (L i).length ≤ 512 := by
      intro i
      have h1 := truthsL_len (s :: tl) t (by intro x hx; rcases List.mem_cons.1 hx with rfl | hx; exact hsv.2.2.2; exact hall x hx)
      have h2 : (truthsL (s :: tl) t) = L i ++ ((upTo s).drop i).flatMap fun n => truthsL tl (t ++ [n]) := by
        rw [hL, ← List.flatMap_append, List.take_append_drop]; rfl
      have h3 : 8 ^ (s :: tl).length ≤ 8 ^ 3 := Nat.pow_le_pow_right (by omega) (by simp; omega)
      rw [h2, List.length_append] at h1
      omega
    have hstep : ∀ i (h : i < (upTo s).length), L (i + 1) = L i ++ truthsL tl (t ++ [s.lo + (i : Int)]) := by
      intro i h
      rw [hL, hL, List.take_succ_eq_append_getElem h, List.flatMap_append]
      simp [upTo]
    have hend : ((upTo s).flatMap fun n => truthsL tl (t ++ [n])) = L (s.hi - s.lo + 1).toNat := by rw [hL, ← ulen, List.take_length]
    have hz : L 0 = [] := by rw [hL]; rfl
    have tl1 : ∀ x : Int, (spansB b g).drop (t ++ [x]).length = tl := by
      intro x
      have := List.drop_drop (i := 1) (j := t.length) (l := spansB b g)
      rw [hdr] at this
      simpa using this.symm
    have t1 : sized 1 (t.map (D.int .i64)) = true := by simp [sized, dcells]
    have t2 : t.length ≤ 4294967296 := by omega
    have t3 : t.length + 1 ≤ 4294967296 := by omega
    have sz : ∀ l : List (List Int), sized 1 (l.map intsD) = true := fun l => by simp [sized, intsD, dcells]
    have fz : ∀ x : Int, ((t.map (D.int .i64) ++ [D.int .i64 x]).take (t.length + 1)) = (t ++ [x]).map (D.int .i64) := fun x => by
      rw [List.take_of_length_le (by simp)]; simp
    rw [hend]
    clear hend
    refine ALoop.by (S := Nat) (fun i => match i with
      | 0 => [(9, .d (.int .i64 s.lo)), (7, .slx (some false) []), (8, .ptr 1 0), (3, .ptr 0 0), (1, .d (.int .i64 g)), (2, .d (.sl (t.map (.int .i64))))]
      | i + 1 => [(9, .d (.int .i64 (s.lo + (i + 1 : Nat)))), (7, .ref 3 (L (i + 1)).length 0 (L (i + 1)).length), (8, .ptr 1 0), (3, .ptr 0 0), (1, .d (.int .i64 g)), (2, .d (.sl (t.map (.int .i64))))])
      (fun i => match i with
        | 0 => [.cells (bookV b), .cells [.d (.int .i64 s.lo), .d (.int .i64 s.hi)]]
        | i + 1 => [.cells (bookV b), .cells [.d (.int .i64 s.lo), .d (.int .i64 s.hi)], .arr 1 false (t.map (D.int .i64) ++ [D.int .i64 s.lo] ++ [.nilp]), .arr 1 false ((L (i + 1)).map intsD)]) (fun i => (s.hi - s.lo + 1).toNat - i) (fun i => i ≤ (s.hi - s.lo + 1).toNat) 0 (by simp) (fun _ h => nomatch h) (Nat.zero_le _) ?_ ?_
    · exact ForgetTo.same' (by simp) (by simp [EWe, Env.look]) (by simp [bookV])
    rintro i hi hn
    rcases i with _ | i
    · refine AWP.run (fun k => k == 17 || k == 42 || k == 47) tt_ok (fun _ h => nomatch h) (by simp) rfl ?_
      have hle : s.lo ≤ s.hi := hsv.2.1
      have hu : 0 < (upTo s).length := by omega
      have hL1 : L 1 = truthsL tl (t ++ [s.lo]) := by rw [hstep 0 hu, hz]; simp
      have hb1 := hbd 1
      rw [hL1] at hb1
      have hb2 : (truthsL tl (t ++ [s.lo])).length ≤ 4294967296 := by omega
      simp only [go_sem, Nat.reduceBEq, Nat.reduceEqDiff, Nat.reduceLT, Nat.reduceLeDiff, Nat.reduceAdd, Nat.reduceSub, Nat.reduceMul, reduceCtorEq, Int.reduceToNat, Int.reduceEq, Int.reduceLT, Int.reduceLE, Int.reduceNe, Int.reduceNeg , or_self, or_false, false_or , List.length_map, Bool.or_true, Bool.true_or, Bool.or_false, Bool.false_or, bookV, hle]
      refine ADrw.treeG (fun k => k == 17 || k == 42 || k == 47) tt_ok (by kernel_rfl) (fun k => if k = 1 then some .L else if k = 5 ∨ k = 8 ∨ k = 9 ∨ k = 10 then some .W else some .S) (.ones [0, 2, 3, 4, 6, 7] (.two 1 (.ones [5, 8, 9, 10, 11] .done) 5 (.two 1 (.ones [8, 9, 10, 11] .done) 8 (.ones [1, 9, 10, 11] .done)))) (by simp) (fun _ h => nomatch h) rfl rfl (by kernel_rfl) ?_
      simp only [go_sem, Nat.reduceBEq, Nat.reduceEqDiff, Nat.reduceLT, Nat.reduceLeDiff, Nat.reduceAdd, Nat.reduceSub, Nat.reduceMul, reduceCtorEq, Int.reduceToNat, Int.reduceEq, Int.reduceLT, Int.reduceLE, Int.reduceNe, Int.reduceNeg , or_self, or_false, false_or , List.length_map, Bool.or_true, Bool.true_or, Bool.or_false, Bool.false_or, t1, t2, t3]
      have ih1 := ih (t ++ [s.lo]) (by simp; omega)
      rw [tl1] at ih1
      refine ⟨?_, ?_, ?_⟩
      all_goals
        refine PC.callF 2 ih1 rfl rfl (by simp [frzVs, frzV, fz, Book.d, dz]) rfl rfl ?_
        simp only [go_sem, Nat.reduceBEq, Nat.reduceEqDiff, Nat.reduceLT, Nat.reduceLeDiff, Nat.reduceAdd, Nat.reduceSub, Nat.reduceMul, reduceCtorEq, Int.reduceToNat, Int.reduceEq, Int.reduceLT, Int.reduceLE, Int.reduceNe, Int.reduceNeg , or_self, or_false, false_or , List.length_map, Bool.or_true, Bool.true_or, Bool.or_false, Bool.false_or, sz, hb2]
        refine ⟨1, by omega, by omega, ?_⟩
        exact ForgetTo.same' (by simp) (by simp [EWe, Env.look, hL1, w64 (n := s.lo + 1) (by omega) (by omega)]) (by simp [bookV, hL1])
    · refine AWP.run (fun k => k == 17 || k == 42 || k == 47) tt_ok (fun _ h => nomatch h) (by simp) rfl ?_
      simp only [go_sem, Nat.reduceBEq, Nat.reduceEqDiff, Nat.reduceLT, Nat.reduceLeDiff, Nat.reduceAdd, Nat.reduceSub, Nat.reduceMul, reduceCtorEq, Int.reduceToNat, Int.reduceEq, Int.reduceLT, Int.reduceLE, Int.reduceNe, Int.reduceNeg , or_self, or_false, false_or , List.length_map, Bool.or_true, Bool.true_or, Bool.or_false, Bool.false_or, bookV]
      have hb1 := hbd (i + 1)
      refine Br_split (fun hd => ?_) (fun hd => ?_) <;> simp only [go_sem, Nat.reduceBEq, Nat.reduceEqDiff, Nat.reduceLT, Nat.reduceLeDiff, Nat.reduceAdd, Nat.reduceSub, Nat.reduceMul, reduceCtorEq, Int.reduceToNat, Int.reduceEq, Int.reduceLT, Int.reduceLE, Int.reduceNe, Int.reduceNeg , or_self, or_false, false_or , List.length_map, Bool.or_true, Bool.true_or, Bool.or_false, Bool.false_or, hd]
      · have hlt2 : i + 1 < (upTo s).length := by simp at hd; omega
        have hL1 := hstep (i + 1) hlt2
        have hb2 := hbd (i + 1 + 1)
        have hb3 : (L (i + 1)).length + (truthsL tl (t ++ [s.lo + ((i + 1 : Nat) : Int)])).length ≤ 4294967296 := by
          rw [hL1, List.length_append] at hb2; omega
        refine ADrw.treeG (fun k => k == 17 || k == 42 || k == 47) tt_ok (by kernel_rfl) (fun k => if k = 1 then some .L else if k = 5 ∨ k = 8 ∨ k = 9 ∨ k = 10 then some .W else some .S) (.ones [0, 2, 3, 4, 6, 7] (.two 1 (.ones [5, 8, 9, 10, 11] .done) 5 (.two 1 (.ones [8, 9, 10, 11] .done) 8 (.ones [1, 9, 10, 11] .done)))) (by simp) (fun _ h => nomatch h) rfl rfl (by kernel_rfl) ?_
        simp only [go_sem, Nat.reduceBEq, Nat.reduceEqDiff, Nat.reduceLT, Nat.reduceLeDiff, Nat.reduceAdd, Nat.reduceSub, Nat.reduceMul, reduceCtorEq, Int.reduceToNat, Int.reduceEq, Int.reduceLT, Int.reduceLE, Int.reduceNe, Int.reduceNeg , or_self, or_false, false_or , List.length_map, Bool.or_true, Bool.true_or, Bool.or_false, Bool.false_or, t1, t2, t3]
        have ih1 := ih (t ++ [s.lo + ((i + 1 : Nat) : Int)]) (by simp; omega)
        rw [tl1] at ih1
        refine ⟨?_, ?_, ?_⟩
        all_goals
          refine PC.callF 4 ih1 rfl rfl (by simp [frzVs, frzV, fz, Book.d, dz]) rfl rfl ?_
          simp only [go_sem, Nat.reduceBEq, Nat.reduceEqDiff, Nat.reduceLT, Nat.reduceLeDiff, Nat.reduceAdd, Nat.reduceSub, Nat.reduceMul, reduceCtorEq, Int.reduceToNat, Int.reduceEq, Int.reduceLT, Int.reduceLE, Int.reduceNe, Int.reduceNeg , or_self, or_false, false_or , List.length_map, Bool.or_true, Bool.true_or, Bool.or_false, Bool.false_or, sz, hb3]
          refine ⟨i + 1 + 1, by omega, by omega, ?_⟩
          simp [ForgetTo, EW, VW, BBq, BBs, BB, VBs, VB, Env.look, pubV, bookV, hL1, w64 (n := s.lo + ((i : Int) + 1) + 1) (by omega) (by omega)]
          try omega
      · have hend : i + 1 = (s.hi - s.lo + 1).toNat := by simp at hd; omega
        rw [← hend]
        have ht1 : ((L (i + 1)).map intsD).take (L (i + 1)).length = (L (i + 1)).map intsD := List.take_of_length_le (by simp)
        simp only [go_sem, Nat.reduceBEq, Nat.reduceEqDiff, Nat.reduceLT, Nat.reduceLeDiff, Nat.reduceAdd, Nat.reduceSub, Nat.reduceMul, reduceCtorEq, Int.reduceToNat, Int.reduceEq, Int.reduceLT, Int.reduceLE, Int.reduceNe, Int.reduceNeg , or_self, or_false, false_or , List.length_map, Bool.or_true, Bool.true_or, Bool.or_false, Bool.false_or, ht1]
end Go.Aw
end

section
namespace Go.Aw
open Go Go.Proofs Go.Proofs.Try

def lessW (day : Int) (t : List Int) (n : Int) (m : Mad) : Int := if m.day ≤ day then wr (n - wr (m.many * t.getD m.kind.toNat 0)) else n

def restR (b : Book) (g : Nat) (day : Int) (t : List Int) : Int := b.made.foldl (lessW day t) (b.ents.foldl (sumW g day) (b.stock.getD g 0))

theorem foldl_at {α β : Type} {f : β → α → β} {l : List α} {i : Nat} (h : i < l.length) (a : β) : (l.take (i + 1)).foldl f a = f ((l.take i).foldl f a) l[i] := by
  rw [List.take_succ_eq_append_getElem h, List.foldl_append]; rfl

theorem c71 (b : Book) (hb : b.Fits) (g : Nat) (hg : g < b.stock.length) (day : Int) (t : List Int) (hk : ∀ m ∈ b.made, 0 ≤ m.kind ∧ m.kind < t.length) : PC prog 71 [.d b.d, .d (.int .i64 g), .d (.int .i64 day), .d (.sl (t.map (.int .i64)))] (.d (.int .i64 (restR b g day t))) := by
  have h1 := hb.stock
  have h2 := hb.ents
  have h3 := hb.made
  refine PC.run (fun _ => false) tt_ok (fn := f71) (rs := [.tmp 8]) rfl rfl rfl rfl rfl rfl rfl ?_
  simp only [go_sem, Nat.reduceBEq, Nat.reduceEqDiff, Nat.reduceLT, Nat.reduceLeDiff, Nat.reduceAdd, Nat.reduceSub, Nat.reduceMul, reduceCtorEq, Int.reduceToNat, Int.reduceEq, Int.reduceLT, Int.reduceLE, Int.reduceNe, Int.reduceNeg , or_self, or_false, false_or , List.length_map, Book.d, idx_nat, List.getElem?_map, List.getElem?_eq_getElem hg]
  refine ALoop.by (S := Nat) (fun i => [(10, .d (.int .i64 i)), (9, .d (.int .i64 ((b.ents.take i).foldl (sumW g day) (b.stock.getD g 0)))), (4, .ptr 0 0), (1, .d (.int .i64 g)), (2, .d (.int .i64 day)), (3, .d (.sl (t.map (.int .i64))))]) (fun _ => [.cells (bookV b)]) (fun i => b.ents.length - i) (fun i => i ≤ b.ents.length) 0 (by simp) (fun _ h => nomatch h) (Nat.zero_le _) ?_ ?_
  · exact ForgetTo.same' (by simp) (by simp [EWe, Env.look, hg]) (by simp [bookV])
  rintro i hi hn
  refine AWP.run (fun _ => false) tt_ok (fun _ h => nomatch h) (by simp) rfl ?_
  simp only [go_sem, Nat.reduceBEq, Nat.reduceEqDiff, Nat.reduceLT, Nat.reduceLeDiff, Nat.reduceAdd, Nat.reduceSub, Nat.reduceMul, reduceCtorEq, Int.reduceToNat, Int.reduceEq, Int.reduceLT, Int.reduceLE, Int.reduceNe, Int.reduceNeg , or_self, or_false, false_or , List.length_map, bookV]
  refine Br_split (fun hd => ?_) (fun hd => ?_) <;> simp only [go_sem, Nat.reduceBEq, Nat.reduceEqDiff, Nat.reduceLT, Nat.reduceLeDiff, Nat.reduceAdd, Nat.reduceSub, Nat.reduceMul, reduceCtorEq, Int.reduceToNat, Int.reduceEq, Int.reduceLT, Int.reduceLE, Int.reduceNe, Int.reduceNeg , or_self, or_false, false_or , List.length_map, hd]
  · have hlt : i < b.ents.length := by simpa using hd
    have hf := foldl_at (f := sumW g day) hlt (b.stock.getD g 0)
    simp only [go_sem, Nat.reduceBEq, Nat.reduceEqDiff, Nat.reduceLT, Nat.reduceLeDiff, Nat.reduceAdd, Nat.reduceSub, Nat.reduceMul, reduceCtorEq, Int.reduceToNat, Int.reduceEq, Int.reduceLT, Int.reduceLE, Int.reduceNe, Int.reduceNeg , or_self, or_false, false_or , List.length_map, idx_nat, List.getElem?_map, List.getElem?_eq_getElem hlt, Ent.d]
    refine Br_split (fun e1 => ?_) (fun e1 => ?_) <;> simp only [go_sem, Nat.reduceBEq, Nat.reduceEqDiff, Nat.reduceLT, Nat.reduceLeDiff, Nat.reduceAdd, Nat.reduceSub, Nat.reduceMul, reduceCtorEq, Int.reduceToNat, Int.reduceEq, Int.reduceLT, Int.reduceLE, Int.reduceNe, Int.reduceNeg , or_self, or_false, false_or , List.length_map, e1]
    · have e1' : b.ents[i].goods = g := by simpa using e1
      refine Br_split (fun e2 => ?_) (fun e2 => ?_) <;> simp only [go_sem, Nat.reduceBEq, Nat.reduceEqDiff, Nat.reduceLT, Nat.reduceLeDiff, Nat.reduceAdd, Nat.reduceSub, Nat.reduceMul, reduceCtorEq, Int.reduceToNat, Int.reduceEq, Int.reduceLT, Int.reduceLE, Int.reduceNe, Int.reduceNeg , or_self, or_false, false_or , List.length_map, e2]
      · have e2' : b.ents[i].day ≤ day := by simpa using e2
        refine ⟨i + 1, hlt, by omega, ?_⟩
        rw [hf]
        simp [ForgetTo, EW, VW, BBq, BBs, BB, VBs, VB, Env.look, pubV, bookV, sumW, e1', e2', w64 (n := (i : Int) + 1) (by omega) (by omega)]
      · have e2' : ¬ b.ents[i].day ≤ day := by simpa using e2
        refine ⟨i + 1, hlt, by omega, ?_⟩
        rw [hf]
        simp [ForgetTo, EW, VW, BBq, BBs, BB, VBs, VB, Env.look, pubV, bookV, sumW, e1', e2', w64 (n := (i : Int) + 1) (by omega) (by omega)]
    · have e1' : ¬ b.ents[i].goods = g := by simpa using e1
      refine ⟨i + 1, hlt, by omega, ?_⟩
      rw [hf]
      simp [ForgetTo, EW, VW, BBq, BBs, BB, VBs, VB, Env.look, pubV, bookV, sumW, e1', w64 (n := (i : Int) + 1) (by omega) (by omega)]
  have hnl : ¬ i < b.ents.length := by simpa using hd
  rw [show b.ents.take i = b.ents from List.take_of_length_le (by omega), restR]
  generalize b.ents.foldl (sumW g day) (b.stock.getD g 0) = n0
  refine ALoop.by (S := Nat) (fun i => [(12, .d (.int .i64 i)), (9, .d (.int .i64 ((b.made.take i).foldl (lessW day t) n0))), (4, .ptr 0 0), (2, .d (.int .i64 day)), (3, .d (.sl (t.map (.int .i64))))]) (fun _ => [.cells (bookV b)]) (fun i => b.made.length - i) (fun i => i ≤ b.made.length) 0 (by simp) (fun _ h => nomatch h) (Nat.zero_le _) ?_ ?_
  · exact ForgetTo.same' (by simp) (by simp [EWe, Env.look]) (by simp [bookV])
  clear hi hn hd hnl
  rintro i hi hn
  refine AWP.run (fun _ => false) tt_ok (fun _ h => nomatch h) (by simp) rfl ?_
  simp only [go_sem, Nat.reduceBEq, Nat.reduceEqDiff, Nat.reduceLT, Nat.reduceLeDiff, Nat.reduceAdd, Nat.reduceSub, Nat.reduceMul, reduceCtorEq, Int.reduceToNat, Int.reduceEq, Int.reduceLT, Int.reduceLE, Int.reduceNe, Int.reduceNeg , or_self, or_false, false_or , List.length_map, bookV]
  refine Br_split (fun hd => ?_) (fun hd => ?_) <;> simp only [go_sem, Nat.reduceBEq, Nat.reduceEqDiff, Nat.reduceLT, Nat.reduceLeDiff, Nat.reduceAdd, Nat.reduceSub, Nat.reduceMul, reduceCtorEq, Int.reduceToNat, Int.reduceEq, Int.reduceLT, Int.reduceLE, Int.reduceNe, Int.reduceNeg , or_self, or_false, false_or , List.length_map, hd]
  · have hlt : i < b.made.length := by simpa using hd
    have hf := foldl_at (f := lessW day t) hlt n0
    obtain ⟨k1, k2⟩ := hk _ (List.getElem_mem hlt)
    simp only [go_sem, Nat.reduceBEq, Nat.reduceEqDiff, Nat.reduceLT, Nat.reduceLeDiff, Nat.reduceAdd, Nat.reduceSub, Nat.reduceMul, reduceCtorEq, Int.reduceToNat, Int.reduceEq, Int.reduceLT, Int.reduceLE, Int.reduceNe, Int.reduceNeg , or_self, or_false, false_or , List.length_map, idx_nat, List.getElem?_map, List.getElem?_eq_getElem hlt, Mad.d]
    refine Br_split (fun e1 => ?_) (fun e1 => ?_) <;> simp only [go_sem, Nat.reduceBEq, Nat.reduceEqDiff, Nat.reduceLT, Nat.reduceLeDiff, Nat.reduceAdd, Nat.reduceSub, Nat.reduceMul, reduceCtorEq, Int.reduceToNat, Int.reduceEq, Int.reduceLT, Int.reduceLE, Int.reduceNe, Int.reduceNeg , or_self, or_false, false_or , List.length_map, e1]
    · have e1' : b.made[i].day ≤ day := by simpa using e1
      obtain ⟨k, hke⟩ : ∃ k : Nat, b.made[i].kind = k := ⟨b.made[i].kind.toNat, by omega⟩
      have hkt : k < t.length := by omega
      refine ADrw.treeG (fun _ => false) tt_ok (by kernel_rfl) (fun k => if k = 2 ∨ k = 5 then some .L else some .S) (.ones [0, 1, 2, 3, 4, 5, 6, 7, 8, 9, 10] .done) (by simp) (fun _ h => nomatch h) rfl rfl (by kernel_rfl) ?_
      simp only [go_sem, Nat.reduceBEq, Nat.reduceEqDiff, Nat.reduceLT, Nat.reduceLeDiff, Nat.reduceAdd, Nat.reduceSub, Nat.reduceMul, reduceCtorEq, Int.reduceToNat, Int.reduceEq, Int.reduceLT, Int.reduceLE, Int.reduceNe, Int.reduceNeg , or_self, or_false, false_or , List.length_map, hke, idx_nat, List.getElem?_map, List.getElem?_eq_getElem hkt]
      refine ⟨i + 1, hlt, by omega, ?_⟩
      rw [hf]
      simp [ForgetTo, EW, VW, BBq, BBs, BB, VBs, VB, Env.look, pubV, bookV, lessW, e1', hke, hkt, w64 (n := (i : Int) + 1) (by omega) (by omega)]
    · have e1' : ¬ b.made[i].day ≤ day := by simpa using e1
      refine ⟨i + 1, hlt, by omega, ?_⟩
      rw [hf]
      simp [ForgetTo, EW, VW, BBq, BBs, BB, VBs, VB, Env.look, pubV, bookV, lessW, e1', w64 (n := (i : Int) + 1) (by omega) (by omega)]
  have hnl : ¬ i < b.made.length := by simpa using hd
  rw [show b.made.take i = b.made from List.take_of_length_le (by omega)]
end Go.Aw
end

section
namespace Go.Aw
open Go Go.Proofs Go.Proofs.Try

def wide (r : Int) (s : Sp) : Sp := ⟨min s.lo r, max s.hi r⟩

def truthsB (b : Book) (g : Nat) : List (List Int) := truthsL (spansB b g) []

def leftsR (b : Book) (g : Nat) (day : Int) (T : List (List Int)) : Sp :=
  (T.drop 1).foldl (fun s x => wide (restR b g day x) s) ⟨restR b g day (T.getD 0 []), restR b g day (T.getD 0 [])⟩

def leftR (b : Book) (g : Nat) (day : Int) : Sp := leftsR b g day (truthsB b g)

theorem truthsL_each : ∀ (l : List Sp) (t : List Int), ∀ x ∈ truthsL l t, x.length = t.length + l.length
  | [], t, x, h => by simp [truthsL] at h; subst h; rfl
  | s :: r, t, x, h => by
    obtain ⟨n, _, h⟩ := List.mem_flatMap.1 h
    have := truthsL_each r (t ++ [n]) x h
    simp at this ⊢; omega

theorem truthsL_some : ∀ (l : List Sp) (t : List Int), (∀ s ∈ l, s.lo ≤ s.hi) → 0 < (truthsL l t).length
  | [], t, _ => by simp [truthsL]
  | s :: r, t, h => by
    have h0 := h s (by simp)
    have hu : 0 < (upTo s).length := by simp [upTo]; omega
    have := truthsL_some r (t ++ [(upTo s)[0]]) fun s hs => h s (List.mem_cons_of_mem _ hs)
    obtain ⟨x, hx⟩ := List.exists_mem_of_length_pos this
    exact List.length_pos_of_mem (List.mem_flatMap.2 ⟨_, List.getElem_mem hu, hx⟩)

theorem Book.Ok.spansB {b : Book} (hb : b.Ok) {g : Nat} (hg : g < b.stock.length) : ∀ s ∈ spansB b g, 0 ≤ s.lo ∧ s.lo ≤ s.hi ∧ s.hi ≤ 50 ∧ s.hi - s.lo < 8 := by
  intro s hs
  obtain ⟨r, hr, rfl⟩ := List.mem_map.1 hs
  have := (hb.rv r hr).1
  rw [getD_eq (by omega)]
  exact (hb.rv r hr).2 _ (List.getElem_mem _)

theorem c22 (b : Book) (hb : b.Ok) (g : Nat) (hg : g < b.stock.length) (day : Int) : PC prog 22 [.d b.d, .d (.int .i64 g), .d (.int .i64 day)] (.d (leftR b g day).d) := by
  have hsp := hb.spansB hg
  have hT0 := truthsL_some (spansB b g) [] fun s hs => (hsp s hs).2.1
  have hTl := truthsL_each (spansB b g) []
  have hTn := truthsL_len (spansB b g) [] fun s hs => (hsp s hs).2.2.2
  have hsl : (spansB b g).length = b.recs.length := by simp [Go.Aw.spansB]
  have hTn2 : 8 ^ (spansB b g).length ≤ 8 ^ 3 := Nat.pow_le_pow_right (by omega) (by have := hb.r3; omega)
  have ht := c70 b hb g hg b.recs.length [] (by simp)
  simp only [List.length_nil, List.drop_zero] at ht
  rw [leftR, truthsB]
  generalize truthsL (spansB b g) [] = T at *
  have hr : ∀ x ∈ T, PC prog 71 [.d b.d, .d (.int .i64 g), .d (.int .i64 day), .d (.sl (x.map (.int .i64)))] (.d (.int .i64 (restR b g day x))) := fun x hx =>
    c71 b hb.fits g hg day x fun m hm => by
      have := hTl x hx
      have := (hb.mv m hm).2.1
      simp at *; omega
  refine PC.run (fun _ => false) tt_ok (fn := f22) (rs := [.cell 6 40]) rfl rfl rfl rfl rfl rfl rfl ?_
  simp only [go_sem, Nat.reduceBEq, Nat.reduceEqDiff, Nat.reduceLT, Nat.reduceLeDiff, Nat.reduceAdd, Nat.reduceSub, Nat.reduceMul, reduceCtorEq, Int.reduceToNat, Int.reduceEq, Int.reduceLT, Int.reduceLE, Int.reduceNe, Int.reduceNeg , or_self, or_false, false_or , List.length_map, Book.d]
  refine ht.call rfl rfl rfl ?_
  simp only [go_sem, Nat.reduceBEq, Nat.reduceEqDiff, Nat.reduceLT, Nat.reduceLeDiff, Nat.reduceAdd, Nat.reduceSub, Nat.reduceMul, reduceCtorEq, Int.reduceToNat, Int.reduceEq, Int.reduceLT, Int.reduceLE, Int.reduceNe, Int.reduceNeg , or_self, or_false, false_or , List.length_map]
  have ix : idx? (T.map intsD) 0 = some (intsD T[0]) := by
    have := idx_nat (T.map intsD) 0
    simpa [hT0] using this
  refine ADrw.treeG (fun _ => false) tt_ok (by kernel_rfl) (fun k => if k = 0 ∨ k = 7 then some .L else if k = 15 then some .A else if k = 16 then some .W else some .S) (.ones [0, 1, 2, 3, 4, 5, 6, 7, 8, 9, 10, 11, 12, 13, 14, 15, 16] .done) (by simp) (fun _ h => nomatch h) rfl rfl (by kernel_rfl) ?_
  simp only [go_sem, Nat.reduceBEq, Nat.reduceEqDiff, Nat.reduceLT, Nat.reduceLeDiff, Nat.reduceAdd, Nat.reduceSub, Nat.reduceMul, reduceCtorEq, Int.reduceToNat, Int.reduceEq, Int.reduceLT, Int.reduceLE, Int.reduceNe, Int.reduceNeg , or_self, or_false, false_or , List.length_map, ix, intsD]
  refine (hr T[0] (List.getElem_mem hT0)).callS rfl rfl rfl rfl rfl rfl ?_
  simp only [go_sem, Nat.reduceBEq, Nat.reduceEqDiff, Nat.reduceLT, Nat.reduceLeDiff, Nat.reduceAdd, Nat.reduceSub, Nat.reduceMul, reduceCtorEq, Int.reduceToNat, Int.reduceEq, Int.reduceLT, Int.reduceLE, Int.reduceNe, Int.reduceNeg , or_self, or_false, false_or , List.length_map, ix, intsD]
  refine (hr T[0] (List.getElem_mem hT0)).callS rfl rfl rfl rfl rfl rfl ?_
  simp only [go_sem, Nat.reduceBEq, Nat.reduceEqDiff, Nat.reduceLT, Nat.reduceLeDiff, Nat.reduceAdd, Nat.reduceSub, Nat.reduceMul, reduceCtorEq, Int.reduceToNat, Int.reduceEq, Int.reduceLT, Int.reduceLE, Int.reduceNe, Int.reduceNeg , or_self, or_false, false_or , List.length_map]
  have st0 : leftsR b g day (T.take 1) = ⟨restR b g day T[0], restR b g day T[0]⟩ := by
    rw [List.take_succ_eq_append_getElem hT0]; simp [leftsR]
  have stn : ∀ i (h : i + 1 < T.length), leftsR b g day (T.take (i + 1 + 1)) = wide (restR b g day T[i + 1]) (leftsR b g day (T.take (i + 1))) := by
    intro i h
    have e : ∀ k, (T.take (k + 1)).getD 0 [] = T.getD 0 [] := fun k => by simp [List.getElem?_take]
    simp only [leftsR, e, List.drop_take]
    rw [show i + 1 + 1 - 1 = i + 1 from rfl, show i + 1 - 1 = i from rfl, foldl_at (by simp; omega)]
    simp [Nat.add_comm]
  refine ALoop.by (S := Nat) (fun i => [(9, .d (.int .i64 (i + 1 : Nat))), (8, .ptr 2 0), (7, .d (.sl (T.map intsD))), (6, .ptr 1 0), (3, .ptr 0 0), (1, .d (.int .i64 g)), (2, .d (.int .i64 day))])
    (fun i => [.cells (bookV b), .cells [.d (.int .i64 0), .d (.int .i64 0)], .cells [.d (.int .i64 (leftsR b g day (T.take (i + 1))).lo), .d (.int .i64 (leftsR b g day (T.take (i + 1))).hi)]]) (fun i => T.length - i) (fun i => i + 1 ≤ T.length) 0 (by simp) (fun _ h => nomatch h) hT0 ?_ ?_
  · exact ForgetTo.same' (by simp) (by simp [EWe, Env.look]) (by simp [bookV, st0])
  rintro i hi hn
  refine AWP.run (fun _ => false) tt_ok (fun _ h => nomatch h) (by simp) rfl ?_
  simp only [go_sem, Nat.reduceBEq, Nat.reduceEqDiff, Nat.reduceLT, Nat.reduceLeDiff, Nat.reduceAdd, Nat.reduceSub, Nat.reduceMul, reduceCtorEq, Int.reduceToNat, Int.reduceEq, Int.reduceLT, Int.reduceLE, Int.reduceNe, Int.reduceNeg , or_self, or_false, false_or , List.length_map, bookV]
  refine Br_split (fun hd => ?_) (fun hd => ?_) <;> simp only [go_sem, Nat.reduceBEq, Nat.reduceEqDiff, Nat.reduceLT, Nat.reduceLeDiff, Nat.reduceAdd, Nat.reduceSub, Nat.reduceMul, reduceCtorEq, Int.reduceToNat, Int.reduceEq, Int.reduceLT, Int.reduceLE, Int.reduceNe, Int.reduceNeg , or_self, or_false, false_or , List.length_map, hd]
  · have hlt : i + 1 < T.length := by simp at hd; omega
    have hs := stn i hlt
    refine ADrw.treeG (fun _ => false) tt_ok (by kernel_rfl) (fun k => if k = 0 then some .L else some .S) (.ones [0, 1, 2, 3, 4, 5, 6, 7, 8] .done) (by simp) (fun _ h => nomatch h) rfl rfl (by kernel_rfl) ?_
    simp only [go_sem, Nat.reduceBEq, Nat.reduceEqDiff, Nat.reduceLT, Nat.reduceLeDiff, Nat.reduceAdd, Nat.reduceSub, Nat.reduceMul, reduceCtorEq, Int.reduceToNat, Int.reduceEq, Int.reduceLT, Int.reduceLE, Int.reduceNe, Int.reduceNeg , or_self, or_false, false_or , List.length_map, idx_nat, List.getElem?_map, List.getElem?_eq_getElem hlt, intsD]
    refine (hr T[i + 1] (List.getElem_mem hlt)).callS rfl rfl rfl rfl rfl rfl ?_
    simp only [go_sem, Nat.reduceBEq, Nat.reduceEqDiff, Nat.reduceLT, Nat.reduceLeDiff, Nat.reduceAdd, Nat.reduceSub, Nat.reduceMul, reduceCtorEq, Int.reduceToNat, Int.reduceEq, Int.reduceLT, Int.reduceLE, Int.reduceNe, Int.reduceNeg , or_self, or_false, false_or , List.length_map]
    refine ⟨i + 1, hlt, by omega, ?_⟩
    exact ForgetTo.same' (by simp) (by simp [EWe, Env.look, w64 (n := (i : Int) + 1 + 1) (by omega) (by omega)]) (by simp only [hs, bookV, wide])
  have hnl : T.length = i + 1 := by simp at hd; omega
  rw [show T.take (i + 1) = T from List.take_of_length_le (by omega)]
  simp only [go_sem, Nat.reduceBEq, Nat.reduceEqDiff, Nat.reduceLT, Nat.reduceLeDiff, Nat.reduceAdd, Nat.reduceSub, Nat.reduceMul, reduceCtorEq, Int.reduceToNat, Int.reduceEq, Int.reduceLT, Int.reduceLE, Int.reduceNe, Int.reduceNeg , or_self, or_false, false_or , List.length_map, Sp.d]

def countedR (b : Book) (cs : List Sp) : Bool := !cs.any (fun s => !(decide (s.lo ≥ 0) && decide (s.lo ≤ s.hi) && decide (s.hi ≤ 100000))) && decide (cs.length = b.stock.length)

theorem c23 (b : Book) (cs : List Sp) (hc : cs.length ≤ 4294967296) : PC prog 23 [.d b.d, .d (.sl (cs.map Sp.d))] (.d (.bool (countedR b cs))) := by
  refine PC.run (fun _ => false) tt_ok (fn := f23) (rs := [.tmp 4]) rfl rfl rfl rfl rfl rfl rfl ?_
  simp only [go_sem, Nat.reduceBEq, Nat.reduceEqDiff, Nat.reduceLT, Nat.reduceLeDiff, Nat.reduceAdd, Nat.reduceSub, Nat.reduceMul, reduceCtorEq, Int.reduceToNat, Int.reduceEq, Int.reduceLT, Int.reduceLE, Int.reduceNe, Int.reduceNeg , or_self, or_false, false_or , List.length_map, Book.d]
  refine ALoop.by (S := Nat) (fun i => [(5, .d (.int .i64 i)), (2, .ptr 0 0), (1, .d (.sl (cs.map Sp.d)))]) (fun _ => [.cells (bookV b)]) (fun i => cs.length - i) (fun i => i ≤ cs.length ∧ (cs.take i).any (fun s => !(decide (s.lo ≥ 0) && decide (s.lo ≤ s.hi) && decide (s.hi ≤ 100000))) = false) 0 (by simp) (fun _ h => nomatch h) ⟨Nat.zero_le _, rfl⟩ ?_ ?_
  · exact ForgetTo.same' (by simp) (by simp [EWe, Env.look]) (by simp [bookV])
  rintro i ⟨hi, hx⟩ hn
  refine AWP.run (fun _ => false) tt_ok (fun _ h => nomatch h) (by simp) rfl ?_
  simp only [go_sem, Nat.reduceBEq, Nat.reduceEqDiff, Nat.reduceLT, Nat.reduceLeDiff, Nat.reduceAdd, Nat.reduceSub, Nat.reduceMul, reduceCtorEq, Int.reduceToNat, Int.reduceEq, Int.reduceLT, Int.reduceLE, Int.reduceNe, Int.reduceNeg , or_self, or_false, false_or , List.length_map, bookV]
  refine Br_split (fun hd => ?_) (fun hd => ?_) <;> simp only [go_sem, Nat.reduceBEq, Nat.reduceEqDiff, Nat.reduceLT, Nat.reduceLeDiff, Nat.reduceAdd, Nat.reduceSub, Nat.reduceMul, reduceCtorEq, Int.reduceToNat, Int.reduceEq, Int.reduceLT, Int.reduceLE, Int.reduceNe, Int.reduceNeg , or_self, or_false, false_or , List.length_map, hd]
  · have hlt : i < cs.length := by simpa using hd
    simp only [go_sem, Nat.reduceBEq, Nat.reduceEqDiff, Nat.reduceLT, Nat.reduceLeDiff, Nat.reduceAdd, Nat.reduceSub, Nat.reduceMul, reduceCtorEq, Int.reduceToNat, Int.reduceEq, Int.reduceLT, Int.reduceLE, Int.reduceNe, Int.reduceNeg , or_self, or_false, false_or , List.length_map, idx_nat, List.getElem?_map, List.getElem?_eq_getElem hlt, Sp.d]
    refine (c69 cs[i] 0 100000).call rfl rfl rfl ?_
    simp only [go_sem, Nat.reduceBEq, Nat.reduceEqDiff, Nat.reduceLT, Nat.reduceLeDiff, Nat.reduceAdd, Nat.reduceSub, Nat.reduceMul, reduceCtorEq, Int.reduceToNat, Int.reduceEq, Int.reduceLT, Int.reduceLE, Int.reduceNe, Int.reduceNeg , or_self, or_false, false_or , List.length_map]
    refine Br_split (fun he => ?_) (fun he => ?_) <;> simp only [go_sem, Nat.reduceBEq, Nat.reduceEqDiff, Nat.reduceLT, Nat.reduceLeDiff, Nat.reduceAdd, Nat.reduceSub, Nat.reduceMul, reduceCtorEq, Int.reduceToNat, Int.reduceEq, Int.reduceLT, Int.reduceLE, Int.reduceNe, Int.reduceNeg , or_self, or_false, false_or , List.length_map, he]
    · have : cs.any (fun s => !(decide (s.lo ≥ 0) && decide (s.lo ≤ s.hi) && decide (s.hi ≤ 100000))) = true := any_at hlt he
      simp only [countedR, this, Bool.not_true, Bool.false_and]
    · refine ⟨i + 1, ⟨hlt, by rw [any_take hlt, hx]; simpa using he⟩, by omega, ?_⟩
      exact ForgetTo.same' (by simp) (by simp [EWe, Env.look, w64 (n := (i : Int) + 1) (by omega) (by omega)]) (by simp [bookV])
  have hnl : ¬ i < cs.length := by simpa using hd
  rw [List.take_of_length_le (by omega)] at hx
  simp only [countedR, hx, Bool.not_false, Bool.true_and]
  simp
  omega
end Go.Aw
end

section
set_option maxRecDepth 100000
namespace Go.Aw
open Go Go.Proofs Go.Proofs.Try

/-- Numbers of signs of a kind, up to a day. -/
def sgn (day : Int) (k : Nat) : List Mad → Int
  | [] => 0
  | m :: r => (if m.day ≤ day ∧ m.kind = k then m.many else 0) + sgn day k r

def Mads (l : List Mad) : Prop := ∀ m ∈ l, (0 ≤ m.kind ∧ m.kind < 3) ∧ 1 ≤ m.many ∧ m.many ≤ 100

theorem Mads.tail {m : Mad} {r : List Mad} (h : Mads (m :: r)) : Mads r := fun x hx => h x (List.mem_cons_of_mem _ hx)

theorem sgn_pos (day : Int) (k : Nat) : ∀ (l : List Mad), Mads l → 0 ≤ sgn day k l ∧ sgn day k l ≤ 100 * l.length
  | [], _ => by simp [sgn]
  | m :: r, h => by
    have ih := sgn_pos day k r h.tail
    have hm := h m (by simp)
    simp only [sgn, List.length_cons]
    split <;> omega

theorem signW_eq (day : Int) (k : Nat) : ∀ (l : List Mad) (a : Int), Mads l → 0 ≤ a → a + 100 * l.length ≤ 1000000 → l.foldl (signW day k) a = a + sgn day k l
  | [], a, _, _, _ => by simp [sgn]
  | m :: r, a, h, h0, h1 => by
    have hm := h m (by simp)
    simp only [List.length_cons] at h1
    simp only [List.foldl_cons, sgn]
    by_cases hc : m.day ≤ day ∧ m.kind = k
    · rw [if_pos hc, show signW day k a m = a + m.many by
        simp only [signW, hc.1, hc.2]; simp; exact w64 (by omega) (by omega)]
      rw [signW_eq day k r (a + m.many) h.tail (by omega) (by omega)]; omega
    · rw [if_neg hc, show signW day k a m = a by simp only [signW]; rw [if_neg (by simpa using hc)]]
      rw [signW_eq day k r a h.tail h0 (by omega)]; omega

theorem mul_le {a b c d : Int} (h0 : 0 ≤ a) (h1 : a ≤ c) (h2 : 0 ≤ b) (h3 : b ≤ d) : 0 ≤ a * b ∧ a * b ≤ c * d :=
  ⟨Int.mul_nonneg h0 h2, Int.mul_le_mul h1 h3 h2 (by omega)⟩

theorem lessW_eq (day : Int) (t : List Int) (ht : ∀ k, 0 ≤ t.getD k 0 ∧ t.getD k 0 ≤ 50) : ∀ (l : List Mad) (n : Int), Mads l → n ≤ 1000000 → 5000 * l.length - 1000000 ≤ n →
    l.foldl (lessW day t) n = n - (sgn day 0 l * t.getD 0 0 + sgn day 1 l * t.getD 1 0 + sgn day 2 l * t.getD 2 0)
  | [], n, _, _, _ => by simp [sgn]
  | m :: r, n, h, h0, h1 => by
    have hm := h m (by simp)
    simp only [List.length_cons] at h1
    simp only [List.foldl_cons, sgn]
    by_cases hc : m.day ≤ day
    · obtain ⟨p1, p2⟩ := mul_le (a := m.many) (b := t.getD m.kind.toNat 0) (c := 100) (d := 50) (by omega) hm.2.2 (ht _).1 (ht _).2
      have e : lessW day t n m = n - m.many * t.getD m.kind.toNat 0 := by
        simp only [lessW, if_pos hc]
        rw [show wr (m.many * t.getD m.kind.toNat 0) = m.many * t.getD m.kind.toNat 0 from w64 (by omega) (by omega)]
        exact w64 (by omega) (by omega)
      rw [e, lessW_eq day t ht r _ h.tail (by omega) (by omega)]
      have hk : m.kind = 0 ∨ m.kind = 1 ∨ m.kind = 2 := by omega
      rcases hk with hk | hk | hk <;> simp only [hk, hc, true_and, Int.toNat_zero, Int.add_mul] <;> simp [Int.add_mul] <;> omega
    · have e : lessW day t n m = n := by simp only [lessW, if_neg hc]
      rw [e, lessW_eq day t ht r n h.tail h0 (by omega)]
      simp [hc]

theorem sumW_bound (g : Nat) (day : Int) (l : List Ent) : ∀ (n : Int), (∀ x ∈ l, -1000 ≤ x.amount ∧ x.amount ≤ 1000) → -1000000 + 1000 * l.length ≤ n → n ≤ 1000000 - 1000 * l.length → n - 1000 * l.length ≤ l.foldl (sumW g day) n ∧ l.foldl (sumW g day) n ≤ n + 1000 * l.length := by
  induction l with
  | nil => intro n _ _ _; simp
  | cons x r ih =>
    intro n h h0 h1
    have hx := h x (by simp)
    simp only [List.length_cons] at h0 h1 ⊢
    simp only [List.foldl_cons]
    have e : sumW g day n x = n ∨ sumW g day n x = n + x.amount := by
      unfold sumW
      split
      · right; exact w64 (by omega) (by omega)
      · left; rfl
    have ih := ih (sumW g day n x) (fun y hy => h y (List.mem_cons_of_mem _ hy)) (by omega) (by omega)
    omega

/-- Amounts that lie in their spans. -/
def Wthn : List Sp → List Int → Prop
  | [], [] => True
  | s :: r, n :: y => (s.lo ≤ n ∧ n ≤ s.hi) ∧ Wthn r y
  | _, _ => False

theorem mem_upTo {s : Sp} {n : Int} : n ∈ upTo s ↔ s.lo ≤ n ∧ n ≤ s.hi := by
  simp only [upTo, List.mem_map, List.mem_range]
  constructor
  · rintro ⟨k, hk, rfl⟩; omega
  · rintro ⟨h0, h1⟩; exact ⟨(n - s.lo).toNat, by omega, by omega⟩

theorem mem_truthsL : ∀ (l : List Sp) (t x : List Int), x ∈ truthsL l t ↔ ∃ y, Wthn l y ∧ x = t ++ y
  | [], t, x => by
    simp only [truthsL, List.mem_singleton]
    constructor
    · rintro rfl; exact ⟨[], trivial, by simp⟩
    · rintro ⟨y, hy, rfl⟩
      cases y with
      | nil => simp
      | cons _ _ => exact hy.elim
  | s :: r, t, x => by
    simp only [truthsL, List.mem_flatMap]
    constructor
    · rintro ⟨n, hn, hx⟩
      obtain ⟨y, hy, rfl⟩ := (mem_truthsL r (t ++ [n]) x).1 hx
      exact ⟨n :: y, ⟨mem_upTo.1 hn, hy⟩, by simp⟩
    · rintro ⟨y, hy, rfl⟩
      cases y with
      | nil => exact hy.elim
      | cons n y => exact ⟨n, mem_upTo.2 hy.1, (mem_truthsL r (t ++ [n]) _).2 ⟨y, hy.2, by simp⟩⟩

theorem Wthn.get : ∀ (l : List Sp) (y : List Int), Wthn l y → ∀ k, (l.getD k ⟨0, 0⟩).lo ≤ y.getD k 0 ∧ y.getD k 0 ≤ (l.getD k ⟨0, 0⟩).hi
  | [], [], _, k => by simp
  | s :: r, n :: y, h, k => by
    cases k with
    | zero => simpa using h.1
    | succ k => simpa using Wthn.get r y h.2 k
  | [], _ :: _, h, _ => h.elim
  | _ :: _, [], h, _ => h.elim

theorem Wthn.ends : ∀ (l : List Sp), (∀ s ∈ l, s.lo ≤ s.hi) → Wthn l (l.map Sp.lo) ∧ Wthn l (l.map Sp.hi)
  | [], _ => ⟨trivial, trivial⟩
  | s :: r, h => by
    have h0 := h s (by simp)
    obtain ⟨h1, h2⟩ := Wthn.ends r fun s hs => h s (List.mem_cons_of_mem _ hs)
    exact ⟨⟨⟨Int.le_refl _, h0⟩, h1⟩, ⟨⟨h0, Int.le_refl _⟩, h2⟩⟩

theorem getD_map' {α : Type} (f : α → Int) (l : List α) (k : Nat) (d : α) (h : f d = 0) : (l.map f).getD k 0 = f (l.getD k d) := by
  simp only [List.getD_eq_getElem?_getD, List.getElem?_map]
  cases l[k]? <;> simp [h]

theorem spansB_get (b : Book) (g k : Nat) : (spansB b g).getD k ⟨0, 0⟩ = spanB b g k := by
  simp only [spansB, spanB, List.getD_eq_getElem?_getD, List.getElem?_map]
  cases b.recs[k]? <;> simp

theorem wide_fold {α : Type} (f : α → Int) : ∀ (l : List α) (s : Sp), (l.foldl (fun s x => wide (f x) s) s).lo ≤ s.lo ∧ s.hi ≤ (l.foldl (fun s x => wide (f x) s) s).hi ∧
    (∀ x ∈ l, (l.foldl (fun s x => wide (f x) s) s).lo ≤ f x ∧ f x ≤ (l.foldl (fun s x => wide (f x) s) s).hi) ∧
    ((l.foldl (fun s x => wide (f x) s) s).lo = s.lo ∨ ∃ x ∈ l, (l.foldl (fun s x => wide (f x) s) s).lo = f x) ∧
    ((l.foldl (fun s x => wide (f x) s) s).hi = s.hi ∨ ∃ x ∈ l, (l.foldl (fun s x => wide (f x) s) s).hi = f x)
  | [], s => by simp
  | x :: r, s => by
    obtain ⟨h1, h2, h3, h4, h5⟩ := wide_fold f r (wide (f x) s)
    simp only [List.foldl_cons]
    generalize r.foldl (fun s x => wide (f x) s) (wide (f x) s) = z at *
    simp only [wide] at h1 h2 h4 h5
    refine ⟨by clear h3 h4 h5; omega, by clear h3 h4 h5; omega, ?_, ?_, ?_⟩
    · intro y hy
      rcases List.mem_cons.1 hy with rfl | hy
      · clear h3 h4 h5; omega
      · exact h3 y hy
    · clear h3 h5
      rcases h4 with h4 | ⟨y, hy, h4⟩
      · rcases Int.le_total s.lo (f x) with hm | hm
        · left; omega
        · right; exact ⟨x, by simp, by omega⟩
      · right; exact ⟨y, List.mem_cons_of_mem _ hy, h4⟩
    · clear h3 h4
      rcases h5 with h5 | ⟨y, hy, h5⟩
      · rcases Int.le_total (f x) s.hi with hm | hm
        · left; omega
        · right; exact ⟨x, by simp, by omega⟩
      · right; exact ⟨y, List.mem_cons_of_mem _ hy, h5⟩

/-- The span of all truths, told by its ends. -/
theorem leftsR_eq {b : Book} {g : Nat} {day : Int} {T : List (List Int)} {lo hi : Int} (h0 : ∀ x ∈ T, lo ≤ restR b g day x ∧ restR b g day x ≤ hi) (hl : ∃ x ∈ T, restR b g day x = lo) (hh : ∃ x ∈ T, restR b g day x = hi) : leftsR b g day T = ⟨lo, hi⟩ := by
  cases T with
  | nil => obtain ⟨x, hx, _⟩ := hl; cases hx
  | cons t r =>
    obtain ⟨k1, k2, k3, k4, k5⟩ := wide_fold (restR b g day) r ⟨restR b g day t, restR b g day t⟩
    have e : leftsR b g day (t :: r) = r.foldl (fun s x => wide (restR b g day x) s) ⟨restR b g day t, restR b g day t⟩ := rfl
    rw [e]
    generalize r.foldl (fun s x => wide (restR b g day x) s) ⟨restR b g day t, restR b g day t⟩ = z at *
    obtain ⟨x, hx, ex⟩ := hl
    obtain ⟨y, hy, ey⟩ := hh
    have ht := h0 t (by simp)
    have hr : ∀ x ∈ r, _ := fun x hx => h0 x (List.mem_cons_of_mem _ hx)
    obtain ⟨zl, zh⟩ := z
    simp only at k1 k2 k3 k4 k5
    have a1 : zl ≤ lo := by
      rcases List.mem_cons.1 hx with rfl | hx
      · omega
      · have := (k3 x hx).1; omega
    have a2 : hi ≤ zh := by
      rcases List.mem_cons.1 hy with rfl | hy
      · omega
      · have := (k3 y hy).2; omega
    have a3 : lo ≤ zl := by
      rcases k4 with k4 | ⟨u, hu, k4⟩
      · omega
      · have := (hr u hu).1; omega
    have a4 : zh ≤ hi := by
      rcases k5 with k5 | ⟨u, hu, k5⟩
      · omega
      · have := (hr u hu).2; omega
    rw [show zl = lo by omega, show zh = hi by omega]

theorem Book.Ok.mads {b : Book} (h : b.Ok) : Mads b.made := fun m hm => by
  have := h.mv m hm; have := h.r3; omega

/-- What is left of goods in a truth. -/
theorem rest_eq {b : Book} (h : b.Ok) {g : Nat} (hg : g < b.stock.length) (day : Int) {t : List Int} (ht : Wthn (spansB b g) t) :
    restR b g day t = (acctW b g day).sum - ((acctW b g day).s0 * t.getD 0 0 + (acctW b g day).s1 * t.getD 1 0 + (acctW b g day).s2 * t.getD 2 0) := by
  have h1 := h.sv _ (List.getElem_mem hg)
  have hs := sumW_bound g day b.ents (b.stock.getD g 0) (fun x hx => (h.ev x hx).2.2.1) (by rw [getD_eq hg]; have := h.e12; omega) (by rw [getD_eq hg]; have := h.e12; omega)
  rw [getD_eq hg] at hs
  have he := h.e12
  have hm := h.m8
  have htk : ∀ k, 0 ≤ t.getD k 0 ∧ t.getD k 0 ≤ 50 := fun k => by
    have := ht.get _ _ k
    rw [spansB_get] at this
    have := h.span g k
    omega
  rw [restR, lessW_eq day t htk b.made _ h.mads (by rw [getD_eq hg]; omega) (by rw [getD_eq hg]; omega)]
  simp only [acctW]
  rw [signW_eq day 0 b.made 0 h.mads (by omega) (by omega), signW_eq day 1 b.made 0 h.mads (by omega) (by omega), signW_eq day 2 b.made 0 h.mads (by omega) (by omega)]
  simp only [Int.zero_add]

theorem acct_bounds {b : Book} (h : b.Ok) {g : Nat} (hg : g < b.stock.length) (day : Int) : (-12000 ≤ (acctW b g day).sum ∧ (acctW b g day).sum ≤ 22000) ∧ (0 ≤ (acctW b g day).s0 ∧ (acctW b g day).s0 ≤ 800) ∧ (0 ≤ (acctW b g day).s1 ∧ (acctW b g day).s1 ≤ 800) ∧ (0 ≤ (acctW b g day).s2 ∧ (acctW b g day).s2 ≤ 800) := by
  have h1 := h.sv _ (List.getElem_mem hg)
  have hs := sumW_bound g day b.ents (b.stock.getD g 0) (fun x hx => (h.ev x hx).2.2.1) (by rw [getD_eq hg]; have := h.e12; omega) (by rw [getD_eq hg]; have := h.e12; omega)
  rw [getD_eq hg] at hs
  have he := h.e12
  have hm := h.m8
  simp only [acctW]
  rw [signW_eq day 0 b.made 0 h.mads (by omega) (by omega), signW_eq day 1 b.made 0 h.mads (by omega) (by omega), signW_eq day 2 b.made 0 h.mads (by omega) (by omega), getD_eq hg]
  have q0 := sgn_pos day 0 b.made h.mads
  have q1 := sgn_pos day 1 b.made h.mads
  have q2 := sgn_pos day 2 b.made h.mads
  omega

/-- The ends of what is left. -/
theorem leftW_ends {b : Book} (h : b.Ok) {g : Nat} (hg : g < b.stock.length) (day : Int) : leftW (acctW b g day) =
    ⟨(acctW b g day).sum - ((acctW b g day).s0 * (spanB b g 0).hi + (acctW b g day).s1 * (spanB b g 1).hi + (acctW b g day).s2 * (spanB b g 2).hi), (acctW b g day).sum - ((acctW b g day).s0 * (spanB b g 0).lo + (acctW b g day).s1 * (spanB b g 1).lo + (acctW b g day).s2 * (spanB b g 2).lo)⟩ := by
  obtain ⟨k0, k1, k2, k3⟩ := acct_bounds h hg day
  have p0 := h.span g 0
  have p1 := h.span g 1
  have p2 := h.span g 2
  have e0 : (acctW b g day).p0 = spanB b g 0 := rfl
  have e1 : (acctW b g day).p1 = spanB b g 1 := rfl
  have e2 : (acctW b g day).p2 = spanB b g 2 := rfl
  simp only [leftW, left2, left1, left0, leftStep, e0, e1, e2]
  generalize (acctW b g day).sum = S at *
  generalize (acctW b g day).s0 = a0 at *
  generalize (acctW b g day).s1 = a1 at *
  generalize (acctW b g day).s2 = a2 at *
  have m := fun {a b : Int} (h0 : 0 ≤ a) (h1 : a ≤ 800) (h2 : 0 ≤ b) (h3 : b ≤ 50) => mul_le h0 h1 h2 h3
  have q0 := m k1.1 k1.2 (b := (spanB b g 0).hi) (by omega) (by omega)
  have q1 := m k2.1 k2.2 (b := (spanB b g 1).hi) (by omega) (by omega)
  have q2 := m k3.1 k3.2 (b := (spanB b g 2).hi) (by omega) (by omega)
  have r0 := m k1.1 k1.2 (b := (spanB b g 0).lo) (by omega) (by omega)
  have r1 := m k2.1 k2.2 (b := (spanB b g 1).lo) (by omega) (by omega)
  have r2 := m k3.1 k3.2 (b := (spanB b g 2).lo) (by omega) (by omega)
  generalize a0 * (spanB b g 0).hi = x0 at *
  generalize a1 * (spanB b g 1).hi = x1 at *
  generalize a2 * (spanB b g 2).hi = x2 at *
  generalize a0 * (spanB b g 0).lo = y0 at *
  generalize a1 * (spanB b g 1).lo = y1 at *
  generalize a2 * (spanB b g 2).lo = y2 at *
  have w : ∀ n : Int, -1000000 ≤ n → n ≤ 1000000 → wr n = n := fun n h0 h1 => w64 (by omega) (by omega)
  rw [w x0 (by omega) (by omega), w x1 (by omega) (by omega), w x2 (by omega) (by omega), w y0 (by omega) (by omega), w y1 (by omega) (by omega), w y2 (by omega) (by omega)]
  rw [w (S - x0) (by omega) (by omega), w (S - y0) (by omega) (by omega), w (S - x0 - x1) (by omega) (by omega), w (S - y0 - y1) (by omega) (by omega), w (S - x0 - x1 - x2) (by omega) (by omega), w (S - y0 - y1 - y2) (by omega) (by omega)]
  rw [show S - x0 - x1 - x2 = S - (x0 + x1 + x2) by omega, show S - y0 - y1 - y2 = S - (y0 + y1 + y2) by omega]

theorem left_eq {b : Book} (h : b.Ok) {g : Nat} (hg : g < b.stock.length) (day : Int) : leftW (acctW b g day) = leftR b g day := by
  have hsp := h.spansB hg
  obtain ⟨wl, wh⟩ := Wthn.ends (spansB b g) fun s hs => (hsp s hs).2.1
  obtain ⟨k0, k1, k2, k3⟩ := acct_bounds h hg day
  rw [leftW_ends h hg, leftR]
  symm
  have mem : ∀ x, x ∈ truthsB b g ↔ Wthn (spansB b g) x := fun x => by
    rw [truthsB, mem_truthsL]
    constructor
    · rintro ⟨y, hy, rfl⟩; simpa using hy
    · intro hx; exact ⟨x, hx, by simp⟩
  have gl : ∀ k, ((spansB b g).map Sp.lo).getD k 0 = (spanB b g k).lo := fun k => by rw [getD_map' Sp.lo _ _ ⟨0, 0⟩ rfl, spansB_get]
  have gh : ∀ k, ((spansB b g).map Sp.hi).getD k 0 = (spanB b g k).hi := fun k => by rw [getD_map' Sp.hi _ _ ⟨0, 0⟩ rfl, spansB_get]
  refine leftsR_eq ?_ ⟨_, (mem _).2 wh, by rw [rest_eq h hg day wh, gh, gh, gh]⟩ ⟨_, (mem _).2 wl, by rw [rest_eq h hg day wl, gl, gl, gl]⟩
  intro x hx
  have hx' := (mem x).1 hx
  rw [rest_eq h hg day hx']
  have b0 := hx'.get _ _ 0
  have b1 := hx'.get _ _ 1
  have b2 := hx'.get _ _ 2
  rw [spansB_get] at b0 b1 b2
  have c0 := Int.mul_le_mul_of_nonneg_left b0.1 k1.1
  have c1 := Int.mul_le_mul_of_nonneg_left b1.1 k2.1
  have c2 := Int.mul_le_mul_of_nonneg_left b2.1 k3.1
  have d0 := Int.mul_le_mul_of_nonneg_left b0.2 k1.1
  have d1 := Int.mul_le_mul_of_nonneg_left b1.2 k2.1
  have d2 := Int.mul_le_mul_of_nonneg_left b2.2 k3.1
  constructor <;> omega
end Go.Aw
end

section
namespace Go.Aw
open Go Go.Proofs Go.Proofs.Try

theorem counted_eq (b : Book) (cs : List Sp) : countedR b cs = !badList b.stock.length cs := by
  have e : (fun s : Sp => !(decide (s.lo ≥ 0) && decide (s.lo ≤ s.hi) && decide (s.hi ≤ 100000))) = badCount := by
    funext s
    simp only [badCount]
    rw [Bool.eq_iff_iff]
    simp only [Bool.not_eq_true', Bool.and_eq_false_iff, decide_eq_false_iff_not]
    rw [show (within 0 100000 [s.lo, s.hi] = false) ↔ ¬ ((0 ≤ s.lo ∧ s.lo ≤ 100000) ∧ (0 ≤ s.hi ∧ s.hi ≤ 100000)) by
      rw [← Bool.not_eq_true, within_iff]; simp]
    omega
  have e2 : decide ((cs.length : Int) = b.stock.length) = decide (cs.length = b.stock.length) := by
    rw [Bool.eq_iff_iff]; simp; omega
  rw [countedR, e, badList, e2]
  cases cs.any badCount <;> cases decide (cs.length = b.stock.length) <;> rfl

theorem left_err (b : Book) : (leftP b).2 = checkP b := by
  unfold leftP; split
  · rfl
  · omega

theorem miss_bad {b : Book} {cs : List Sp} (h : checkP b ≠ 0) : missP b cs = ([], checkP b) := by
  simp [missP, openP, h]

theorem miss_uncounted {b : Book} {cs : List Sp} (h : checkP b = 0) (hc : countedR b cs = false) : missP b cs = ([], 3) := by
  rw [counted_eq] at hc
  have : badList b.stock.length cs = true := by simpa using hc
  simp [missP, openP, h, this]

theorem miss_good {b : Book} {cs : List Sp} (h : checkP b = 0) (hc : countedR b cs = true) : missP b cs = (missW b cs, 0) ∧ cs.length = b.stock.length := by
  rw [counted_eq] at hc
  have hb : badList b.stock.length cs = false := by simpa using hc
  have hl : cs.length = b.stock.length := by
    simp [badList] at hb; omega
  exact ⟨by simp [missP, openP, h, hb], hl⟩

/-- The law's row, halfway. -/
def rowM (b : Book) (cs : List Sp) (i : Nat) : List Sp := (List.range b.stock.length).map fun j => if j < i then missOne b j (cs.getD j ⟨0, 0⟩) else leftW (acctW b j 365)

theorem rowM_len (b : Book) (cs : List Sp) (i : Nat) : (rowM b cs i).length = b.stock.length := by simp [rowM]

theorem rowM_zero (b : Book) (cs : List Sp) : rowM b cs 0 = leftsW b := by simp [rowM, leftsW]

theorem rowM_get (b : Book) (cs : List Sp) {i : Nat} (h : i < (rowM b cs i).length) : (rowM b cs i)[i] = leftW (acctW b i 365) := by simp [rowM]

theorem rowM_set (b : Book) (cs : List Sp) {i : Nat} (h : i < b.stock.length) (hc : i < cs.length) : (rowM b cs i).set i (missOne b i cs[i]) = rowM b cs (i + 1) := by
  apply List.ext_getElem
  · simp [rowM]
  · intro j h1 h2
    simp only [rowM, List.length_map, List.length_range] at h2
    rw [List.getElem_set]
    simp only [rowM, List.getElem_map, List.getElem_range]
    by_cases hij : i = j
    · subst hij; simp [hc]
    · rw [if_neg hij]
      by_cases hj : j < i
      · rw [if_pos hj, if_pos (by omega)]
      · rw [if_neg hj, if_neg (by omega)]

theorem rowM_end (b : Book) (cs : List Sp) (h : cs.length = b.stock.length) : rowM b cs b.stock.length = missW b cs := by
  apply List.ext_getElem
  · simp [rowM, missW, h]
  · intro j h1 h2
    simp only [rowM, List.length_map, List.length_range] at h1
    simp only [rowM, missW, List.getElem_map, List.getElem_range, List.getElem_mapIdx]
    rw [if_pos h1, getD_eq (by omega)]

theorem c3 (b : Book) (cs : List Sp) : PC prog 3 [.d b.d, .d (.sl (cs.map Sp.d))] (.d (.bool true)) := by
  refine PC.run (fun k => k == 13) tt_ok (fn := f3) (rs := [.tmp 4]) rfl rfl rfl rfl rfl rfl rfl ?_
  simp only [go_sem, Nat.reduceBEq, Nat.reduceEqDiff, Nat.reduceLT, Nat.reduceLeDiff, Nat.reduceAdd, Nat.reduceSub, Nat.reduceMul, reduceCtorEq, Int.reduceToNat, Int.reduceEq, Int.reduceLT, Int.reduceLE, Int.reduceNe, Int.reduceNeg , or_self, or_false, false_or , List.length_map, Book.d]
  refine (c13 b).call rfl rfl rfl ?_
  simp only [go_sem, Nat.reduceBEq, Nat.reduceEqDiff, Nat.reduceLT, Nat.reduceLeDiff, Nat.reduceAdd, Nat.reduceSub, Nat.reduceMul, reduceCtorEq, Int.reduceToNat, Int.reduceEq, Int.reduceLT, Int.reduceLE, Int.reduceNe, Int.reduceNeg , or_self, or_false, false_or , List.length_map]
  refine Br_split (fun h1 => ?_) (fun h1 => ?_) <;> simp only [go_sem, Nat.reduceBEq, Nat.reduceEqDiff, Nat.reduceLT, Nat.reduceLeDiff, Nat.reduceAdd, Nat.reduceSub, Nat.reduceMul, reduceCtorEq, Int.reduceToNat, Int.reduceEq, Int.reduceLT, Int.reduceLE, Int.reduceNe, Int.reduceNeg , or_self, or_false, false_or , List.length_map, h1]
  · refine c14.call rfl rfl rfl ?_
    simp only [go_sem, Nat.reduceBEq, Nat.reduceEqDiff, Nat.reduceLT, Nat.reduceLeDiff, Nat.reduceAdd, Nat.reduceSub, Nat.reduceMul, reduceCtorEq, Int.reduceToNat, Int.reduceEq, Int.reduceLT, Int.reduceLE, Int.reduceNe, Int.reduceNeg , or_self, or_false, false_or , List.length_map]
  refine Br_split (fun h2 => ?_) (fun h2 => ?_) <;> simp only [go_sem, Nat.reduceBEq, Nat.reduceEqDiff, Nat.reduceLT, Nat.reduceLeDiff, Nat.reduceAdd, Nat.reduceSub, Nat.reduceMul, reduceCtorEq, Int.reduceToNat, Int.reduceEq, Int.reduceLT, Int.reduceLE, Int.reduceNe, Int.reduceNeg , or_self, or_false, false_or , List.length_map, h1, h2]
  · refine c14.call rfl rfl rfl ?_
    simp only [go_sem, Nat.reduceBEq, Nat.reduceEqDiff, Nat.reduceLT, Nat.reduceLeDiff, Nat.reduceAdd, Nat.reduceSub, Nat.reduceMul, reduceCtorEq, Int.reduceToNat, Int.reduceEq, Int.reduceLT, Int.reduceLE, Int.reduceNe, Int.reduceNeg , or_self, or_false, false_or , List.length_map]
  have hb := large_fits' h1
  obtain ⟨z0, z1, z2, z3, z4⟩ := large_fits h1
  have hcl : cs.length ≤ 20 := by simp at h2; omega
  have hcl2 : cs.length ≤ 4294967296 := by omega
  have hacc : checkP b = 0 → ∀ g, g < b.stock.length → b.Acc g := fun h => checkP_acc h
  refine (c15 b hb).call rfl rfl rfl ?_
  have zc : sized 2 (cs.map Sp.d) = true := by simp [sized, Sp.d, dcells]
  simp only [go_sem, Nat.reduceBEq, Nat.reduceEqDiff, Nat.reduceLT, Nat.reduceLeDiff, Nat.reduceAdd, Nat.reduceSub, Nat.reduceMul, reduceCtorEq, Int.reduceToNat, Int.reduceEq, Int.reduceLT, Int.reduceLE, Int.reduceNe, Int.reduceNeg , or_self, or_false, false_or , List.length_map, Book.d, zc, hcl2]
  refine (c16 b hb).call rfl rfl rfl ?_
  simp only [go_sem, Nat.reduceBEq, Nat.reduceEqDiff, Nat.reduceLT, Nat.reduceLeDiff, Nat.reduceAdd, Nat.reduceSub, Nat.reduceMul, reduceCtorEq, Int.reduceToNat, Int.reduceEq, Int.reduceLT, Int.reduceLE, Int.reduceNe, Int.reduceNeg , or_self, or_false, false_or , List.length_map]
  refine (c17 b hb hacc).call rfl rfl rfl ?_
  simp only [go_sem, Nat.reduceBEq, Nat.reduceEqDiff, Nat.reduceLT, Nat.reduceLeDiff, Nat.reduceAdd, Nat.reduceSub, Nat.reduceMul, reduceCtorEq, Int.reduceToNat, Int.reduceEq, Int.reduceLT, Int.reduceLE, Int.reduceNe, Int.reduceNeg , or_self, or_false, false_or , List.length_map]
  refine (c18 b cs hb hcl2 hacc).call rfl rfl rfl ?_
  simp only [go_sem, Nat.reduceBEq, Nat.reduceEqDiff, Nat.reduceLT, Nat.reduceLeDiff, Nat.reduceAdd, Nat.reduceSub, Nat.reduceMul, reduceCtorEq, Int.reduceToNat, Int.reduceEq, Int.reduceLT, Int.reduceLE, Int.reduceNe, Int.reduceNeg , or_self, or_false, false_or , List.length_map]
  refine (c19 b hb).call rfl rfl rfl ?_
  simp only [go_sem, Nat.reduceBEq, Nat.reduceEqDiff, Nat.reduceLT, Nat.reduceLeDiff, Nat.reduceAdd, Nat.reduceSub, Nat.reduceMul, reduceCtorEq, Int.reduceToNat, Int.reduceEq, Int.reduceLT, Int.reduceLE, Int.reduceNe, Int.reduceNeg , or_self, or_false, false_or , List.length_map]
  refine (c20 b hb).call rfl rfl rfl ?_
  simp only [go_sem, Nat.reduceBEq, Nat.reduceEqDiff, Nat.reduceLT, Nat.reduceLeDiff, Nat.reduceAdd, Nat.reduceSub, Nat.reduceMul, reduceCtorEq, Int.reduceToNat, Int.reduceEq, Int.reduceLT, Int.reduceLE, Int.reduceNe, Int.reduceNeg , or_self, or_false, false_or , List.length_map]
  refine (c21 cs cs hcl2 hcl2).call rfl rfl rfl ?_
  simp only [go_sem, Nat.reduceBEq, Nat.reduceEqDiff, Nat.reduceLT, Nat.reduceLeDiff, Nat.reduceAdd, Nat.reduceSub, Nat.reduceMul, reduceCtorEq, Int.reduceToNat, Int.reduceEq, Int.reduceLT, Int.reduceLE, Int.reduceNe, Int.reduceNeg , or_self, or_false, false_or , List.length_map, left_err]
  refine Br_split (fun h3 => ?_) (fun h3 => ?_) <;> simp only [go_sem, Nat.reduceBEq, Nat.reduceEqDiff, Nat.reduceLT, Nat.reduceLeDiff, Nat.reduceAdd, Nat.reduceSub, Nat.reduceMul, reduceCtorEq, Int.reduceToNat, Int.reduceEq, Int.reduceLT, Int.reduceLE, Int.reduceNe, Int.reduceNeg , or_self, or_false, false_or , List.length_map, h3]
  · have hk : checkP b ≠ 0 := by simpa using h3
    have hl : (leftP b).1 = [] := by simp [leftP, hk]
    have z00 : IntKind.i64.wrap (((0 : Nat) : Int) + ((0 : Nat) : Int)) = 0 := w64 (n := 0) (by omega) (by omega)
    simp only [go_sem, Nat.reduceBEq, Nat.reduceEqDiff, Nat.reduceLT, Nat.reduceLeDiff, Nat.reduceAdd, Nat.reduceSub, Nat.reduceMul, reduceCtorEq, Int.reduceToNat, Int.reduceEq, Int.reduceLT, Int.reduceLE, Int.reduceNe, Int.reduceNeg , or_self, or_false, false_or , List.length_map, miss_bad hk, hl, z00]
    refine c14.call rfl rfl rfl ?_
    simp only [go_sem, Nat.reduceBEq, Nat.reduceEqDiff, Nat.reduceLT, Nat.reduceLeDiff, Nat.reduceAdd, Nat.reduceSub, Nat.reduceMul, reduceCtorEq, Int.reduceToNat, Int.reduceEq, Int.reduceLT, Int.reduceLE, Int.reduceNe, Int.reduceNeg , or_self, or_false, false_or , List.length_map]
  have hk : checkP b = 0 := by simpa using h3
  have hok := checkP_ok hk
  have hl : (leftP b).1 = leftsW b := by simp [leftP, hk]
  have hsl := hok.s4
  rw [hl]
  refine ALoop.by (S := Nat) (fun i => [(14, .d (.int .i64 i)), (13, .ref 2 i 0 i), (2, .ptr 0 0), (1, .d (.sl (cs.map Sp.d))), (8, .d (.sl ((leftsW b).map Sp.d))), (10, .d (.sl ((missP b cs).1.map Sp.d))), (11, .d (.int .i64 (missP b cs).2))])
    (fun i => [.cells (bookV b), .cells (bookV b), .arr 2 false (((leftsW b).take i).map Sp.d)]) (fun i => b.stock.length - i) (fun i => i ≤ b.stock.length) 0 (by simp) (fun _ h => nomatch h) (Nat.zero_le _) ?_ ?_
  · exact ForgetTo.same' (by simp) (by simp [EWe, Env.look]) (by simp [bookV])
  rintro i hi hn
  have hll : (leftsW b).length = b.stock.length := by simp [leftsW]
  refine AWP.run (fun k => k == 13) tt_ok (fun _ h => nomatch h) (by simp) rfl ?_
  simp only [go_sem, Nat.reduceBEq, Nat.reduceEqDiff, Nat.reduceLT, Nat.reduceLeDiff, Nat.reduceAdd, Nat.reduceSub, Nat.reduceMul, reduceCtorEq, Int.reduceToNat, Int.reduceEq, Int.reduceLT, Int.reduceLE, Int.reduceNe, Int.reduceNeg , or_self, or_false, false_or , List.length_map, bookV]
  refine Br_split (fun hd => ?_) (fun hd => ?_) <;> simp only [go_sem, Nat.reduceBEq, Nat.reduceEqDiff, Nat.reduceLT, Nat.reduceLeDiff, Nat.reduceAdd, Nat.reduceSub, Nat.reduceMul, reduceCtorEq, Int.reduceToNat, Int.reduceEq, Int.reduceLT, Int.reduceLE, Int.reduceNe, Int.reduceNeg , or_self, or_false, false_or , List.length_map, hd]
  · have hlt : i < b.stock.length := by simpa using hd
    have hlt2 : i < (leftsW b).length := by omega
    have hle : i + 1 ≤ 4294967296 := by omega
    have hmin : min i (leftsW b).length = i := by omega
    refine (c22 b hok i hlt 365).call rfl rfl rfl ?_
    simp only [go_sem, Nat.reduceBEq, Nat.reduceEqDiff, Nat.reduceLT, Nat.reduceLeDiff, Nat.reduceAdd, Nat.reduceSub, Nat.reduceMul, reduceCtorEq, Int.reduceToNat, Int.reduceEq, Int.reduceLT, Int.reduceLE, Int.reduceNe, Int.reduceNeg , or_self, or_false, false_or , List.length_map, Sp.d, List.length_map, List.length_take, hmin, hle]
    refine ⟨i + 1, hlt, by omega, ?_⟩
    have e : (leftsW b)[i] = leftR b i 365 := by rw [← left_eq hok hlt]; simp [leftsW]
    exact ForgetTo.same' (by simp) (by simp [EWe, Env.look, w64 (n := (i : Int) + 1) (by omega) (by omega)]) (by rw [List.take_succ_eq_append_getElem hlt2, e]; simp [bookV, Sp.d])
  have hni : i = b.stock.length := by have : ¬ i < b.stock.length := by simpa using hd
                                      omega
  rw [hni, show (leftsW b).take b.stock.length = leftsW b from List.take_of_length_le (by omega)]
  simp only [go_sem, Nat.reduceBEq, Nat.reduceEqDiff, Nat.reduceLT, Nat.reduceLeDiff, Nat.reduceAdd, Nat.reduceSub, Nat.reduceMul, reduceCtorEq, Int.reduceToNat, Int.reduceEq, Int.reduceLT, Int.reduceLE, Int.reduceNe, Int.reduceNeg , or_self, or_false, false_or , List.length_map]
  have hll2 : (leftsW b).length ≤ 4294967296 := by omega
  have tkl : ((leftsW b).map Sp.d).take b.stock.length = (leftsW b).map Sp.d := List.take_of_length_le (by simp; omega)
  refine (c21 (leftsW b) (leftsW b) hll2 hll2).callL rfl (by simp [pubVs, pubV, dz, hll, tkl]) rfl ?_
  simp only [go_sem, Nat.reduceBEq, Nat.reduceEqDiff, Nat.reduceLT, Nat.reduceLeDiff, Nat.reduceAdd, Nat.reduceSub, Nat.reduceMul, reduceCtorEq, Int.reduceToNat, Int.reduceEq, Int.reduceLT, Int.reduceLE, Int.reduceNe, Int.reduceNeg , or_self, or_false, false_or , List.length_map]
  refine (c23 b cs hcl2).call rfl rfl rfl ?_
  simp only [go_sem, Nat.reduceBEq, Nat.reduceEqDiff, Nat.reduceLT, Nat.reduceLeDiff, Nat.reduceAdd, Nat.reduceSub, Nat.reduceMul, reduceCtorEq, Int.reduceToNat, Int.reduceEq, Int.reduceLT, Int.reduceLE, Int.reduceNe, Int.reduceNeg , or_self, or_false, false_or , List.length_map]
  refine Br_split (fun h4 => ?_) (fun h4 => ?_) <;> simp only [go_sem, Nat.reduceBEq, Nat.reduceEqDiff, Nat.reduceLT, Nat.reduceLeDiff, Nat.reduceAdd, Nat.reduceSub, Nat.reduceMul, reduceCtorEq, Int.reduceToNat, Int.reduceEq, Int.reduceLT, Int.reduceLE, Int.reduceNe, Int.reduceNeg , or_self, or_false, false_or , List.length_map, h4]
  · have hc : countedR b cs = false := by simpa using h4
    have z30 : ((0 : Nat) : Int) = 0 := rfl
    simp only [go_sem, Nat.reduceBEq, Nat.reduceEqDiff, Nat.reduceLT, Nat.reduceLeDiff, Nat.reduceAdd, Nat.reduceSub, Nat.reduceMul, reduceCtorEq, Int.reduceToNat, Int.reduceEq, Int.reduceLT, Int.reduceLE, Int.reduceNe, Int.reduceNeg , or_self, or_false, false_or , List.length_map, miss_uncounted hk hc, z30]
    refine c14.call rfl rfl rfl ?_
    simp only [go_sem, Nat.reduceBEq, Nat.reduceEqDiff, Nat.reduceLT, Nat.reduceLeDiff, Nat.reduceAdd, Nat.reduceSub, Nat.reduceMul, reduceCtorEq, Int.reduceToNat, Int.reduceEq, Int.reduceLT, Int.reduceLE, Int.reduceNe, Int.reduceNeg , or_self, or_false, false_or , List.length_map]
  have hc : countedR b cs = true := by simpa using h4
  obtain ⟨hm, hcs⟩ := miss_good hk hc
  rw [hm]
  refine ALoop.by (S := Nat) (fun i => [(15, .d (.int .i64 i)), (13, .ref 2 b.stock.length 0 b.stock.length), (1, .d (.sl (cs.map Sp.d))), (10, .d (.sl ((missW b cs).map Sp.d))), (11, .d (.int .i64 0))])
    (fun i => [.cells (bookV b), .cells (bookV b), .arr 2 false ((rowM b cs i).map Sp.d)]) (fun i => b.stock.length - i) (fun i => i ≤ b.stock.length) 0 (by simp) (fun _ h => nomatch h) (Nat.zero_le _) ?_ ?_
  · exact ForgetTo.same' (by simp) (by simp [EWe, Env.look]) (by simp [bookV, rowM_zero])
  clear hi hn hd
  rintro j hj hn
  have hrl := rowM_len b cs j
  refine AWP.run (fun k => k == 13) tt_ok (fun _ h => nomatch h) (by simp) rfl ?_
  simp only [go_sem, Nat.reduceBEq, Nat.reduceEqDiff, Nat.reduceLT, Nat.reduceLeDiff, Nat.reduceAdd, Nat.reduceSub, Nat.reduceMul, reduceCtorEq, Int.reduceToNat, Int.reduceEq, Int.reduceLT, Int.reduceLE, Int.reduceNe, Int.reduceNeg , or_self, or_false, false_or , List.length_map, bookV, hrl]
  refine Br_split (fun hd => ?_) (fun hd => ?_) <;> simp only [go_sem, Nat.reduceBEq, Nat.reduceEqDiff, Nat.reduceLT, Nat.reduceLeDiff, Nat.reduceAdd, Nat.reduceSub, Nat.reduceMul, reduceCtorEq, Int.reduceToNat, Int.reduceEq, Int.reduceLT, Int.reduceLE, Int.reduceNe, Int.reduceNeg , or_self, or_false, false_or , List.length_map, hd]
  · have hlt : j < b.stock.length := by simpa using hd
    have hjc : j < cs.length := by omega
    have hjr : j < (rowM b cs j).length := by omega
    have y0 : (0 : Int) ≤ (j : Int) := by omega
    have y1 : (j : Int) < (b.stock.length : Int) := by omega
    refine ADrw.treeG (fun k => k == 13) tt_ok (by kernel_rfl) (fun k => if k = 4 ∨ k = 6 ∨ k = 15 ∨ k = 17 ∨ k = 25 then some .L else if k = 26 then some .W else some .S) (.ones [0, 1, 2, 3, 4, 5, 6, 7, 8, 9, 10, 11, 12, 13, 14, 15, 16, 17, 18, 19, 20, 21, 22, 23, 24, 25, 26] .done) (by simp) (fun _ h => nomatch h) rfl rfl (by kernel_rfl) ?_
    simp only [go_sem, Nat.reduceBEq, Nat.reduceEqDiff, Nat.reduceLT, Nat.reduceLeDiff, Nat.reduceAdd, Nat.reduceSub, Nat.reduceMul, reduceCtorEq, Int.reduceToNat, Int.reduceEq, Int.reduceLT, Int.reduceLE, Int.reduceNe, Int.reduceNeg , or_self, or_false, false_or , List.length_map, hrl, y0, y1, Int.toNat_natCast, idx_nat, List.getElem?_map, List.getElem?_eq_getElem hjc, List.getElem?_eq_getElem hjr, rowM_get b cs hjr, Sp.d]
    refine (c24 _ _).callS rfl rfl rfl rfl rfl rfl ?_
    simp only [go_sem, Nat.reduceBEq, Nat.reduceEqDiff, Nat.reduceLT, Nat.reduceLeDiff, Nat.reduceAdd, Nat.reduceSub, Nat.reduceMul, reduceCtorEq, Int.reduceToNat, Int.reduceEq, Int.reduceLT, Int.reduceLE, Int.reduceNe, Int.reduceNeg , or_self, or_false, false_or , List.length_map, hrl, y0, y1, Int.toNat_natCast, List.getElem?_map, List.getElem?_eq_getElem hjr, Sp.d]
    refine ⟨j + 1, hlt, by omega, ?_⟩
    have e := rowM_set b cs hlt hjc
    exact ForgetTo.same' (by simp) (by simp [EWe, Env.look, w64 (n := (j : Int) + 1) (by omega) (by omega)]) (by rw [← e]; simp [bookV, Sp.d, List.map_set, missOne])
  · have hjn : j = b.stock.length := by have : ¬ j < b.stock.length := by simpa using hd
                                        omega
    rw [hjn, rowM_end b cs hcs]
    have hml : (missW b cs).length = b.stock.length := by simp [missW, hcs]
    have hml2 : (missW b cs).length ≤ 4294967296 := by omega
    have tkm : ((missW b cs).map Sp.d).take b.stock.length = (missW b cs).map Sp.d := List.take_of_length_le (by simp; omega)
    simp only [go_sem, Nat.reduceBEq, Nat.reduceEqDiff, Nat.reduceLT, Nat.reduceLeDiff, Nat.reduceAdd, Nat.reduceSub, Nat.reduceMul, reduceCtorEq, Int.reduceToNat, Int.reduceEq, Int.reduceLT, Int.reduceLE, Int.reduceNe, Int.reduceNeg , or_self, or_false, false_or , List.length_map]
    refine (c21 (missW b cs) (missW b cs) hml2 hml2).callL rfl (by simp [pubVs, pubV, dz, hml, tkm]) rfl ?_
    simp only [go_sem, Nat.reduceBEq, Nat.reduceEqDiff, Nat.reduceLT, Nat.reduceLeDiff, Nat.reduceAdd, Nat.reduceSub, Nat.reduceMul, reduceCtorEq, Int.reduceToNat, Int.reduceEq, Int.reduceLT, Int.reduceLE, Int.reduceNe, Int.reduceNeg , or_self, or_false, false_or , List.length_map]
    refine c14.call rfl rfl rfl ?_
    simp only [go_sem, Nat.reduceBEq, Nat.reduceEqDiff, Nat.reduceLT, Nat.reduceLeDiff, Nat.reduceAdd, Nat.reduceSub, Nat.reduceMul, reduceCtorEq, Int.reduceToNat, Int.reduceEq, Int.reduceLT, Int.reduceLE, Int.reduceNe, Int.reduceNeg , or_self, or_false, false_or , List.length_map]
end Go.Aw
end

section
namespace Go.Aw
open Go Go.Proofs Go.Proofs.Try

def t3 (x : List Int) : T3 := ⟨x.getD 0 0, x.getD 1 0, x.getD 2 0⟩

theorem t3_set {pre : List Int} {k : Nat} (h : pre.length = k) (hk : k ≤ 2) (n : Int) : (t3 pre).set k n = t3 (pre ++ [n]) := by
  rcases pre with _ | ⟨a, _ | ⟨b, _ | ⟨c, r⟩⟩⟩
  · subst h; rfl
  · subst h; rfl
  · subst h; rfl
  · simp at h; omega

theorem loHi_upTo (s : Sp) : loHi s = upTo s := by
  unfold loHi upTo
  rw [show s.hi + 1 - s.lo = s.hi - s.lo + 1 by omega]

/-- What is left, kind by kind. -/
def lfA (a : Acct) : Nat → List Int → Int → Int
  | _, [], left => left
  | k, n :: y, left => lfA a (k + 1) y (wr (left - wr (n * a.sg k)))

theorem truthsL_pre : ∀ (l : List Sp) (t x : List Int), x ∈ truthsL l t → x.take t.length = t
  | l, t, x, h => by
    obtain ⟨y, _, rfl⟩ := (mem_truthsL l t x).1 h
    simp

theorem truF_eq (a : Acct) : ∀ (l : List Sp) (k : Nat) (pre : List Int) (left : Int), pre.length = k → k + l.length ≤ 3 → (∀ j, j < l.length → a.sp (k + j) = l.getD j ⟨0, 0⟩) →
    truF a l.length k (t3 pre) left = (truthsL l pre).map fun x => (t3 x, lfA a k (x.drop k) left)
  | [], k, pre, left, h, _, _ => by
    subst h
    simp [truF, truthsL, lfA]
  | s :: r, k, pre, left, h, hk, hs => by
    simp only [List.length_cons] at hk hs
    have h0 : a.sp k = s := by simpa using hs 0 (by omega)
    simp only [List.length_cons, truF, truthsL, h0, loHi_upTo, List.map_flatMap]
    congr 1
    funext n
    rw [t3_set h (by omega), truF_eq a r (k + 1) (pre ++ [n]) _ (by simp [h]) (by omega) (fun j hj => by
      have := hs (j + 1) (by omega)
      rw [show k + (j + 1) = k + 1 + j by omega] at this
      simpa using this)]
    apply List.map_congr_left
    intro x hx
    have hp := truthsL_pre _ _ _ hx
    have hpl : (pre ++ [n]).length = k + 1 := by simp [h]
    rw [hpl] at hp
    have hd : x.drop k = n :: x.drop (k + 1) := by
      have e : x = pre ++ n :: x.drop (k + 1) := by
        conv => lhs; rw [← List.take_append_drop (k + 1) x, hp]
        simp
      have : x.drop k = (pre ++ n :: x.drop (k + 1)).drop k := by rw [← e]
      rw [this, ← h, List.drop_left]
    rw [hd, lfA]

/-- The program's truths are the reference's, each with what is left of the goods. -/
theorem truL_eq {b : Book} (h : b.Ok) {g : Nat} (hg : g < b.stock.length) : truL (acctW b g 365) = (truthsB b g).map fun x => (t3 x, restR b g 365 x) := by
  have hl : (spansB b g).length = b.recs.length := by simp [spansB]
  have h3 := h.r3
  have hk : (acctW b g 365).kinds.toNat = (spansB b g).length := by simp [acctW, hl]
  have e := truF_eq (acctW b g 365) (spansB b g) 0 [] (acctW b g 365).sum rfl (by omega) (fun j hj => by
    rw [Nat.zero_add, spansB_get]; exact acct_sp b g 365 j (by omega))
  rw [truL, hk, show (⟨0, 0, 0⟩ : T3) = t3 [] from rfl, e, truthsB]
  apply List.map_congr_left
  intro x hx
  have hy : Wthn (spansB b g) x := by
    obtain ⟨y, hy, e⟩ := (mem_truthsL _ _ _).1 hx
    rw [show x = y by simpa using e]; exact hy
  simp only [List.drop_zero]
  rw [rest_eq h hg 365 hy]
  have hyl : x.length ≤ 3 := by
    have := truthsL_each _ _ _ hx
    simp at this; omega
  obtain ⟨k0, k1, k2, k3⟩ := acct_bounds h hg 365
  have htk : ∀ k, 0 ≤ x.getD k 0 ∧ x.getD k 0 ≤ 50 := fun k => by
    have := hy.get _ _ k
    rw [spansB_get] at this
    have := h.span g k
    omega
  congr 1
  generalize acctW b g 365 = a at *
  have w : ∀ n : Int, -1000000 ≤ n → n ≤ 1000000 → wr n = n := fun n h0 h1 => w64 (by omega) (by omega)
  have t0 := htk 0
  have t1 := htk 1
  have t2 := htk 2
  have q0 := mul_le t0.1 t0.2 k1.1 k1.2
  have q1 := mul_le t1.1 t1.2 k2.1 k2.2
  have q2 := mul_le t2.1 t2.2 k3.1 k3.2
  rcases x with _ | ⟨n0, _ | ⟨n1, _ | ⟨n2, _ | ⟨n3, r⟩⟩⟩⟩
  · simp [lfA]
  · simp at q0 q1 q2
    simp only [lfA, Acct.sg]
    rw [w (n0 * a.s0) (by omega) (by omega), w (a.sum - n0 * a.s0) (by omega) (by omega)]
    simp [Int.mul_comm]
  · simp at q0 q1 q2
    simp only [lfA, Acct.sg]
    rw [w (n0 * a.s0) (by omega) (by omega), w (n1 * a.s1) (by omega) (by omega), w (a.sum - n0 * a.s0) (by omega) (by omega), w _ (by omega) (by omega)]
    simp [Int.mul_comm]; omega
  · simp at q0 q1 q2
    simp only [lfA, Acct.sg]
    rw [w (n0 * a.s0) (by omega) (by omega), w (n1 * a.s1) (by omega) (by omega), w (n2 * a.s2) (by omega) (by omega), w (a.sum - n0 * a.s0) (by omega) (by omega), w (a.sum - n0 * a.s0 - n1 * a.s1) (by omega) (by omega), w _ (by omega) (by omega)]
    simp [Int.mul_comm]; omega
  · simp at hyl
end Go.Aw
end

section
set_option maxRecDepth 100000
namespace Go.Aw
open Go Go.Proofs Go.Proofs.Try

theorem incL_get : ∀ (xs l : List Int), (∀ x ∈ xs, 0 ≤ x ∧ x.toNat < l.length) → (∀ k, -1000000000 ≤ l.getD k 0 ∧ l.getD k 0 + xs.length ≤ 1000000000) → ∀ k : Nat, (incL l xs).getD k 0 = l.getD k 0 + xs.count (k : Int)
  | [], l, _, _, k => by simp [incL]
  | x :: r, l, h, hb, k => by
    have hx := h x (by simp)
    have hbx := hb x.toNat
    simp only [List.length_cons] at hb hbx
    have e : incL l (x :: r) = incL (l.set x.toNat (l.getD x.toNat 0 + 1)) r := by
      rw [show l.getD x.toNat 0 + 1 = wr (l.getD x.toNat 0 + 1) from (w64 (by omega) (by omega)).symm]; rfl
    have hs : ∀ j, (l.set x.toNat (l.getD x.toNat 0 + 1)).getD j 0 = l.getD j 0 + if j = x.toNat then 1 else 0 := by
      intro j
      simp only [List.getD_eq_getElem?_getD, List.getElem?_set]
      by_cases hj : x.toNat = j
      · subst hj
        rw [if_pos rfl, if_pos hx.2, if_pos rfl]; rfl
      · rw [if_neg hj, if_neg (by omega)]; omega
    rw [e, incL_get r _ (fun y hy => by have := h y (List.mem_cons_of_mem _ hy); simpa using this) (fun j => by rw [hs j]; have := hb j; split <;> omega) k, hs k, List.count_cons]
    by_cases hk : k = x.toNat
    · rw [if_pos hk, if_pos (by simp; omega)]; omega
    · rw [if_neg hk, if_neg (by simp; omega)]; omega

theorem incL_sum : ∀ (xs l : List Int), (∀ x ∈ xs, 0 ≤ x ∧ x.toNat < l.length) → (∀ k, -1000000000 ≤ l.getD k 0 ∧ l.getD k 0 + xs.length ≤ 1000000000) → (incL l xs).sum = l.sum + xs.length
  | [], l, _, _ => by simp [incL]
  | x :: r, l, h, hb => by
    have hx := h x (by simp)
    have hbx := hb x.toNat
    simp only [List.length_cons] at hb hbx
    have e : incL l (x :: r) = incL (l.set x.toNat (l.getD x.toNat 0 + 1)) r := by
      rw [show l.getD x.toNat 0 + 1 = wr (l.getD x.toNat 0 + 1) from (w64 (by omega) (by omega)).symm]; rfl
    have hs : ∀ j, (l.set x.toNat (l.getD x.toNat 0 + 1)).getD j 0 = l.getD j 0 + if j = x.toNat then 1 else 0 := by
      intro j
      simp only [List.getD_eq_getElem?_getD, List.getElem?_set]
      by_cases hj : x.toNat = j
      · subst hj
        rw [if_pos rfl, if_pos hx.2, if_pos rfl]; rfl
      · rw [if_neg hj, if_neg (by omega)]; omega
    have hsum : ∀ (l : List Int) (i : Nat) (v : Int), i < l.length → (l.set i (l.getD i 0 + v)).sum = l.sum + v := by
      intro l
      induction l with
      | nil => intro i v hi; simp at hi
      | cons a s ih =>
        intro i v hi
        cases i with
        | zero => simp; omega
        | succ i =>
          have := ih i v (by simpa using hi)
          simp only [List.set_cons_succ, List.sum_cons, List.getD_cons_succ]; omega
    rw [e, incL_sum r _ (fun y hy => by have := h y (List.mem_cons_of_mem _ hy); simpa using this) (fun j => by rw [hs j]; have := hb j; split <;> omega), hsum _ _ _ hx.2]
    simp only [List.length_cons]; omega

theorem leftN_sum {pence : Int} {parts : List Int} (h : PartsOk pence parts) (hs : 0 < parts.sum) : ∀ i, i ≤ parts.length → leftN pence parts.sum parts i = pence - ((List.range i).map (qW pence parts.sum parts)).sum
  | 0, _ => by simp [leftN]
  | i + 1, hi => by
    obtain ⟨k1, k2, k3, k4, k5⟩ := leftN_eq h hs i (by omega)
    obtain ⟨m1, m2, m3, _, _, m4, m5⟩ := quo_rem h hs (i := i) (by omega)
    have := h.p1
    have := h.len
    rw [leftN, show wr (leftN pence parts.sum parts i - qW pence parts.sum parts i) = leftN pence parts.sum parts i - qW pence parts.sum parts i from w64 (by omega) (by omega), leftN_sum h hs i (by omega)]
    rw [List.range_succ, List.map_append, List.sum_append]
    simp only [List.map_cons, List.map_nil, List.sum_cons, List.sum_nil]; omega

/-- Who gets a penny more. -/
def upS (pence : Int) (parts : List Int) (k : Nat) : Prop := ∃ a, a < (leftN pence parts.sum parts parts.length).toNat ∧ (orderW pence parts.sum parts).getD a 0 = k

structure SharesLaw (pence : Int) (parts S : List Int) : Prop where
  len : S.length = parts.length
  sum : S.sum = pence
  val : ∀ k, k < parts.length → (S.getD k 0 = qW pence parts.sum parts k ∧ ¬ upS pence parts k) ∨ (S.getD k 0 = qW pence parts.sum parts k + 1 ∧ upS pence parts k)
  pos : ∀ k, k < parts.length → upS pence parts k → 0 < remW pence parts.sum parts k
  mono : ∀ i k, i < parts.length → k < parts.length → Bef (remW pence parts.sum parts) i k → upS pence parts k → upS pence parts i

theorem remS_eq (pence all : Int) (parts : List Int) : ∀ i, remS pence all parts i = ((List.range i).map (remW pence all parts)).sum
  | 0 => rfl
  | i + 1 => by
    rw [remS, remS_eq pence all parts i, List.range_succ, List.map_append, List.sum_append]
    simp

theorem perm_sum {l m : List Int} (h : l.Perm m) : l.sum = m.sum := by
  induction h with
  | nil => rfl
  | cons x _ ih => simp [ih]
  | swap x y l => simp only [List.sum_cons]; omega
  | trans _ _ h1 h2 => rw [h1, h2]

/-- A sum over all of a permutation. -/
theorem sum_perm (f : Nat → Int) (o : List Int) (n : Nat) (hl : o.length = n) (hin : ∀ a, a < n → ∃ k : Nat, k < n ∧ o.getD a 0 = k) (hinj : ∀ a b, a < b → b < n → o.getD a 0 ≠ o.getD b 0) (hon : ∀ k : Nat, k < n → ∃ a, a < n ∧ o.getD a 0 = k) :
    (o.map fun x => f x.toNat).sum = ((List.range n).map f).sum := by
  have hp : (o.map Int.toNat).Perm (List.range n) := by
    refine (List.perm_ext_iff_of_nodup ?_ List.nodup_range).2 ?_
    · rw [List.nodup_iff_pairwise_ne, List.pairwise_iff_getElem]
      intro i j hi hj hij
      simp only [List.length_map] at hi hj
      have := hinj i j hij (by omega)
      rw [getD_eq (by omega), getD_eq (by omega)] at this
      obtain ⟨x, _, ex⟩ := hin i (by omega)
      obtain ⟨y, _, ey⟩ := hin j (by omega)
      rw [getD_eq (by omega)] at ex ey
      simp only [List.getElem_map]
      omega
    · intro k
      simp only [List.mem_map, List.mem_range]
      constructor
      · rintro ⟨x, hx, rfl⟩
        obtain ⟨a, ha, rfl⟩ := List.mem_iff_getElem.1 hx
        obtain ⟨y, hy, ey⟩ := hin a (by omega)
        rw [getD_eq (by omega)] at ey
        omega
      · intro hk
        obtain ⟨a, ha, e⟩ := hon k hk
        rw [getD_eq (by omega)] at e
        exact ⟨o[a]'(by omega), List.getElem_mem _, by omega⟩
  have := perm_sum (hp.map f)
  rw [List.map_map] at this
  exact this

theorem shares_law {pence : Int} {parts : List Int} (h : PartsOk pence parts) (hs : 0 < parts.sum) : SharesLaw pence parts (sharesW pence parts.sum parts) := by
  have hlf := leftN_lt h hs
  have hl0 : 0 < parts.length := by
    rcases parts with _ | _
    · simp at hs
    · simp
  have hl6 := h.len
  obtain ⟨s1, s2, s3, s4⟩ := isort_spec (remW pence parts.sum parts) (ltW pence parts.sum parts) (fun x y => cmpI_lt _ _) parts.length (parts.length - 1) (by omega)
  have hol := order_len pence parts.sum parts
  rw [show isortI (ltW pence parts.sum parts) (nats parts.length) (parts.length - 1) = orderW pence parts.sum parts from rfl] at s1 s2 s3 s4
  have hls := leftN_sum h hs parts.length (Nat.le_refl _)
  obtain ⟨ke, _, _, _, _⟩ := leftN_eq h hs parts.length (Nat.le_refl _)
  rw [List.drop_length, List.sum_nil, Int.mul_zero, Int.zero_add, remS_eq] at ke
  have hpb : ∀ k, k < parts.length → upS pence parts k → 0 < remW pence parts.sum parts k := by
    intro k hk ⟨a, ha, ea⟩
    obtain ⟨_, r0, _, _, _, _, _⟩ := quo_rem h hs hk
    have hz : ¬ remW pence parts.sum parts k = 0 := by
      intro hz
      have hsum := sum_perm (remW pence parts.sum parts) (orderW pence parts.sum parts) parts.length hol (fun a ha => by obtain ⟨k, hk, e⟩ := s3 a (by omega); exact ⟨k, by omega, e⟩)
        (fun a b hab hb e => by have := s1 a b hab (by omega); rw [e] at this; simp only [Bef] at this; omega) (fun k hk => by obtain ⟨a, ha, e⟩ := s4 k (by omega); exact ⟨a, by omega, e⟩)
      rw [← hsum] at ke
      -- those behind are nought
      have hb : ∀ j, j ≤ parts.length → ((orderW pence parts.sum parts).take j |>.map fun x => remW pence parts.sum parts x.toNat).sum ≤ (min j a : Nat) * (parts.sum - 1) := by
        intro j
        induction j with
        | zero => intro _; simp
        | succ j ih =>
          intro hj
          have hjl : j < (orderW pence parts.sum parts).length := by omega
          rw [List.take_succ_eq_append_getElem hjl, List.map_append, List.sum_append]
          simp only [List.map_cons, List.map_nil, List.sum_cons, List.sum_nil]
          have ih := ih (by omega)
          obtain ⟨y, hy, ey⟩ := s3 j (by omega)
          have ey' := ey
          rw [getD_eq hjl] at ey'
          rw [ey', Int.toNat_natCast]
          obtain ⟨_, y0, y1, _, _, _, _⟩ := quo_rem h hs (i := y) (by omega)
          by_cases hja : j < a
          · rw [show min (j + 1) a = j + 1 by omega]
            rw [show min j a = j by omega] at ih
            have : ((j + 1 : Nat) : Int) * (parts.sum - 1) = j * (parts.sum - 1) + (parts.sum - 1) := by
              rw [Int.natCast_add, Int.add_mul]; omega
            omega
          · rw [show min (j + 1) a = a by omega]
            rw [show min j a = a by omega] at ih
            have : remW pence parts.sum parts y = 0 := by
              by_cases hja2 : j = a
              · subst hja2
                rw [ea] at ey
                rw [show y = k by omega]; exact hz
              · have := s1 a j (by omega) (by omega)
                rw [ea, ey] at this
                simp only [Bef, Int.toNat_natCast] at this
                omega
            omega
      have hb := hb parts.length (Nat.le_refl _)
      rw [List.take_of_length_le (by omega), ← ke] at hb
      have hma : min parts.length a = a := by omega
      rw [hma] at hb
      have ha' : (a : Int) + 1 ≤ leftN pence parts.sum parts parts.length := by omega
      have h1 : parts.sum * ((a : Int) + 1) ≤ parts.sum * leftN pence parts.sum parts parts.length := Int.mul_le_mul_of_nonneg_left ha' (by omega)
      have h2 : parts.sum * ((a : Int) + 1) = a * (parts.sum - 1) + a + parts.sum := by
        rw [Int.mul_add, Int.mul_sub, Int.mul_comm parts.sum]; omega
      omega
    omega
  have hxs : ∀ x ∈ (orderW pence parts.sum parts).take (leftN pence parts.sum parts parts.length).toNat, 0 ≤ x ∧ x.toNat < ((List.range parts.length).map (qW pence parts.sum parts)).length := by
    intro x hx
    obtain ⟨i, hi, rfl⟩ := order_all pence parts.sum parts hl0 x (List.mem_of_mem_take hx)
    simp; omega
  have hqb : ∀ k, -1000000000 ≤ ((List.range parts.length).map (qW pence parts.sum parts)).getD k 0 ∧ ((List.range parts.length).map (qW pence parts.sum parts)).getD k 0 + ((orderW pence parts.sum parts).take (leftN pence parts.sum parts parts.length).toNat).length ≤ 1000000000 := by
    intro k
    rw [List.length_take]
    by_cases hk : k < parts.length
    · rw [getD_range hk]
      obtain ⟨_, _, _, _, _, m4, m5⟩ := quo_rem h hs hk
      omega
    · rw [show ((List.range parts.length).map (qW pence parts.sum parts)).getD k 0 = 0 by rw [List.getD_eq_getElem?_getD, List.getElem?_eq_none (by simp; omega)]; rfl]; omega
  have hcnt : ∀ k : Nat, k < parts.length → (upS pence parts k ∧ ((orderW pence parts.sum parts).take (leftN pence parts.sum parts parts.length).toNat).count (k : Int) = 1) ∨ (¬ upS pence parts k ∧ ((orderW pence parts.sum parts).take (leftN pence parts.sum parts parts.length).toNat).count (k : Int) = 0) := by
    intro k hk
    have hnd : ((orderW pence parts.sum parts).take (leftN pence parts.sum parts parts.length).toNat).Nodup := by
      refine List.Nodup.sublist (List.take_sublist _ _) ?_
      rw [List.nodup_iff_pairwise_ne, List.pairwise_iff_getElem]
      intro i j hi hj hij
      have := s1 i j hij (by omega)
      rw [getD_eq hi, getD_eq hj] at this
      intro e
      rw [e] at this; simp only [Bef] at this; omega
    have hmem : (k : Int) ∈ (orderW pence parts.sum parts).take (leftN pence parts.sum parts parts.length).toNat ↔ upS pence parts k := by
      rw [List.mem_iff_getElem]
      constructor
      · rintro ⟨a, ha, e⟩
        rw [List.length_take] at ha
        rw [List.getElem_take] at e
        exact ⟨a, by omega, by rw [getD_eq (by omega)]; exact e⟩
      · rintro ⟨a, ha, e⟩
        rw [getD_eq (by omega)] at e
        exact ⟨a, by rw [List.length_take]; omega, by rw [List.getElem_take]; exact e⟩
    by_cases hu : upS pence parts k
    · left; exact ⟨hu, by rw [List.Nodup.count hnd, if_pos (hmem.2 hu)]⟩
    · right; exact ⟨hu, List.count_eq_zero.2 fun hh => hu (hmem.1 hh)⟩
  refine ⟨by rw [sharesW, incL_len]; simp, ?_, ?_, hpb, ?_⟩
  · rw [sharesW, incL_sum _ _ hxs hqb, List.length_take]; omega
  · intro k hk
    rw [sharesW, incL_get _ _ hxs hqb k, getD_range hk]
    rcases hcnt k hk with ⟨a, e⟩ | ⟨a, e⟩
    · right; rw [e]; exact ⟨rfl, a⟩
    · left; rw [e]; exact ⟨by omega, a⟩
  · rintro i k hi hk hbf ⟨a, ha, ea⟩
    obtain ⟨b, hb, eb⟩ := s4 i (by omega)
    have : b < a := by
      rcases Nat.lt_trichotomy b a with hh | hh | hh
      · exact hh
      · subst hh
        rw [eb] at ea
        rw [show i = k by omega] at hbf
        simp only [Bef] at hbf; omega
      · have := s1 a b hh (by omega)
        rw [ea, eb] at this
        simp only [Bef] at this hbf; omega
    exact ⟨b, by omega, eb⟩
end Go.Aw
end

section
set_option maxRecDepth 100000
namespace Go.Aw
open Go Go.Proofs Go.Proofs.Try

/-- Four bytes. -/
structure Q4 where
  a : Int
  b : Int
  c : Int
  e : Int
  deriving Inhabited, DecidableEq

def Q4.d (s : Q4) : D := .agg [.int .u8 s.a, .int .u8 s.b, .int .u8 s.c, .int .u8 s.e]

def Byte (n : Int) : Prop := 0 ≤ n ∧ n < 256

structure Q4.Ok (s : Q4) : Prop where
  a : Byte s.a
  b : Byte s.b
  c : Byte s.c
  e : Byte s.e

theorem c51 (n : Int) (s : Sp) : PC prog 51 [.d (.int .i64 n), .d s.d] (.d (.bool (decide (n ≥ s.lo) && decide (n ≤ s.hi)))) := by
  refine PC.run (fun _ => false) tt_ok (fn := f51) (rs := [.tmp 4]) rfl rfl rfl rfl rfl rfl rfl ?_
  simp only [go_sem, Nat.reduceBEq, Nat.reduceEqDiff, Nat.reduceLT, Nat.reduceLeDiff, Nat.reduceAdd, Nat.reduceSub, Nat.reduceMul, reduceCtorEq, Int.reduceToNat, Int.reduceEq, Int.reduceLT, Int.reduceLE, Int.reduceNe, Int.reduceNeg , or_self, or_false, false_or , List.length_map, Bool.or_true, Bool.true_or, Bool.false_or, Bool.or_false, Int.cast_ofNat_Int, Sp.d]
  refine Br_split (fun h => ?_) (fun h => ?_) <;> simp only [go_sem, Nat.reduceBEq, Nat.reduceEqDiff, Nat.reduceLT, Nat.reduceLeDiff, Nat.reduceAdd, Nat.reduceSub, Nat.reduceMul, reduceCtorEq, Int.reduceToNat, Int.reduceEq, Int.reduceLT, Int.reduceLE, Int.reduceNe, Int.reduceNeg , or_self, or_false, false_or , List.length_map, Bool.or_true, Bool.true_or, Bool.false_or, Bool.or_false, Int.cast_ofNat_Int, h]

theorem sumP_take {P : List Int} {i : Nat} (h : i < P.length) : sumP (P.take (i + 1)) = wr (sumP (P.take i) + P[i]) := by
  simp only [sumP]; rw [foldl_at h]

def ozN (s : Q4) : Int := 1 + 16 * s.a + s.b % 16
def saleN (s : Q4) : Sale := ⟨⟨max 1 (ozN s - s.c % 20), ozN s + s.c / 20⟩, s.e % 241⟩
def trulyN (n : Int) (s : Q4) : Int := n + ozN s * (saleN s).price / 16

structure SaleOk (s : Q4) : Prop where
  o0 : 1 ≤ ozN s
  o1 : ozN s ≤ 4096
  l0 : 1 ≤ (saleN s).oz.lo
  l1 : (saleN s).oz.lo ≤ ozN s
  h0 : ozN s ≤ (saleN s).oz.hi
  h1 : (saleN s).oz.hi ≤ 4108
  p0 : 0 ≤ (saleN s).price
  p1 : (saleN s).price ≤ 240

theorem saleN_ok {s : Q4} (h : s.Ok) : SaleOk s := by
  have := h.a; have := h.b; have := h.c; have := h.e
  simp only [Byte] at *
  constructor <;> simp only [saleN, ozN] <;> omega

theorem saleN_good {s : Q4} (h : s.Ok) : badSale (saleN s) = false := by
  obtain ⟨h1, h2, h3, h4, h5, h6, h7, h8⟩ := saleN_ok h
  have w1 : within 1 5000 [(saleN s).oz.lo, (saleN s).oz.hi] = true := (within_iff _ _ _).2 (by simp; omega)
  have w2 : within 0 240 [(saleN s).price] = true := (within_iff _ _ _).2 (by simp; omega)
  simp [badSale, w1, w2]; omega

theorem chips_good {l : List Q4} (h : ∀ s ∈ l, s.Ok) (hl : l.length ≤ 10) : chipsL (l.map saleN) = ((l.map saleN).foldl chipR ⟨0, 0⟩, 0) := by
  unfold chipsL
  rw [if_neg (by simp; omega), if_neg]
  simp only [List.any_eq_true, List.mem_map, not_exists, not_and]
  rintro x ⟨s, hs, rfl⟩
  simp [saleN_good (h s hs)]

theorem chips_step {s : Q4} (h : s.Ok) {z : Sp} {t : Int} {n : Nat} (hn : n ≤ 10) (h0 : 0 ≤ z.lo ∧ z.lo ≤ t ∧ t ≤ z.hi ∧ z.hi ≤ 100000 * n) :
    (z.lo ≤ (chipR z (saleN s)).lo ∧ (chipR z (saleN s)).lo ≤ trulyN t s ∧ trulyN t s ≤ (chipR z (saleN s)).hi ∧ z.hi ≤ (chipR z (saleN s)).hi ∧ (chipR z (saleN s)).hi ≤ 100000 * (n + 1)) := by
  obtain ⟨h1, h2, h3, h4, h5, h6, h7, h8⟩ := saleN_ok h
  obtain ⟨a0, a1, a2, a3⟩ := h0
  have m1 : 0 ≤ (saleN s).oz.lo * (saleN s).price := Int.mul_nonneg (by omega) h7
  have m2 : (saleN s).oz.lo * (saleN s).price ≤ ozN s * (saleN s).price := Int.mul_le_mul_of_nonneg_right h4 h7
  have m3 : ozN s * (saleN s).price ≤ (saleN s).oz.hi * (saleN s).price := Int.mul_le_mul_of_nonneg_right h5 h7
  have m4 : (saleN s).oz.hi * (saleN s).price ≤ 4108 * 240 := Int.mul_le_mul h6 h8 h7 (by omega)
  unfold trulyN
  simp only [chipR]
  generalize ozN s * (saleN s).price = x at *
  generalize (saleN s).oz.lo * (saleN s).price = y at *
  generalize (saleN s).oz.hi * (saleN s).price = u at *
  have w : ∀ n : Int, -100000000 ≤ n → n ≤ 100000000 → wr n = n := fun n h0 h1 => w64 (by omega) (by omega)
  rw [w y (by omega) (by omega), w u (by omega) (by omega), Int.tdiv_eq_ediv_of_nonneg m1, Int.tdiv_eq_ediv_of_nonneg (show 0 ≤ u by omega)]
  rw [w (y / 16) (by omega) (by omega), w (u / 16) (by omega) (by omega), w (z.lo + y / 16) (by omega) (by omega), w (z.hi + u / 16) (by omega) (by omega)]
  omega

theorem chips_inv (l : List Q4) (h : ∀ s ∈ l, s.Ok) : ∀ i, i ≤ l.length → i ≤ 10 → 0 ≤ (((l.take i).map saleN).foldl chipR ⟨0, 0⟩).lo ∧ (((l.take i).map saleN).foldl chipR ⟨0, 0⟩).lo ≤ (l.take i).foldl trulyN 0 ∧ (l.take i).foldl trulyN 0 ≤ (((l.take i).map saleN).foldl chipR ⟨0, 0⟩).hi ∧ (((l.take i).map saleN).foldl chipR ⟨0, 0⟩).hi ≤ 100000 * i
  | 0, _, _ => by simp
  | i + 1, hi, h10 => by
    have ih := chips_inv l h i (by omega) (by omega)
    have hlt : i < l.length := hi
    have st := chips_step (h _ (List.getElem_mem hlt)) (n := i) (by omega) ih
    rw [List.take_succ_eq_append_getElem hlt, List.map_append, List.foldl_append, List.foldl_append]
    simp only [List.map_cons, List.map_nil, List.foldl_cons, List.foldl_nil]
    omega

theorem sumP_nonneg : ∀ (l : List Int) (a : Int), (∀ p ∈ l, 0 ≤ p) → 0 ≤ a → a + l.sum ≤ 1000000000000 → l.foldl (fun n p => wr (n + p)) a = a + l.sum
  | [], a, _, _, _ => by simp
  | p :: r, a, h, h0, h1 => by
    have hp := h p (by simp)
    have hr := sum_nonneg r fun q hq => h q (List.mem_cons_of_mem _ hq)
    simp only [List.sum_cons] at h1
    simp only [List.foldl_cons, List.sum_cons]
    rw [show wr (a + p) = a + p from w64 (by omega) (by omega), sumP_nonneg r (a + p) (fun q hq => h q (List.mem_cons_of_mem _ hq)) (by omega) (by omega)]
    omega

theorem sum_ge {l : List Int} (h : ∀ p ∈ l, 0 ≤ p) : ∀ p ∈ l, p ≤ l.sum := by
  induction l with
  | nil => intro p hp; cases hp
  | cons a r ih =>
    intro p hp
    have := sum_nonneg r fun q hq => h q (List.mem_cons_of_mem _ hq)
    have h0 := h a (by simp)
    rw [List.sum_cons]
    rcases List.mem_cons.1 hp with rfl | hp
    · omega
    · have := ih (fun q hq => h q (List.mem_cons_of_mem _ hq)) p hp; omega

/-- All that the law asks of two parts. -/
theorem two_parts {pence : Int} {P S : List Int} (hok : PartsOk pence P) (hs : 0 < P.sum) (hp : pence < 65536) (law : SharesLaw pence P S) {i : Nat} (hi : i < P.length) (hi' : i < S.length) :
    (wr (wr (S[i] * P.sum) - wr (pence * P[i])) < P.sum ∧ - P.sum < wr (wr (S[i] * P.sum) - wr (pence * P[i]))) ∧ wr ((wr (pence * P[i])).tdiv P.sum) = qW pence P.sum P i ∧ wr (wr (pence * P[i]) - wr (qW pence P.sum P i * P.sum)) = remW pence P.sum P i ∧ 0 ≤ S[i] := by
  have hp0 := (sumP_eq hok).2
  obtain ⟨m1, m2, m3, m4, m5, m6, m7⟩ := quo_rem hok hs hi
  have hv := law.val i hi
  have hpos := law.pos i hi
  rw [getD_eq hi'] at hv
  have hpi := hok.part _ (List.getElem_mem hi)
  have h0 : 0 ≤ pence * P[i] := Int.mul_nonneg hok.p0 hpi.1
  have h1 : pence * P[i] ≤ 65536 * 1000 := Int.mul_le_mul (by omega) hpi.2 hpi.1 (by omega)
  have e1 : wr (pence * P[i]) = pence * P[i] := w64 (by omega) (by omega)
  refine ⟨?_, ?_, ?_, by omega⟩
  · have e2 : S[i] * P.sum = P.sum * qW pence P.sum P i ∨ S[i] * P.sum = P.sum * qW pence P.sum P i + P.sum := by
      rcases hv with ⟨hv, _⟩ | ⟨hv, _⟩
      · left; rw [hv, Int.mul_comm]
      · right; rw [hv, Int.add_mul, Int.mul_comm, Int.one_mul]
    have e3 : wr (S[i] * P.sum) = S[i] * P.sum := w64 (by omega) (by omega)
    rw [e1, e3, show wr (S[i] * P.sum - pence * P[i]) = S[i] * P.sum - pence * P[i] from w64 (by omega) (by omega)]
    rcases hv with ⟨hv, hu⟩ | ⟨hv, hu⟩
    · have : S[i] * P.sum = P.sum * qW pence P.sum P i := by rw [hv, Int.mul_comm]
      omega
    · have : S[i] * P.sum = P.sum * qW pence P.sum P i + P.sum := by rw [hv, Int.add_mul, Int.mul_comm, Int.one_mul]
      have := hpos hu
      omega
  · rw [e1, m4, Int.tdiv_eq_ediv_of_nonneg h0]
    rw [← m4]; exact w64 (by omega) (by omega)
  · have := lost_eq hok hs hi
    rw [lostW, getD_eq hi] at this
    exact this

theorem two_more {pence : Int} {P S : List Int} (hok : PartsOk pence P) (hs : 0 < P.sum) (law : SharesLaw pence P S) {i k : Nat} (hi : i < P.length) (hi' : i < S.length) (hk : k < P.length) (hk' : k < S.length) (hki : k < i) :
    (P[i] = P[k] → S[i] ≤ S[k] ∧ S[k] ≤ S[i] + 1) ∧ (remW pence P.sum P i > remW pence P.sum P k → S[k] > qW pence P.sum P k → S[i] > qW pence P.sum P i) ∧ (remW pence P.sum P k > remW pence P.sum P i → S[i] > qW pence P.sum P i → S[k] > qW pence P.sum P k) := by
  have hvi := law.val i hi
  have hvk := law.val k hk
  rw [getD_eq hi'] at hvi
  rw [getD_eq hk'] at hvk
  have m1 := law.mono i k hi hk
  have m2 := law.mono k i hk hi
  simp only [Bef] at m1 m2
  refine ⟨fun e => ?_, fun h1 h2 => ?_, fun h1 h2 => ?_⟩
  · have eq : qW pence P.sum P i = qW pence P.sum P k := by simp only [qW, getD_eq hi, getD_eq hk, e]
    have er : remW pence P.sum P i = remW pence P.sum P k := by simp only [remW, getD_eq hi, getD_eq hk, e]
    rcases hvi with ⟨a, ha⟩ | ⟨a, ha⟩
    · rcases hvk with ⟨b, hb⟩ | ⟨b, hb⟩ <;> omega
    · rcases hvk with ⟨b, hb⟩ | ⟨b, hb⟩
      · exact absurd (m2 (by right; exact ⟨er.symm, by omega⟩) ha) hb
      · omega
  · rcases hvk with ⟨b, hb⟩ | ⟨b, hb⟩
    · omega
    · have := m1 (by left; exact h1) hb
      rcases hvi with ⟨a, ha⟩ | ⟨a, ha⟩
      · exact absurd this ha
      · omega
  · rcases hvi with ⟨a, ha⟩ | ⟨a, ha⟩
    · omega
    · have := m2 (by left; exact h1) ha
      rcases hvk with ⟨b, hb⟩ | ⟨b, hb⟩
      · exact absurd this hb
      · omega

theorem sized_sales (l : List Sale) : sized 3 (l.map Sale.d) = true := by simp [sized, Sale.d, dcells]

abbrev Q12 : Ex → Env → Heap → Prop := FnPost Tt [.tmp 6] 0 fun r H' => H' = [] ∧ r = .d (.bool true)

set_option maxHeartbeats 4000000 in
theorem f12_9 (pence : Int) (P : List Int) (sales W : List Q4) (hQl : W.length ≤ 10) (hQl2 : W.length = min 10 sales.length) (hQm : ∀ p ∈ W, p.Ok) (hQg : ∀ i (h : i < W.length), sales[i]? = some W[i]) :
    AWP prog 332 0 none (restC 9 (bodyOf f12)) [(23, .ptr 2 0), (22, .d (.int .i64 0)), (21, .ref 1 0 0 0), (13, .d (.int .i64 pence)), (9, .d (.int .i64 pence)), (2, .d (.sl (sales.map Q4.d)))]
      [.arr 1 false (P.map (.int .i64)), .arr 3 false [], .cells [.d (.int .i64 0), .d (.int .i64 0)]] Q12 := by
  refine AWP.runS (fun k => k == 30 || k == 240) tt_ok (fun _ h => nomatch h) (Nat.zero_le _) rfl ?_
  simp only [go_sem, Nat.reduceBEq, Nat.reduceEqDiff, Nat.reduceLT, Nat.reduceLeDiff, Nat.reduceAdd, Nat.reduceSub, Nat.reduceMul, reduceCtorEq, Int.reduceToNat, Int.reduceEq, Int.reduceLT, Int.reduceLE, Int.reduceNe, Int.reduceNeg , or_self, or_false, false_or , List.length_map, Bool.or_true, Bool.true_or, Bool.false_or, Bool.or_false, Int.cast_ofNat_Int]
  obtain ⟨Z, hZ⟩ : ∃ Z : Nat → Sp, ∀ i, Z i = ((W.take i).map saleN).foldl chipR ⟨0, 0⟩ := ⟨_, fun _ => rfl⟩
  obtain ⟨U, hU⟩ : ∃ U : Nat → Int, ∀ i, U i = (W.take i).foldl trulyN 0 := ⟨_, fun _ => rfl⟩
  have hZ0 : Z 0 = ⟨0, 0⟩ := by rw [hZ]; rfl
  have hU0 : U 0 = 0 := by rw [hU]; rfl
  have hUs : ∀ i (h : i < W.length), U (i + 1) = trulyN (U i) W[i] := fun i h => by rw [hU, hU, foldl_at h]
  have hZs : ∀ i (h : i < W.length), Z (i + 1) = chipR (Z i) (saleN W[i]) := fun i h => by
    rw [hZ, hZ, List.take_succ_eq_append_getElem h, List.map_append, List.foldl_append]; rfl
  have hin : ∀ i, i ≤ W.length → 0 ≤ (Z i).lo ∧ (Z i).lo ≤ U i ∧ U i ≤ (Z i).hi ∧ (Z i).hi ≤ 100000 * i := fun i h => by
    rw [hZ, hU]; exact chips_inv W hQm i h (by omega)
  refine ALoop.by (S := Nat) (fun i => [(24, .d (.int .i64 i)), (23, .ptr 2 0), (22, .d (.int .i64 (U i))), (21, .ref 1 i 0 i), (13, .d (.int .i64 pence)), (9, .d (.int .i64 pence)), (2, .d (.sl (sales.map Q4.d)))])
    (fun i => [.arr 1 false (P.map (.int .i64)), .arr 3 false ((W.take i).map fun s => (saleN s).d), .cells [.d (.int .i64 (Z i).lo), .d (.int .i64 (Z i).hi)]]) (fun i => W.length - i) (fun i => i ≤ W.length) 0 (by simp) (fun _ h => nomatch h) (Nat.zero_le _) ?_ ?_
  · exact ForgetTo.same' (by simp) (by simp [EWe, Env.look, hU0]) (by simp [hZ0])
  rintro i hi hn
  refine AWP.run (fun k => k == 30 || k == 240) tt_ok (fun _ h => nomatch h) (by simp) rfl ?_
  simp only [go_sem, Nat.reduceBEq, Nat.reduceEqDiff, Nat.reduceLT, Nat.reduceLeDiff, Nat.reduceAdd, Nat.reduceSub, Nat.reduceMul, reduceCtorEq, Int.reduceToNat, Int.reduceEq, Int.reduceLT, Int.reduceLE, Int.reduceNe, Int.reduceNeg , or_self, or_false, false_or , List.length_map, Bool.or_true, Bool.true_or, Bool.false_or, Bool.or_false, Int.cast_ofNat_Int]
  by_cases hlt : i < W.length
  · have hcp : (i : Int) < (sales.length : Int) := by omega
    have hc6 : (i : Int) < 10 := by omega
    have hle : i + 1 ≤ 4294967296 := by omega
    have hmin : min i W.length = i := by omega
    have hok1 := hQm _ (List.getElem_mem hlt)
    have hinv := hin i hi
    have hst := chips_step hok1 (n := i) (by omega) hinv
    have hUs' := hUs i hlt
    have hZs' := hZs i hlt
    have hgood := chips_good (l := W.take (i + 1)) (fun s h => hQm s (List.mem_of_mem_take h)) (by simp; omega)
    rw [← hZ (i + 1)] at hgood
    rw [← hZs', ← hUs'] at hst
    have htk : W.take (i + 1) = W.take i ++ [W[i]] := List.take_succ_eq_append_getElem hlt
    have hb := hok1.a
    have hb2 := hok1.b
    have hb3 := hok1.c
    have hb4 := hok1.e
    simp only [Byte] at hb hb2 hb3 hb4
    have so := saleN_ok hok1
    have gW := hQg i hlt
    have gW2 : W[i] = W[i] := rfl
    generalize W[i] = q at *
    have w : ∀ n : Int, -100000 ≤ n → n ≤ 100000 → wr n = n := fun n h0 h1 => w64 (by omega) (by omega)
    have a1 := w q.a (by omega) (by omega)
    have a2 := w q.b (by omega) (by omega)
    have a3 := w q.c (by omega) (by omega)
    have a4 := w q.e (by omega) (by omega)
    have a5 := w (16 * q.a) (by omega) (by omega)
    have a6 := w (1 + 16 * q.a) (by omega) (by omega)
    have a7 : q.b.tmod 16 = q.b % 16 := Int.tmod_eq_emod_of_nonneg (by omega)
    have a8 : wr (1 + 16 * q.a + q.b % 16) = ozN q := w _ (by omega) (by omega)
    have a9 : q.c.tmod 20 = q.c % 20 := Int.tmod_eq_emod_of_nonneg (by omega)
    have b1 : wr (ozN q - q.c % 20) = ozN q - q.c % 20 := w _ (by simp only [ozN]; omega) (by simp only [ozN]; omega)
    have b2 : max 1 (ozN q - q.c % 20) = (saleN q).oz.lo := rfl
    have b3 : q.c.tdiv 20 = q.c / 20 := Int.tdiv_eq_ediv_of_nonneg (by omega)
    have b4 := w (q.c / 20) (by omega) (by omega)
    have b5 : wr (ozN q + q.c / 20) = (saleN q).oz.hi := w _ (by simp only [ozN]; omega) (by simp only [ozN]; omega)
    have b6 : q.e.tmod 241 = (saleN q).price := Int.tmod_eq_emod_of_nonneg (by omega)
    have z16 : (16 : Int) ≠ 0 := by omega
    have z20 : (20 : Int) ≠ 0 := by omega
    have z241 : (241 : Int) ≠ 0 := by omega
    simp only [go_sem, Nat.reduceBEq, Nat.reduceEqDiff, Nat.reduceLT, Nat.reduceLeDiff, Nat.reduceAdd, Nat.reduceSub, Nat.reduceMul, reduceCtorEq, Int.reduceToNat, Int.reduceEq, Int.reduceLT, Int.reduceLE, Int.reduceNe, Int.reduceNeg , or_self, or_false, false_or , List.length_map, Bool.or_true, Bool.true_or, Bool.false_or, Bool.or_false, Int.cast_ofNat_Int, hcp, hc6, idx_nat, List.getElem?_map, gW, Q4.d, a1, a2, a5, a6, a7, a8, remO_ne z16]
    refine ADrw.treeG (fun k => k == 30 || k == 240) tt_ok (by kernel_rfl) (fun k => if k = 2 ∨ k = 9 ∨ k = 15 then some .L else if k = 20 then some .W else if k = 19 then some .A else some .S) (.ones [0, 1, 2, 3, 4, 5, 6, 7, 8, 9, 10, 11, 12, 13, 14, 15, 16, 17, 18, 19, 20] .done) (by simp) (fun _ h => nomatch h) rfl rfl (by kernel_rfl) ?_
    simp only [go_sem, Nat.reduceBEq, Nat.reduceEqDiff, Nat.reduceLT, Nat.reduceLeDiff, Nat.reduceAdd, Nat.reduceSub, Nat.reduceMul, reduceCtorEq, Int.reduceToNat, Int.reduceEq, Int.reduceLT, Int.reduceLE, Int.reduceNe, Int.reduceNeg , or_self, or_false, false_or , List.length_map, Bool.or_true, Bool.true_or, Bool.false_or, Bool.or_false, Int.cast_ofNat_Int, a3, a4, a9, b1, b2, b3, b4, b5, b6, remO_ne z20, quoO_ne z20, remO_ne z241]
    refine (c24 _ _).callS rfl rfl rfl rfl rfl rfl ?_
    simp only [go_sem, Nat.reduceBEq, Nat.reduceEqDiff, Nat.reduceLT, Nat.reduceLeDiff, Nat.reduceAdd, Nat.reduceSub, Nat.reduceMul, reduceCtorEq, Int.reduceToNat, Int.reduceEq, Int.reduceLT, Int.reduceLE, Int.reduceNe, Int.reduceNeg , or_self, or_false, false_or , List.length_map, Bool.or_true, Bool.true_or, Bool.false_or, Bool.or_false, Int.cast_ofNat_Int, Sp.d, a3, a4, a9, b1, b2, b3, b4, b5, b6, remO_ne z20, quoO_ne z20, remO_ne z241]
    obtain ⟨h1, h2, h3, h4, h5, h6, h7, h8⟩ := so
    have m1 : 0 ≤ ozN q * (saleN q).price := Int.mul_nonneg (by omega) h7
    have m2 : ozN q * (saleN q).price ≤ 4096 * 240 := Int.mul_le_mul h2 h8 h7 (by omega)
    have c1 : wr (ozN q * (saleN q).price) = ozN q * (saleN q).price := w64 (by omega) (by omega)
    have c2 : (ozN q * (saleN q).price).tdiv 16 = ozN q * (saleN q).price / 16 := Int.tdiv_eq_ediv_of_nonneg m1
    have c3 : wr (ozN q * (saleN q).price / 16) = ozN q * (saleN q).price / 16 := w64 (by omega) (by omega)
    have c4 : wr (U i + ozN q * (saleN q).price / 16) = U (i + 1) := by rw [hUs']; exact w64 (by omega) (by omega)
    have hrow : List.map (fun s => (saleN s).d) (List.take i W) ++ [D.agg [D.int .i64 (saleN q).oz.lo, D.int .i64 (saleN q).oz.hi, D.int .i64 (saleN q).price]] = ((W.take (i + 1)).map saleN).map Sale.d := by
      rw [htk]; simp [Sale.d, Function.comp_def]
    have hsz : sized 3 (((W.take (i + 1)).map saleN).map Sale.d) = true := sized_sales _
    have hln : ((W.take (i + 1)).map saleN).length = i + 1 := by simp; omega
    have hln4 : ((W.take (i + 1)).map saleN).length ≤ 4294967296 := by omega
    have htake : (((W.take (i + 1)).map saleN).map Sale.d).take (i + 1) = ((W.take (i + 1)).map saleN).map Sale.d := List.take_of_length_le (by simp; omega)
    have r1 : (Z (i + 1)).lo ≤ U (i + 1) := by omega
    have r2 : U (i + 1) ≤ (Z (i + 1)).hi := by omega
    have r3 : ¬ (Z (i + 1)).lo < (Z i).lo := by omega
    have r4 : ¬ (Z (i + 1)).hi < (Z i).hi := by omega
    refine ADrw.treeG (fun k => k == 30 || k == 240) tt_ok (by kernel_rfl) (fun k => if k = 1 ∨ k = 7 then some .L else if k = 3 then some .W else some .S) (.ones [0, 1, 2, 4, 5, 6] (.two 3 (.ones [7, 8, 9, 10, 11, 12] .done) 7 (.ones [8, 9, 10, 3, 11, 12] .done))) (by simp) (fun _ h => nomatch h) rfl rfl (by kernel_rfl) ?_
    simp only [go_sem, Nat.reduceBEq, Nat.reduceEqDiff, Nat.reduceLT, Nat.reduceLeDiff, Nat.reduceAdd, Nat.reduceSub, Nat.reduceMul, reduceCtorEq, Int.reduceToNat, Int.reduceEq, Int.reduceLT, Int.reduceLE, Int.reduceNe, Int.reduceNeg , or_self, or_false, false_or , List.length_map, Bool.or_true, Bool.true_or, Bool.false_or, Bool.or_false, Int.cast_ofNat_Int, c1, c2, c3, c4, quoO_ne z16, List.length_take, hmin, hle, hrow, hsz, hln, htake]
    refine ⟨?_, ?_⟩
    all_goals
      refine (c45 _ hln4).call rfl rfl rfl ?_
      simp only [go_sem, Nat.reduceBEq, Nat.reduceEqDiff, Nat.reduceLT, Nat.reduceLeDiff, Nat.reduceAdd, Nat.reduceSub, Nat.reduceMul, reduceCtorEq, Int.reduceToNat, Int.reduceEq, Int.reduceLT, Int.reduceLE, Int.reduceNe, Int.reduceNeg , or_self, or_false, false_or , List.length_map, Bool.or_true, Bool.true_or, Bool.false_or, Bool.or_false, Int.cast_ofNat_Int, hgood, Sp.d]
      refine (c51 (U (i + 1)) (Z (i + 1))).call rfl rfl rfl ?_
      simp only [go_sem, Nat.reduceBEq, Nat.reduceEqDiff, Nat.reduceLT, Nat.reduceLeDiff, Nat.reduceAdd, Nat.reduceSub, Nat.reduceMul, reduceCtorEq, Int.reduceToNat, Int.reduceEq, Int.reduceLT, Int.reduceLE, Int.reduceNe, Int.reduceNeg , or_self, or_false, false_or , List.length_map, Bool.or_true, Bool.true_or, Bool.false_or, Bool.or_false, Int.cast_ofNat_Int, r1, r2, r3, r4]
      refine ⟨i + 1, hlt, by omega, ?_⟩
      simp [ForgetTo, EW, VW, BBq, BBs, BB, VBs, VB, Env.look, pubV, w64 (n := (i : Int) + 1) (by omega) (by omega), Function.comp_def, Sale.d]
  have hie : i = W.length := by omega
  have hc : ∃ b c : Bool, decide ((i : Int) < (sales.length : Int)) = b ∧ decide ((i : Int) < 10) = c ∧ (b && c) = false := ⟨_, _, rfl, rfl, by
    rw [Bool.and_eq_false_iff]; simp; omega⟩
  obtain ⟨b, c, hb, hc, hbc⟩ := hc
  simp only [go_sem, Nat.reduceBEq, Nat.reduceEqDiff, Nat.reduceLT, Nat.reduceLeDiff, Nat.reduceAdd, Nat.reduceSub, Nat.reduceMul, reduceCtorEq, Int.reduceToNat, Int.reduceEq, Int.reduceLT, Int.reduceLE, Int.reduceNe, Int.reduceNeg , or_self, or_false, false_or , List.length_map, Bool.or_true, Bool.true_or, Bool.false_or, Bool.or_false, Int.cast_ofNat_Int, hb, hc]
  cases b <;> (try (simp only [Bool.true_and] at hbc)) <;> simp only [go_sem, Nat.reduceBEq, Nat.reduceEqDiff, Nat.reduceLT, Nat.reduceLeDiff, Nat.reduceAdd, Nat.reduceSub, Nat.reduceMul, reduceCtorEq, Int.reduceToNat, Int.reduceEq, Int.reduceLT, Int.reduceLE, Int.reduceNe, Int.reduceNeg , or_self, or_false, false_or , List.length_map, Bool.or_true, Bool.true_or, Bool.false_or, Bool.or_false, Int.cast_ofNat_Int, hb, hc, hbc]
  all_goals
    refine c14.call rfl rfl rfl ?_
    simp only [go_sem, Nat.reduceBEq, Nat.reduceEqDiff, Nat.reduceLT, Nat.reduceLeDiff, Nat.reduceAdd, Nat.reduceSub, Nat.reduceMul, reduceCtorEq, Int.reduceToNat, Int.reduceEq, Int.reduceLT, Int.reduceLE, Int.reduceNe, Int.reduceNeg , or_self, or_false, false_or , List.length_map, Bool.or_true, Bool.true_or, Bool.false_or, Bool.or_false, Int.cast_ofNat_Int]
set_option maxHeartbeats 4000000 in
theorem c12 (pence : Int) (hp : 0 ≤ pence ∧ pence < 65536) (parts : List Int) (hparts : ∀ p ∈ parts, Byte p) (sales : List Q4) (hsales : ∀ s ∈ sales, s.Ok) :
    PC prog 12 [.d (.int .u16 pence), .d (.sl (parts.map (.int .u8))), .d (.sl (sales.map Q4.d))] (.d (.bool true)) := by
  have wp : wr pence = pence := w64 (by omega) (by omega)
  have hPl : (parts.take 6).length ≤ 6 := by simp; omega
  have hPl2 : (parts.take 6).length = min 6 parts.length := by simp
  have hPm : ∀ p ∈ parts.take 6, 0 ≤ p ∧ p ≤ 1000 := fun p h => by have := hparts p (List.mem_of_mem_take h); simp only [Byte] at this; omega
  have hPg : ∀ i (h : i < (parts.take 6).length), parts[i]? = some (parts.take 6)[i] := fun i h => by
    rw [List.getElem_take, List.getElem?_eq_getElem]
  generalize parts.take 6 = P at *
  have hQl : (sales.take 10).length ≤ 10 := by simp; omega
  have hQl2 : (sales.take 10).length = min 10 sales.length := by simp
  have hQm : ∀ p ∈ sales.take 10, p.Ok := fun p h => hsales p (List.mem_of_mem_take h)
  have hQg : ∀ i (h : i < (sales.take 10).length), sales[i]? = some (sales.take 10)[i] := fun i h => by
    rw [List.getElem_take, List.getElem?_eq_getElem]
  generalize sales.take 10 = W at *
  have hok : PartsOk pence P := ⟨hp.1, by omega, hPl, hPm⟩
  refine PC.of_body tt_ok (fn := f12) (c := bodyOf f12) (rs := [.tmp 6]) rfl rfl rfl rfl rfl rfl ?_
  refine AWP.stepN 9 [(23, .ptr 2 0), (22, .d (.int .i64 0)), (21, .ref 1 0 0 0), (13, .d (.int .i64 pence)), (9, .d (.int .i64 pence)), (2, .d (.sl (sales.map Q4.d)))]
    [.arr 1 false (P.map (.int .i64)), .arr 3 false [], .cells [.d (.int .i64 0), .d (.int .i64 0)]] (fun k => k == 30 || k == 240) tt_ok (fun _ h => nomatch h) (Nat.zero_le _) rfl ?_ (f12_9 pence P sales W hQl hQl2 hQm hQg)
  simp only [go_sem, Nat.reduceBEq, Nat.reduceEqDiff, Nat.reduceLT, Nat.reduceLeDiff, Nat.reduceAdd, Nat.reduceSub, Nat.reduceMul, reduceCtorEq, Int.reduceToNat, Int.reduceEq, Int.reduceLT, Int.reduceLE, Int.reduceNe, Int.reduceNeg , or_self, or_false, false_or , List.length_map, Bool.or_true, Bool.true_or, Bool.false_or, Bool.or_false, Int.cast_ofNat_Int, wp]
  refine ALoop.by (S := Nat) (fun i => [(10, .d (.int .i64 i)), (9, .d (.int .i64 pence)), (8, .d (.int .i64 (sumP (P.take i)))), (7, .ref 0 i 0 i), (2, .d (.sl (sales.map Q4.d))), (1, .d (.sl (parts.map (.int .u8))))])
    (fun i => [.arr 1 false ((P.take i).map (.int .i64))]) (fun i => P.length - i) (fun i => i ≤ P.length) 0 (by simp) (fun _ h => nomatch h) (Nat.zero_le _) ?_ ?_
  · exact ForgetTo.same' (by simp) (by simp [EWe, Env.look, sumP]) (by simp)
  rintro i hi hn
  refine AWP.run (fun k => k == 30 || k == 240) tt_ok (fun _ h => nomatch h) (by simp) rfl ?_
  simp only [go_sem, Nat.reduceBEq, Nat.reduceEqDiff, Nat.reduceLT, Nat.reduceLeDiff, Nat.reduceAdd, Nat.reduceSub, Nat.reduceMul, reduceCtorEq, Int.reduceToNat, Int.reduceEq, Int.reduceLT, Int.reduceLE, Int.reduceNe, Int.reduceNeg , or_self, or_false, false_or , List.length_map, Bool.or_true, Bool.true_or, Bool.false_or, Bool.or_false, Int.cast_ofNat_Int]
  have hPd : decide ((i : Int) < (parts.length : Int)) = (decide (i < parts.length)) := by simp
  by_cases hlt : i < P.length
  · have hcp : (i : Int) < (parts.length : Int) := by omega
    have hc6 : (i : Int) < 6 := by omega
    have hPb := hPm _ (List.getElem_mem hlt)
    have wi : wr P[i] = P[i] := w64 (by omega) (by omega)
    have hle : i + 1 ≤ 4294967296 := by omega
    have hmin : min i P.length = i := by omega
    simp only [go_sem, Nat.reduceBEq, Nat.reduceEqDiff, Nat.reduceLT, Nat.reduceLeDiff, Nat.reduceAdd, Nat.reduceSub, Nat.reduceMul, reduceCtorEq, Int.reduceToNat, Int.reduceEq, Int.reduceLT, Int.reduceLE, Int.reduceNe, Int.reduceNeg , or_self, or_false, false_or , List.length_map, Bool.or_true, Bool.true_or, Bool.false_or, Bool.or_false, Int.cast_ofNat_Int, hcp, hc6]
    refine ADrw.treeG (fun k => k == 30 || k == 240) tt_ok (by kernel_rfl) (fun k => if k = 7 then some .W else some .S) (.ones [0, 1, 2, 3, 4, 5, 6, 7, 8, 9, 10, 11, 12, 13, 14, 15, 16] .done) (by simp) (fun _ h => nomatch h) rfl rfl (by kernel_rfl) ?_
    simp only [go_sem, Nat.reduceBEq, Nat.reduceEqDiff, Nat.reduceLT, Nat.reduceLeDiff, Nat.reduceAdd, Nat.reduceSub, Nat.reduceMul, reduceCtorEq, Int.reduceToNat, Int.reduceEq, Int.reduceLT, Int.reduceLE, Int.reduceNe, Int.reduceNeg , or_self, or_false, false_or , List.length_map, Bool.or_true, Bool.true_or, Bool.false_or, Bool.or_false, Int.cast_ofNat_Int, idx_nat, List.getElem?_map, hPg i hlt, wi, List.length_take, hmin, hle]
    refine ⟨i + 1, hlt, by omega, ?_⟩
    exact ForgetTo.same' (by simp) (by simp [EWe, Env.look, sumP_take hlt, w64 (n := (i : Int) + 1) (by omega) (by omega)]) (by simp only [List.take_succ_eq_append_getElem hlt, List.map_append, List.map_cons, List.map_nil])
  have hie : i = P.length := by omega
  have ht2 : ∀ l : List Int, (l.map (D.int .i64)).take l.length = l.map (D.int .i64) := fun l => List.take_of_length_le (by simp)
  have hmv : sized 1 (P.map (D.int .i64)) = true := by simp [sized, dcells]
  have hl4 : P.length ≤ 4294967296 := by omega
  have hsum := (sumP_eq hok).1
  have hp0 := (sumP_eq hok).2
  obtain ⟨l1, l2, l3⟩ := shareP_eq pence P
  have hc : ∃ b c : Bool, decide ((P.length : Int) < (parts.length : Int)) = b ∧ decide ((P.length : Int) < 6) = c ∧ (b && c) = false := ⟨_, _, rfl, rfl, by
    rw [Bool.and_eq_false_iff]; simp; omega⟩
  obtain ⟨b, c, hb, hc, hbc⟩ := hc
  subst hie
  rw [List.take_length, hsum]
  simp only [go_sem, Nat.reduceBEq, Nat.reduceEqDiff, Nat.reduceLT, Nat.reduceLeDiff, Nat.reduceAdd, Nat.reduceSub, Nat.reduceMul, reduceCtorEq, Int.reduceToNat, Int.reduceEq, Int.reduceLT, Int.reduceLE, Int.reduceNe, Int.reduceNeg , or_self, or_false, false_or , List.length_map, Bool.or_true, Bool.true_or, Bool.false_or, Bool.or_false, Int.cast_ofNat_Int, hb, hc]
  cases b <;> (try (simp only [Bool.true_and] at hbc)) <;> simp only [go_sem, Nat.reduceBEq, Nat.reduceEqDiff, Nat.reduceLT, Nat.reduceLeDiff, Nat.reduceAdd, Nat.reduceSub, Nat.reduceMul, reduceCtorEq, Int.reduceToNat, Int.reduceEq, Int.reduceLT, Int.reduceLE, Int.reduceNe, Int.reduceNeg , or_self, or_false, false_or , List.length_map, Bool.or_true, Bool.true_or, Bool.false_or, Bool.or_false, Int.cast_ofNat_Int, hb, hc, hbc, hmv, ht2, hl4]
  all_goals
    refine (c42 pence P hl4).call rfl rfl rfl ?_
    simp only [go_sem, Nat.reduceBEq, Nat.reduceEqDiff, Nat.reduceLT, Nat.reduceLeDiff, Nat.reduceAdd, Nat.reduceSub, Nat.reduceMul, reduceCtorEq, Int.reduceToNat, Int.reduceEq, Int.reduceLT, Int.reduceLE, Int.reduceNe, Int.reduceNeg , or_self, or_false, false_or , List.length_map, Bool.or_true, Bool.true_or, Bool.false_or, Bool.or_false, Int.cast_ofNat_Int]
    by_cases hz : P.sum = 0
    · have hpr : partsR pence P = 4 := by
        have ap := any_pos P fun p h => (hPm p h).1
        have i1 : inR pence 0 100000 = true := (inR_iff _ _ _).2 ⟨hp.1, by omega⟩
        have i2 : P.any (fun p => !inR p 0 1000) = false := by
          rw [List.any_eq_false]; intro p hp; simp [(inR_iff _ _ _).2 (hPm p hp)]
        have a4 : (P.any fun p => decide (p > 0)) = false := by rw [Bool.eq_false_iff]; intro h; exact ap.1 h hz
        simp [partsR, i1, i2, a4]
      have e1 := l2 (by rw [hpr]; omega)
      have z0 : ((0 : Nat) : Int) = 0 := rfl
      simp only [go_sem, Nat.reduceBEq, Nat.reduceEqDiff, Nat.reduceLT, Nat.reduceLeDiff, Nat.reduceAdd, Nat.reduceSub, Nat.reduceMul, reduceCtorEq, Int.reduceToNat, Int.reduceEq, Int.reduceLT, Int.reduceLE, Int.reduceNe, Int.reduceNeg , or_self, or_false, false_or , List.length_map, Bool.or_true, Bool.true_or, Bool.false_or, Bool.or_false, Int.cast_ofNat_Int, hz, e1, l1, hpr, z0]
      refine c14.call rfl rfl rfl ?_
      simp only [go_sem, Nat.reduceBEq, Nat.reduceEqDiff, Nat.reduceLT, Nat.reduceLeDiff, Nat.reduceAdd, Nat.reduceSub, Nat.reduceMul, reduceCtorEq, Int.reduceToNat, Int.reduceEq, Int.reduceLT, Int.reduceLE, Int.reduceNe, Int.reduceNeg , or_self, or_false, false_or , List.length_map, Bool.or_true, Bool.true_or, Bool.false_or, Bool.or_false, Int.cast_ofNat_Int]
    have hs : 0 < P.sum := by omega
    have hpr : partsR pence P = 0 := by
      have ap := any_pos P fun p h => (hPm p h).1
      have i1 : inR pence 0 100000 = true := (inR_iff _ _ _).2 ⟨hp.1, by omega⟩
      have i2 : P.any (fun p => !inR p 0 1000) = false := by
        rw [List.any_eq_false]; intro p hp; simp [(inR_iff _ _ _).2 (hPm p hp)]
      have a4 := ap.2 hz
      have l6 : ¬ P.length > 6 := by omega
      simp only [partsR, i1, i2, a4]; simp [l6]
    obtain ⟨_, _, e1⟩ := l3 hpr
    have law := shares_law hok hs
    rw [shares_eq hok hs] at law
    rw [e1, l1, hpr]
    generalize shareR pence P = S at *
    have hSl := law.len
    simp only [go_sem, Nat.reduceBEq, Nat.reduceEqDiff, Nat.reduceLT, Nat.reduceLeDiff, Nat.reduceAdd, Nat.reduceSub, Nat.reduceMul, reduceCtorEq, Int.reduceToNat, Int.reduceEq, Int.reduceLT, Int.reduceLE, Int.reduceNe, Int.reduceNeg , or_self, or_false, false_or , List.length_map, Bool.or_true, Bool.true_or, Bool.false_or, Bool.or_false, Int.cast_ofNat_Int, hz, hSl]
    have hSn : ∀ x ∈ S, 0 ≤ x := fun x hx => by
      obtain ⟨j, hj, rfl⟩ := List.mem_iff_getElem.1 hx
      exact (two_parts hok hs hp.2 law (by omega) hj).2.2.2
    refine ALoop.by (S := Nat) (fun i => [(14, .d (.int .i64 i)), (13, .d (.int .i64 (sumP (S.take i)))), (11, .d (.sl (S.map (.int .i64)))), (9, .d (.int .i64 pence)), (8, .d (.int .i64 P.sum)), (7, .ref 0 P.length 0 P.length), (2, .d (.sl (sales.map Q4.d)))])
      (fun i => [.arr 1 false (P.map (.int .i64))]) (fun i => P.length - i) (fun i => i ≤ P.length) 0 (by simp) (fun _ h => nomatch h) (Nat.zero_le _) ?_ ?_
    · exact ForgetTo.same' (by simp) (by simp [EWe, Env.look, sumP]) (by simp)
    clear hn hi hlt hb hc hbc
    rintro i hi hn
    refine AWP.run (fun k => k == 30 || k == 240) tt_ok (fun _ h => nomatch h) (by simp) rfl ?_
    simp only [go_sem, Nat.reduceBEq, Nat.reduceEqDiff, Nat.reduceLT, Nat.reduceLeDiff, Nat.reduceAdd, Nat.reduceSub, Nat.reduceMul, reduceCtorEq, Int.reduceToNat, Int.reduceEq, Int.reduceLT, Int.reduceLE, Int.reduceNe, Int.reduceNeg , or_self, or_false, false_or , List.length_map, Bool.or_true, Bool.true_or, Bool.false_or, Bool.or_false, Int.cast_ofNat_Int]
    refine Br_split (fun hd => ?_) (fun hd => ?_) <;> simp only [go_sem, Nat.reduceBEq, Nat.reduceEqDiff, Nat.reduceLT, Nat.reduceLeDiff, Nat.reduceAdd, Nat.reduceSub, Nat.reduceMul, reduceCtorEq, Int.reduceToNat, Int.reduceEq, Int.reduceLT, Int.reduceLE, Int.reduceNe, Int.reduceNeg , or_self, or_false, false_or , List.length_map, Bool.or_true, Bool.true_or, Bool.false_or, Bool.or_false, Int.cast_ofNat_Int, hd]
    · have hiP : i < P.length := by simpa using hd
      have hiS : i < S.length := by omega
      have y0 : (0 : Int) ≤ (i : Int) := by omega
      have y1 : (i : Int) < (P.length : Int) := by omega
      obtain ⟨⟨d1, d2⟩, q1, r1, _⟩ := two_parts hok hs hp.2 law hiP hiS
      simp only [go_sem, Nat.reduceBEq, Nat.reduceEqDiff, Nat.reduceLT, Nat.reduceLeDiff, Nat.reduceAdd, Nat.reduceSub, Nat.reduceMul, reduceCtorEq, Int.reduceToNat, Int.reduceEq, Int.reduceLT, Int.reduceLE, Int.reduceNe, Int.reduceNeg , or_self, or_false, false_or , List.length_map, Bool.or_true, Bool.true_or, Bool.false_or, Bool.or_false, Int.cast_ofNat_Int, idx_nat, List.getElem?_map, List.getElem?_eq_getElem hiS]
      refine ADrw.treeG (fun k => k == 30 || k == 240) tt_ok (by kernel_rfl) (fun k => if k = 2 ∨ k = 3 ∨ k = 9 ∨ k = 10 then some .L else some .S) (.ones [0, 1, 2, 3, 4, 5, 6, 7, 8, 9, 10, 11, 12, 13] .done) (by simp) (fun _ h => nomatch h) rfl rfl (by kernel_rfl) ?_
      simp only [go_sem, Nat.reduceBEq, Nat.reduceEqDiff, Nat.reduceLT, Nat.reduceLeDiff, Nat.reduceAdd, Nat.reduceSub, Nat.reduceMul, reduceCtorEq, Int.reduceToNat, Int.reduceEq, Int.reduceLT, Int.reduceLE, Int.reduceNe, Int.reduceNeg , or_self, or_false, false_or , List.length_map, Bool.or_true, Bool.true_or, Bool.false_or, Bool.or_false, Int.cast_ofNat_Int, idx_nat, y0, y1, Int.toNat_natCast, List.getElem?_map, List.getElem?_eq_getElem hiS, List.getElem?_eq_getElem hiP]
      have d1' : ¬ P.sum ≤ wr (wr (S[i] * P.sum) - wr (pence * P[i])) := by omega
      have en : wr (0 - P.sum) = - P.sum := by rw [show (0 - P.sum) = - P.sum by omega]; exact w64 (by omega) (by omega)
      have d2' : ¬ wr (wr (S[i] * P.sum) - wr (pence * P[i])) ≤ - P.sum := by omega
      simp only [go_sem, Nat.reduceBEq, Nat.reduceEqDiff, Nat.reduceLT, Nat.reduceLeDiff, Nat.reduceAdd, Nat.reduceSub, Nat.reduceMul, reduceCtorEq, Int.reduceToNat, Int.reduceEq, Int.reduceLT, Int.reduceLE, Int.reduceNe, Int.reduceNeg , or_self, or_false, false_or , List.length_map, Bool.or_true, Bool.true_or, Bool.false_or, Bool.or_false, Int.cast_ofNat_Int, d1', en, d2']
      refine ALoop.by (S := Nat) (fun k => [(16, .d (.int .i64 k)), (14, .d (.int .i64 i)), (13, .d (.int .i64 (sumP (S.take (i + 1))))), (11, .d (.sl (S.map (.int .i64)))), (9, .d (.int .i64 pence)), (8, .d (.int .i64 P.sum)), (7, .ref 0 P.length 0 P.length), (2, .d (.sl (sales.map Q4.d)))])
        (fun k => [.arr 1 false (P.map (.int .i64))]) (fun k => i - k) (fun k => k ≤ i) 0 (by simp) (fun _ h => nomatch h) (Nat.zero_le _) ?_ ?_
      · exact ForgetTo.same' (by simp) (by simp [EWe, Env.look, sumP_take hiS]) (by simp)
      rintro k hk hn
      refine AWP.run (fun k => k == 30 || k == 240) tt_ok (fun _ h => nomatch h) (by simp) rfl ?_
      simp only [go_sem, Nat.reduceBEq, Nat.reduceEqDiff, Nat.reduceLT, Nat.reduceLeDiff, Nat.reduceAdd, Nat.reduceSub, Nat.reduceMul, reduceCtorEq, Int.reduceToNat, Int.reduceEq, Int.reduceLT, Int.reduceLE, Int.reduceNe, Int.reduceNeg , or_self, or_false, false_or , List.length_map, Bool.or_true, Bool.true_or, Bool.false_or, Bool.or_false, Int.cast_ofNat_Int]
      refine Br_split (fun he => ?_) (fun he => ?_) <;> simp only [go_sem, Nat.reduceBEq, Nat.reduceEqDiff, Nat.reduceLT, Nat.reduceLeDiff, Nat.reduceAdd, Nat.reduceSub, Nat.reduceMul, reduceCtorEq, Int.reduceToNat, Int.reduceEq, Int.reduceLT, Int.reduceLE, Int.reduceNe, Int.reduceNeg , or_self, or_false, false_or , List.length_map, Bool.or_true, Bool.true_or, Bool.false_or, Bool.or_false, Int.cast_ofNat_Int, he]
      · have hki : k < i := by simpa using he
        have hkP : k < P.length := by omega
        have hkS : k < S.length := by omega
        have z0 : (0 : Int) ≤ (k : Int) := by omega
        have z1 : (k : Int) < (P.length : Int) := by omega
        obtain ⟨_, q2, r2, _⟩ := two_parts hok hs hp.2 law hkP hkS
        obtain ⟨t1, t2, t3⟩ := two_more hok hs law hiP hiS hkP hkS hki
        have hSi := hSn _ (List.getElem_mem hiS)
        have hSi2 := sum_ge hSn _ (List.getElem_mem hiS)
        have ws : wr (S[i] + 1) = S[i] + 1 := by rw [law.sum] at hSi2; exact w64 (by omega) (by omega)
        refine ADrw.treeG (fun k => k == 30 || k == 240) tt_ok (by kernel_rfl) (fun k => if k = 2 ∨ k = 3 ∨ k = 6 ∨ k = 7 ∨ k = 12 ∨ k = 13 ∨ k = 16 ∨ k = 17 ∨ k = 22 ∨ k = 23 ∨ k = 26 ∨ k = 27 then some .L else some .S) (.ones [0, 1, 2, 3, 4, 5, 6, 7, 8, 9, 10, 11, 12, 13, 14, 15, 16, 17, 18, 19, 20, 21, 22, 23, 24, 25, 26, 27, 28, 29, 30, 31] .done) (by simp) (fun _ h => nomatch h) rfl rfl (by kernel_rfl) ?_
        have hu : P[i] = P[k] → ¬ S[k] < S[i] ∧ ¬ S[k] > S[i] + 1 := fun h => by have := t1 h; omega
        have b1 : (decide (remW pence P.sum P k < remW pence P.sum P i) && (decide (qW pence P.sum P k < S[k]) && !decide (qW pence P.sum P i < S[i]))) = false := by
          rw [Bool.eq_false_iff]; simp only [Bool.and_eq_true, decide_eq_true_eq, Bool.not_eq_true', decide_eq_false_iff_not, ne_eq]
          rintro ⟨a1, a2, a3⟩; exact a3 (t2 a1 a2)
        have b2 : (decide (remW pence P.sum P i < remW pence P.sum P k) && (decide (qW pence P.sum P i < S[i]) && !decide (qW pence P.sum P k < S[k]))) = false := by
          rw [Bool.eq_false_iff]; simp only [Bool.and_eq_true, decide_eq_true_eq, Bool.not_eq_true', decide_eq_false_iff_not, ne_eq]
          rintro ⟨a1, a2, a3⟩; exact a3 (t3 a1 a2)
        by_cases hPe : P[i] = P[k] 
        case' pos =>
          obtain ⟨u1, u2⟩ := hu hPe
          simp only [go_sem, Nat.reduceBEq, Nat.reduceEqDiff, Nat.reduceLT, Nat.reduceLeDiff, Nat.reduceAdd, Nat.reduceSub, Nat.reduceMul, reduceCtorEq, Int.reduceToNat, Int.reduceEq, Int.reduceLT, Int.reduceLE, Int.reduceNe, Int.reduceNeg , or_self, or_false, false_or , List.length_map, Bool.or_true, Bool.true_or, Bool.false_or, Bool.or_false, Int.cast_ofNat_Int, idx_nat, y0, y1, z0, z1, Int.toNat_natCast, List.getElem?_map, List.getElem?_eq_getElem hiS, List.getElem?_eq_getElem hiP, List.getElem?_eq_getElem hkS, List.getElem?_eq_getElem hkP, hPe, u1, u2, ws]
        case' neg => simp only [go_sem, Nat.reduceBEq, Nat.reduceEqDiff, Nat.reduceLT, Nat.reduceLeDiff, Nat.reduceAdd, Nat.reduceSub, Nat.reduceMul, reduceCtorEq, Int.reduceToNat, Int.reduceEq, Int.reduceLT, Int.reduceLE, Int.reduceNe, Int.reduceNeg , or_self, or_false, false_or , List.length_map, Bool.or_true, Bool.true_or, Bool.false_or, Bool.or_false, Int.cast_ofNat_Int, idx_nat, y0, y1, z0, z1, Int.toNat_natCast, List.getElem?_map, List.getElem?_eq_getElem hiS, List.getElem?_eq_getElem hiP, List.getElem?_eq_getElem hkS, List.getElem?_eq_getElem hkP, hPe]
        all_goals
          have hsz : P.sum ≠ 0 := hz
          refine ADrw.treeG (fun k => k == 30 || k == 240) tt_ok (by kernel_rfl) (fun k => if k = 3 ∨ k = 4 ∨ k = 9 ∨ k = 10 ∨ k = 20 ∨ k = 21 ∨ k = 26 ∨ k = 27 then some .L else some .S) (.ones [0, 1, 2, 3, 4, 5, 6, 7, 8, 9, 10, 11, 12, 13, 14, 15, 16, 17, 18, 19, 20, 21, 22, 23, 24, 25, 26, 27, 28, 29, 30, 31, 32, 33, 34, 35] .done) (by simp) (fun _ h => nomatch h) rfl rfl (by kernel_rfl) ?_
          simp only [go_sem, Nat.reduceBEq, Nat.reduceEqDiff, Nat.reduceLT, Nat.reduceLeDiff, Nat.reduceAdd, Nat.reduceSub, Nat.reduceMul, reduceCtorEq, Int.reduceToNat, Int.reduceEq, Int.reduceLT, Int.reduceLE, Int.reduceNe, Int.reduceNeg , or_self, or_false, false_or , List.length_map, Bool.or_true, Bool.true_or, Bool.false_or, Bool.or_false, Int.cast_ofNat_Int, idx_nat, y0, y1, z0, z1, Int.toNat_natCast, List.getElem?_map, List.getElem?_eq_getElem hiP, List.getElem?_eq_getElem hkP, quoO_ne hsz, q1, q2, r1, r2]
          refine ADrw.treeG (fun k => k == 30 || k == 240) tt_ok (by kernel_rfl) (fun k => if k = 2 ∨ k = 3 ∨ k = 7 ∨ k = 8 ∨ k = 15 ∨ k = 16 ∨ k = 20 ∨ k = 21 then some .L else some .S) (.ones [0, 1, 2, 3, 4, 5, 6, 7, 8, 9, 10, 11, 12, 13, 14, 15, 16, 17, 18, 19, 20, 21, 22, 23, 24, 25, 26, 27] .done) (by simp) (fun _ h => nomatch h) rfl rfl (by kernel_rfl) ?_
          simp only [go_sem, Nat.reduceBEq, Nat.reduceEqDiff, Nat.reduceLT, Nat.reduceLeDiff, Nat.reduceAdd, Nat.reduceSub, Nat.reduceMul, reduceCtorEq, Int.reduceToNat, Int.reduceEq, Int.reduceLT, Int.reduceLE, Int.reduceNe, Int.reduceNeg , or_self, or_false, false_or , List.length_map, Bool.or_true, Bool.true_or, Bool.false_or, Bool.or_false, Int.cast_ofNat_Int, idx_nat, y0, y1, z0, z1, Int.toNat_natCast, List.getElem?_map, List.getElem?_eq_getElem hiS, List.getElem?_eq_getElem hiP, List.getElem?_eq_getElem hkS, List.getElem?_eq_getElem hkP, quoO_ne hsz, q1, q2, r1, r2]
          generalize decide (qW pence P.sum P k < S[k]) = uk at *
          generalize decide (qW pence P.sum P i < S[i]) = ui at *
          generalize decide (remW pence P.sum P k < remW pence P.sum P i) = x1 at *
          generalize hx2 : decide (remW pence P.sum P i < remW pence P.sum P k) = x2 at b2
          have fin : ∀ E' : Env, EWe E' [(16, .d (.int .i64 (wr ((k : Int) + 1)))), (14, .d (.int .i64 i)), (13, .d (.int .i64 (sumP (S.take (i + 1))))), (11, .d (.sl (S.map (.int .i64)))), (9, .d (.int .i64 pence)), (8, .d (.int .i64 P.sum)), (7, .ref 0 P.length 0 P.length), (2, .d (.sl (sales.map Q4.d)))] →
              ∃ s', s' ≤ i ∧ i - s' < i - k ∧ ForgetTo 0 E' [Blk.arr 1 false (P.map (.int .i64))] [(16, .d (.int .i64 ((s' : Nat) : Int))), (14, .d (.int .i64 i)), (13, .d (.int .i64 (sumP (S.take (i + 1))))), (11, .d (.sl (S.map (.int .i64)))), (9, .d (.int .i64 pence)), (8, .d (.int .i64 P.sum)), (7, .ref 0 P.length 0 P.length), (2, .d (.sl (sales.map Q4.d)))] [Blk.arr 1 false (P.map (.int .i64))] := by
            intro E' h
            rw [show wr ((k : Int) + 1) = ((k + 1 : Nat) : Int) from w64 (n := (k : Int) + 1) (by omega) (by omega)] at h
            exact ⟨k + 1, hki, by omega, ForgetTo.same' (by simp) h (by simp)⟩
          revert b1 b2 hx2
          cases x1 <;> cases x2 <;> cases ui <;> cases uk <;> intro b1 hx2 b2 <;> first
            | (exact absurd b1 (by decide))
            | (exact absurd b2 (by decide))
            | (simp only [go_sem, Nat.reduceBEq, Nat.reduceEqDiff, Nat.reduceLT, Nat.reduceLeDiff, Nat.reduceAdd, Nat.reduceSub, Nat.reduceMul, reduceCtorEq, Int.reduceToNat, Int.reduceEq, Int.reduceLT, Int.reduceLE, Int.reduceNe, Int.reduceNeg , or_self, or_false, false_or , List.length_map, Bool.or_true, Bool.true_or, Bool.false_or, Bool.or_false, Int.cast_ofNat_Int, hx2]; refine fin _ ?_; simp [EWe, Env.look])
      have hke : k = i := by have : ¬ k < i := by simpa using he
                             omega
      refine ⟨i + 1, hiP, by omega, ?_⟩
      exact ForgetTo.same' (by simp) (by simp [EWe, Env.look, w64 (n := (i : Int) + 1) (by omega) (by omega)]) (by simp)
    have hie : i = P.length := by have : ¬ i < P.length := by simpa using hd
                                  omega
    have hSe : sumP (S.take i) = pence := by
      rw [List.take_of_length_le (by omega), sumP, sumP_nonneg S 0 hSn (Int.le_refl _) (by rw [law.sum]; omega), law.sum]; omega
    rw [hSe]
    refine (c24 0 0).call rfl rfl rfl ?_
    simp only [go_sem, Nat.reduceBEq, Nat.reduceEqDiff, Nat.reduceLT, Nat.reduceLeDiff, Nat.reduceAdd, Nat.reduceSub, Nat.reduceMul, reduceCtorEq, Int.reduceToNat, Int.reduceEq, Int.reduceLT, Int.reduceLE, Int.reduceNe, Int.reduceNeg , or_self, or_false, false_or , List.length_map, Bool.or_true, Bool.true_or, Bool.false_or, Bool.or_false, Int.cast_ofNat_Int, Sp.d]
    exact ForgetTo.same' (by simp) (by simp [EWe, Env.look]) (by simp)
end Go.Aw
end

section
set_option maxRecDepth 100000
namespace Go.Aw
open Go Go.Proofs

theorem has_u8 {f : Nat} {y : D} (h : HasT Try.prog (f + 1) 5 y) : ∃ n, y = .int .u8 n ∧ Byte n := by
  unfold HasT at h
  rw [Try.underlying5] at h
  obtain ⟨n, rfl, h⟩ := h
  refine ⟨n, rfl, ?_⟩
  simp [Lit.wf, IntKind.min, IntKind.max, IntKind.bits, IntKind.signed] at h
  simp only [Byte]; omega

theorem has_u16 {f : Nat} {y : D} (h : HasT Try.prog (f + 1) 110 y) : ∃ n, y = .int .u16 n ∧ 0 ≤ n ∧ n < 65536 := by
  unfold HasT at h
  rw [Try.underlying110] at h
  obtain ⟨n, rfl, h⟩ := h
  refine ⟨n, rfl, ?_⟩
  simp [Lit.wf, IntKind.min, IntKind.max, IntKind.bits, IntKind.signed] at h
  omega

theorem has_bytes {f : Nat} {y : D} (h : HasT Try.prog (f + 2) 111 y) : ∃ l : List Int, y = .sl (l.map (.int .u8)) ∧ ∀ p ∈ l, Byte p := by
  unfold HasT at h
  rw [Try.underlying111] at h
  obtain ⟨l, rfl, _, hl⟩ := h
  obtain ⟨ss, rfl⟩ := has_list (enc := fun n : {n : Int // Byte n} => D.int .u8 n.1) (fun y hy => by obtain ⟨n, rfl, hn⟩ := has_u8 hy; exact ⟨⟨n, hn⟩, rfl⟩) l hl
  refine ⟨ss.map Subtype.val, by simp, fun n hn => ?_⟩
  obtain ⟨x, _, rfl⟩ := List.mem_map.1 hn
  exact x.2

theorem has_q4 {f : Nat} {y : D} (h : HasT Try.prog (f + 3) 113 y) : ∃ s : Q4, y = s.d ∧ s.Ok := by
  unfold HasT at h
  rw [Try.underlying113] at h
  obtain ⟨l, rfl, h⟩ := h
  simp only [HasN] at h
  obtain ⟨y1, r1, rfl, h1, y2, r2, rfl, h2, y3, r3, rfl, h3, y4, r4, rfl, h4, rfl⟩ := h
  obtain ⟨n1, rfl, b1⟩ := has_u8 h1
  obtain ⟨n2, rfl, b2⟩ := has_u8 h2
  obtain ⟨n3, rfl, b3⟩ := has_u8 h3
  obtain ⟨n4, rfl, b4⟩ := has_u8 h4
  exact ⟨⟨n1, n2, n3, n4⟩, rfl, ⟨b1, b2, b3, b4⟩⟩

theorem has_q4s {f : Nat} {y : D} (h : HasT Try.prog (f + 4) 112 y) : ∃ l : List Q4, y = .sl (l.map Q4.d) ∧ ∀ p ∈ l, p.Ok := by
  unfold HasT at h
  rw [Try.underlying112] at h
  obtain ⟨l, rfl, _, hl⟩ := h
  obtain ⟨ss, rfl⟩ := has_list (enc := fun n : {n : Q4 // n.Ok} => n.1.d) (fun y hy => by obtain ⟨n, rfl, hn⟩ := has_q4 hy; exact ⟨⟨n, hn⟩, rfl⟩) l hl
  refine ⟨ss.map Subtype.val, by simp, fun n hn => ?_⟩
  obtain ⟨x, _, rfl⟩ := List.mem_map.1 hn
  exact x.2
end Go.Aw
end
