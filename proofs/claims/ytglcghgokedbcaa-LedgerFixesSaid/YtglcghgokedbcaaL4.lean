/- The reference's Open and Told. The reference's Odd. All truths, by the program and by the reference, in one order. Told: the program's spans are the reference's; which goods are odd. The reference's Amounts. The reference's Fix. The amounts of an entry: the program's span is that of all amounts that the reference tries. Fix: the program's entries are the reference's; the statement LedgerFixes: what the code answers is true of any book and counts. -/
import Derived.Test.YtglcghgokedbcaaL3
set_option linter.unusedSimpArgs false
set_option linter.unusedVariables false

section
namespace Go.Aw
open Go Go.Proofs Go.Proofs.Try

def openR (b : Book) (cs : List Sp) : Int := if checkP b ≠ 0 then checkP b else if countedR b cs = false then 3 else 0

theorem c27 (b : Book) (hb : b.Fits) (cs : List Sp) (hc : cs.length ≤ 4294967296) : PC prog 27 [.d b.d, .d (.sl (cs.map Sp.d))] (.d (.int .i64 (openR b cs))) := by
  refine PC.run (fun _ => false) tt_ok (fn := f27) (rs := [.tmp 4]) rfl rfl rfl rfl rfl rfl rfl ?_
  simp only [go_sem, Nat.reduceBEq, Nat.reduceEqDiff, Nat.reduceLT, Nat.reduceLeDiff, Nat.reduceAdd, Nat.reduceSub, Nat.reduceMul, reduceCtorEq, Int.reduceToNat, Int.reduceEq, Int.reduceLT, Int.reduceLE, Int.reduceNe, Int.reduceNeg , or_self, or_false, false_or , List.length_map, Book.d]
  refine (c19 b hb).call rfl rfl rfl ?_
  simp only [go_sem, Nat.reduceBEq, Nat.reduceEqDiff, Nat.reduceLT, Nat.reduceLeDiff, Nat.reduceAdd, Nat.reduceSub, Nat.reduceMul, reduceCtorEq, Int.reduceToNat, Int.reduceEq, Int.reduceLT, Int.reduceLE, Int.reduceNe, Int.reduceNeg , or_self, or_false, false_or , List.length_map]
  refine Br_split (fun h1 => ?_) (fun h1 => ?_) <;> simp only [go_sem, Nat.reduceBEq, Nat.reduceEqDiff, Nat.reduceLT, Nat.reduceLeDiff, Nat.reduceAdd, Nat.reduceSub, Nat.reduceMul, reduceCtorEq, Int.reduceToNat, Int.reduceEq, Int.reduceLT, Int.reduceLE, Int.reduceNe, Int.reduceNeg , or_self, or_false, false_or , List.length_map, h1]
  · have hk : checkP b ≠ 0 := by simpa using h1
    simp [openR, hk]
  have hk : checkP b = 0 := by simpa using h1
  refine (c23 b cs hc).call rfl rfl rfl ?_
  simp only [go_sem, Nat.reduceBEq, Nat.reduceEqDiff, Nat.reduceLT, Nat.reduceLeDiff, Nat.reduceAdd, Nat.reduceSub, Nat.reduceMul, reduceCtorEq, Int.reduceToNat, Int.reduceEq, Int.reduceLT, Int.reduceLE, Int.reduceNe, Int.reduceNeg , or_self, or_false, false_or , List.length_map]
  refine Br_split (fun h2 => ?_) (fun h2 => ?_) <;> simp only [go_sem, Nat.reduceBEq, Nat.reduceEqDiff, Nat.reduceLT, Nat.reduceLeDiff, Nat.reduceAdd, Nat.reduceSub, Nat.reduceMul, reduceCtorEq, Int.reduceToNat, Int.reduceEq, Int.reduceLT, Int.reduceLE, Int.reduceNe, Int.reduceNeg , or_self, or_false, false_or , List.length_map, h2]
  · have h2' : countedR b cs = false := by simpa using h2
    simp [openR, hk, h2']
  · have h2' : countedR b cs = true := by simpa using h2
    simp [openR, hk, h2']

/-- The spans of the signs' takes, after some of a truth. -/
def rowT (any : Bool) (L : List Sp) (x : List Int) (k : Nat) : List Sp := if any = true then List.zipWith wide (x.take k) (L.take k) ++ L.drop k else (x.take k).map fun n => ⟨n, n⟩

def toldRs (b : Book) (g : Nat) (c : Sp) (s : List Sp × Bool) (x : List Int) : List Sp × Bool :=
  if within c.lo c.hi [restR b g 365 x] = true then (rowT s.2 s.1 x x.length, true) else s

def toldR (b : Book) (g : Nat) (c : Sp) : List Sp × Bool := (truthsB b g).foldl (toldRs b g c) ([], false)

theorem rowT_len (any : Bool) {L : List Sp} {x : List Int} {k : Nat} (hL : any = true → L.length = x.length) (hk : k ≤ x.length) : (rowT any L x k).length = if any = true then x.length else k := by
  unfold rowT
  cases any with
  | true => have := hL rfl; simp; omega
  | false => simp; omega

theorem toldR_inv (b : Book) (g : Nat) (c : Sp) {n : Nat} : ∀ (T : List (List Int)) (s : List Sp × Bool), (∀ x ∈ T, x.length = n) → (if s.2 = true then s.1.length = n else s.1 = []) →
    (if (T.foldl (toldRs b g c) s).2 = true then (T.foldl (toldRs b g c) s).1.length = n else (T.foldl (toldRs b g c) s).1 = [])
  | [], s, _, h => h
  | x :: r, s, hT, h => by
    rw [List.foldl_cons]
    refine toldR_inv b g c r _ (fun y hy => hT y (List.mem_cons_of_mem _ hy)) ?_
    have hx := hT x (by simp)
    unfold toldRs
    split
    · simp only [if_true]
      rw [rowT_len s.2 (fun e => by rw [if_pos e] at h; omega) (Nat.le_refl _), hx]; simp
    · exact h

theorem rowT_old {L : List Sp} {x : List Int} {k : Nat} (hL : L.length = x.length) (hk : k < x.length) : (rowT true L x k).getD k ⟨0, 0⟩ = L.getD k ⟨0, 0⟩ ∧ (rowT true L x k).set k (wide x[k] (L.getD k ⟨0, 0⟩)) = rowT true L x (k + 1) := by
  have e : L.getD k ⟨0, 0⟩ = L[k]'(by omega) := getD_eq (by omega)
  have hd : L.drop k = L[k]'(by omega) :: L.drop (k + 1) := List.drop_eq_getElem_cons (by omega)
  have hz : (List.zipWith wide (x.take k) (L.take k)).length = k := by simp; omega
  simp only [rowT, if_true]
  refine ⟨?_, ?_⟩
  · rw [hd, e, List.getD_eq_getElem?_getD, List.getElem?_append_right (by omega), hz]; simp [List.getElem?_eq_getElem (show k < L.length by omega)]
  · rw [hd, e, List.set_append_right _ _ (by omega), hz, Nat.sub_self, List.set_cons_zero]
    rw [List.take_succ_eq_append_getElem hk, List.take_succ_eq_append_getElem (l := L) (by omega), List.zipWith_append (by simp; omega)]
    simp

theorem c74 (b : Book) (hb : b.Ok) (g : Nat) (hg : g < b.stock.length) (c : Sp) : PC prog 74 [.d b.d, .d (.int .i64 g), .d c.d] (.tup [.d (.sl ((toldR b g c).1.map Sp.d)), .d (.bool (toldR b g c).2)]) := by
  have hTl := truthsL_each (spansB b g) []
  have hTn := truthsL_len (spansB b g) [] fun s hs => (hb.spansB hg s hs).2.2.2
  have hsl : (spansB b g).length = b.recs.length := by simp [Go.Aw.spansB]
  have hTn2 : 8 ^ (spansB b g).length ≤ 8 ^ 3 := Nat.pow_le_pow_right (by omega) (by have := hb.r3; omega)
  have hr3 := hb.r3
  have ht := c70 b hb g hg b.recs.length [] (by simp)
  simp only [List.length_nil, List.drop_zero] at ht
  rw [toldR, truthsB]
  generalize truthsL (spansB b g) [] = T at *
  have hTl2 : ∀ x ∈ T, x.length = b.recs.length := fun x hx => by have := hTl x hx; simp at this; omega
  have hr : ∀ x ∈ T, PC prog 71 [.d b.d, .d (.int .i64 g), .d (.int .i64 365), .d (.sl (x.map (.int .i64)))] (.d (.int .i64 (restR b g 365 x))) := fun x hx =>
    c71 b hb.fits g hg 365 x fun m hm => by
      have := hTl2 x hx
      have := (hb.mv m hm).2.1
      omega
  refine PC.run (fun k => k == 9) tt_ok (fn := f74) (rs := [.tmp 6, .tmp 7]) rfl rfl rfl rfl rfl rfl rfl ?_
  simp only [go_sem, Nat.reduceBEq, Nat.reduceEqDiff, Nat.reduceLT, Nat.reduceLeDiff, Nat.reduceAdd, Nat.reduceSub, Nat.reduceMul, reduceCtorEq, Int.reduceToNat, Int.reduceEq, Int.reduceLT, Int.reduceLE, Int.reduceNe, Int.reduceNeg , or_self, or_false, false_or , List.length_map, Book.d, Sp.d]
  refine ht.call rfl rfl rfl ?_
  simp only [go_sem, Nat.reduceBEq, Nat.reduceEqDiff, Nat.reduceLT, Nat.reduceLeDiff, Nat.reduceAdd, Nat.reduceSub, Nat.reduceMul, reduceCtorEq, Int.reduceToNat, Int.reduceEq, Int.reduceLT, Int.reduceLE, Int.reduceNe, Int.reduceNeg , or_self, or_false, false_or , List.length_map]
  obtain ⟨S, hS⟩ : ∃ S : Nat → List Sp × Bool, ∀ i, S i = (T.take i).foldl (toldRs b g c) ([], false) := ⟨_, fun _ => rfl⟩
  have hS0 : S 0 = ([], false) := by rw [hS]; rfl
  have hSs : ∀ i (h : i < T.length), S (i + 1) = toldRs b g c (S i) T[i] := fun i h => by rw [hS, hS, foldl_at h]
  have hSi : ∀ i, if (S i).2 = true then (S i).1.length = b.recs.length else (S i).1 = [] := fun i => by
    rw [hS]; exact toldR_inv b g c _ _ (fun x hx => hTl2 x (List.mem_of_mem_take hx)) rfl
  refine ALoop.by (S := Nat) (fun i => [(11, .d (.int .i64 i)), (10, .d (.bool (S i).2)), (9, .ref 2 (S i).1.length 0 (S i).1.length), (8, .d (.sl (T.map intsD))), (5, .ptr 1 0), (3, .ptr 0 0), (1, .d (.int .i64 g))])
    (fun i => [.cells (bookV b), .cells [.d (.int .i64 c.lo), .d (.int .i64 c.hi)], .arr 2 false ((S i).1.map Sp.d)]) (fun i => T.length - i) (fun i => i ≤ T.length) 0 (by simp) (fun _ h => nomatch h) (Nat.zero_le _) ?_ ?_
  · exact ForgetTo.same' (by simp) (by simp [EWe, Env.look, hS0]) (by simp [bookV, hS0])
  rintro i hi hn
  refine AWP.run (fun k => k == 9) tt_ok (fun _ h => nomatch h) (by simp) rfl ?_
  simp only [go_sem, Nat.reduceBEq, Nat.reduceEqDiff, Nat.reduceLT, Nat.reduceLeDiff, Nat.reduceAdd, Nat.reduceSub, Nat.reduceMul, reduceCtorEq, Int.reduceToNat, Int.reduceEq, Int.reduceLT, Int.reduceLE, Int.reduceNe, Int.reduceNeg , or_self, or_false, false_or , List.length_map, bookV]
  refine Br_split (fun hd => ?_) (fun hd => ?_) <;> simp only [go_sem, Nat.reduceBEq, Nat.reduceEqDiff, Nat.reduceLT, Nat.reduceLeDiff, Nat.reduceAdd, Nat.reduceSub, Nat.reduceMul, reduceCtorEq, Int.reduceToNat, Int.reduceEq, Int.reduceLT, Int.reduceLE, Int.reduceNe, Int.reduceNeg , or_self, or_false, false_or , List.length_map, hd]
  · have hlt : i < T.length := by simpa using hd
    have hxl := hTl2 _ (List.getElem_mem hlt)
    have hst := hSs i hlt
    have hsi := hSi i
    refine ADrw.treeG (fun k => k == 9) tt_ok (by kernel_rfl) (fun k => if k = 0 ∨ k = 8 ∨ k = 10 then some .L else some .S) (.ones [0, 1, 2, 3, 4, 5, 6, 7, 8, 9, 10, 11, 12] .done) (by simp) (fun _ h => nomatch h) rfl rfl (by kernel_rfl) ?_
    simp only [go_sem, Nat.reduceBEq, Nat.reduceEqDiff, Nat.reduceLT, Nat.reduceLeDiff, Nat.reduceAdd, Nat.reduceSub, Nat.reduceMul, reduceCtorEq, Int.reduceToNat, Int.reduceEq, Int.reduceLT, Int.reduceLE, Int.reduceNe, Int.reduceNeg , or_self, or_false, false_or , List.length_map, idx_nat, List.getElem?_map, List.getElem?_eq_getElem hlt, intsD]
    refine (hr T[i] (List.getElem_mem hlt)).callS rfl rfl rfl rfl rfl rfl ?_
    simp only [go_sem, Nat.reduceBEq, Nat.reduceEqDiff, Nat.reduceLT, Nat.reduceLeDiff, Nat.reduceAdd, Nat.reduceSub, Nat.reduceMul, reduceCtorEq, Int.reduceToNat, Int.reduceEq, Int.reduceLT, Int.reduceLE, Int.reduceNe, Int.reduceNeg , or_self, or_false, false_or , List.length_map]
    refine (c37w (restR b g 365 T[i]) c.lo c.hi).callS rfl rfl rfl rfl rfl rfl ?_
    simp only [go_sem, Nat.reduceBEq, Nat.reduceEqDiff, Nat.reduceLT, Nat.reduceLeDiff, Nat.reduceAdd, Nat.reduceSub, Nat.reduceMul, reduceCtorEq, Int.reduceToNat, Int.reduceEq, Int.reduceLT, Int.reduceLE, Int.reduceNe, Int.reduceNeg , or_self, or_false, false_or , List.length_map]
    refine Br_split (fun he => ?_) (fun he => ?_) <;> simp only [go_sem, Nat.reduceBEq, Nat.reduceEqDiff, Nat.reduceLT, Nat.reduceLeDiff, Nat.reduceAdd, Nat.reduceSub, Nat.reduceMul, reduceCtorEq, Int.reduceToNat, Int.reduceEq, Int.reduceLT, Int.reduceLE, Int.reduceNe, Int.reduceNeg , or_self, or_false, false_or , List.length_map, he]
    · have he' : within c.lo c.hi [restR b g 365 T[i]] = false := by simpa using he
      refine ⟨i + 1, hlt, by omega, ?_⟩
      rw [hst, toldRs, if_neg (by simp [he'])]
      exact ForgetTo.same' (by simp) (by simp [EWe, Env.look, w64 (n := (i : Int) + 1) (by omega) (by omega)]) (by simp [bookV])
    have he' : within c.lo c.hi [restR b g 365 T[i]] = true := by simpa using he
    rw [toldRs, if_pos he'] at hst
    generalize S i = si at *
    obtain ⟨L, any⟩ := si
    simp only at hst hsi
    have hx0 : T[i].length = b.recs.length := hxl
    have hgx : T[i]? = some T[i] := List.getElem?_eq_getElem hlt
    generalize T[i] = x at *
    have hrl : ∀ k, k ≤ x.length → (rowT any L x k).length = if any = true then x.length else k := fun k hk => rowT_len any (fun e => by rw [if_pos e] at hsi; omega) hk
    have hr0 : rowT any L x 0 = L := by
      unfold rowT
      cases any with
      | true => simp
      | false => simp at hsi; simp [hsi]
    refine ALoop.by (S := Nat) (fun k => [(12, .d (.int .i64 k)), (11, .d (.int .i64 i)), (10, .d (.bool any)), (9, .ref 2 (rowT any L x k).length 0 (rowT any L x k).length), (8, .d (.sl (T.map intsD))), (5, .ptr 1 0), (3, .ptr 0 0), (1, .d (.int .i64 g))])
      (fun k => [.cells (bookV b), .cells [.d (.int .i64 c.lo), .d (.int .i64 c.hi)], .arr 2 false ((rowT any L x k).map Sp.d)]) (fun k => x.length - k) (fun k => k ≤ x.length) 0 (by simp) (fun _ h => nomatch h) (Nat.zero_le _) ?_ ?_
    · exact ForgetTo.same' (by simp) (by simp [EWe, Env.look, hr0]) (by simp [bookV, hr0])
    rintro k hk hn
    refine AWP.run (fun k => k == 9) tt_ok (fun _ h => nomatch h) (by simp) rfl ?_
    simp only [go_sem, Nat.reduceBEq, Nat.reduceEqDiff, Nat.reduceLT, Nat.reduceLeDiff, Nat.reduceAdd, Nat.reduceSub, Nat.reduceMul, reduceCtorEq, Int.reduceToNat, Int.reduceEq, Int.reduceLT, Int.reduceLE, Int.reduceNe, Int.reduceNeg , or_self, or_false, false_or , List.length_map, bookV, idx_nat, List.getElem?_map, hgx, intsD]
    refine Br_split (fun hf => ?_) (fun hf => ?_) <;> simp only [go_sem, Nat.reduceBEq, Nat.reduceEqDiff, Nat.reduceLT, Nat.reduceLeDiff, Nat.reduceAdd, Nat.reduceSub, Nat.reduceMul, reduceCtorEq, Int.reduceToNat, Int.reduceEq, Int.reduceLT, Int.reduceLE, Int.reduceNe, Int.reduceNeg , or_self, or_false, false_or , List.length_map, hf]
    · have hkl : k < x.length := by simpa using hf
      simp only [go_sem, Nat.reduceBEq, Nat.reduceEqDiff, Nat.reduceLT, Nat.reduceLeDiff, Nat.reduceAdd, Nat.reduceSub, Nat.reduceMul, reduceCtorEq, Int.reduceToNat, Int.reduceEq, Int.reduceLT, Int.reduceLE, Int.reduceNe, Int.reduceNeg , or_self, or_false, false_or , List.length_map, idx_nat, List.getElem?_map, hgx, intsD, List.getElem?_eq_getElem hkl]
      have y0 : (0 : Int) ≤ (k : Int) := by omega
      cases any with
      | true =>
        have hLx : L.length = x.length := by simp at hsi; omega
        obtain ⟨o1, o2⟩ := rowT_old hLx hkl
        have hl1 : (rowT true L x k).length = x.length := by have := hrl k hk; simpa using this
        have hl2 : (rowT true L x (k + 1)).length = x.length := by have := hrl (k + 1) hkl; simpa using this
        have y1 : (k : Int) < (x.length : Int) := by omega
        have hkr : k < (rowT true L x k).length := by omega
        rw [getD_eq hkr] at o1
        simp only [go_sem, Nat.reduceBEq, Nat.reduceEqDiff, Nat.reduceLT, Nat.reduceLeDiff, Nat.reduceAdd, Nat.reduceSub, Nat.reduceMul, reduceCtorEq, Int.reduceToNat, Int.reduceEq, Int.reduceLT, Int.reduceLE, Int.reduceNe, Int.reduceNeg , or_self, or_false, false_or , List.length_map]
        refine ADrw.treeG (fun k => k == 9) tt_ok (by kernel_rfl) (fun k => if k = 4 ∨ k = 6 ∨ k = 11 ∨ k = 13 ∨ k = 17 then some .L else if k = 18 then some .W else some .S) (.ones [0, 1, 2, 3, 4, 5, 6, 7, 8, 9, 10, 11, 12, 13, 14, 15, 16, 17, 18] .done) (by simp) (fun _ h => nomatch h) rfl rfl (by kernel_rfl) ?_
        simp only [go_sem, Nat.reduceBEq, Nat.reduceEqDiff, Nat.reduceLT, Nat.reduceLeDiff, Nat.reduceAdd, Nat.reduceSub, Nat.reduceMul, reduceCtorEq, Int.reduceToNat, Int.reduceEq, Int.reduceLT, Int.reduceLE, Int.reduceNe, Int.reduceNeg , or_self, or_false, false_or , List.length_map, hl1, y0, y1, Int.toNat_natCast, List.getElem?_map, List.getElem?_eq_getElem hkr, o1, Sp.d]
        refine ⟨k + 1, hkl, by omega, ?_⟩
        exact ForgetTo.same' (by simp) (by simp [EWe, Env.look, hl2, w64 (n := (k : Int) + 1) (by omega) (by omega)]) (by rw [← o2]; simp [bookV, List.map_set, Sp.d, wide])
      | false =>
        have hl1 : (rowT false L x k).length = k := by have := hrl k hk; simpa using this
        have hl2 : (rowT false L x (k + 1)).length = k + 1 := by have := hrl (k + 1) hkl; simpa using this
        have o2 : rowT false L x (k + 1) = rowT false L x k ++ [⟨x[k], x[k]⟩] := by
          rw [rowT, rowT, if_neg (by simp), if_neg (by simp), List.take_succ_eq_append_getElem hkl, List.map_append]; rfl
        have hle : k + 1 ≤ 4294967296 := by omega
        have y1 : (k : Int) < ((k + 1 : Nat) : Int) := by omega
        have g1 : ((rowT false L x k).map Sp.d ++ [D.agg [D.int .i64 x[k], D.int .i64 x[k]]])[k]? = some (D.agg [D.int .i64 x[k], D.int .i64 x[k]]) := by
          rw [List.getElem?_append_right (by simp [hl1])]; simp [hl1]
        have g2 : ((rowT false L x k).map Sp.d ++ [D.agg [D.int .i64 x[k], D.int .i64 x[k]]]).set k (D.agg [D.int .i64 x[k], D.int .i64 x[k]]) = (rowT false L x k).map Sp.d ++ [D.agg [D.int .i64 x[k], D.int .i64 x[k]]] := by
          rw [List.set_append_right _ _ (by simp [hl1])]; simp [hl1]
        simp only [go_sem, Nat.reduceBEq, Nat.reduceEqDiff, Nat.reduceLT, Nat.reduceLeDiff, Nat.reduceAdd, Nat.reduceSub, Nat.reduceMul, reduceCtorEq, Int.reduceToNat, Int.reduceEq, Int.reduceLT, Int.reduceLE, Int.reduceNe, Int.reduceNeg , or_self, or_false, false_or , List.length_map, hl1, hle]
        refine ADrw.treeG (fun k => k == 9) tt_ok (by kernel_rfl) (fun k => if k = 4 ∨ k = 6 ∨ k = 11 ∨ k = 13 ∨ k = 17 then some .L else if k = 18 then some .W else some .S) (.ones [0, 1, 2, 3, 4, 5, 6, 7, 8, 9, 10, 11, 12, 13, 14, 15, 16, 17, 18] .done) (by simp) (fun _ h => nomatch h) rfl rfl (by kernel_rfl) ?_
        simp only [go_sem, Nat.reduceBEq, Nat.reduceEqDiff, Nat.reduceLT, Nat.reduceLeDiff, Nat.reduceAdd, Nat.reduceSub, Nat.reduceMul, reduceCtorEq, Int.reduceToNat, Int.reduceEq, Int.reduceLT, Int.reduceLE, Int.reduceNe, Int.reduceNeg , or_self, or_false, false_or , List.length_map, hl1, y0, y1, Int.toNat_natCast, List.length_append, List.length_map, g1, g2, Int.min_self, Int.max_self]
        refine ⟨k + 1, hkl, by omega, ?_⟩
        exact ForgetTo.same' (by simp) (by simp [EWe, Env.look, hl2, w64 (n := (k : Int) + 1) (by omega) (by omega)]) (by rw [o2]; simp [bookV, Sp.d])
    have hke : k = x.length := by have : ¬ k < x.length := by simpa using hf
                                  omega
    rw [hke]
    refine ⟨i + 1, hlt, by omega, ?_⟩
    rw [hst]
    exact ForgetTo.same' (by simp) (by simp [EWe, Env.look, w64 (n := (i : Int) + 1) (by omega) (by omega)]) (by simp [bookV])
  have hie : i = T.length := by have : ¬ i < T.length := by simpa using hd
                                omega
  have hfin : T.foldl (toldRs b g c) ([], false) = S i := by rw [hS, hie, List.take_length]
  rw [hfin]
  have ht2 : ∀ l : List Sp, (l.map Sp.d).take l.length = l.map Sp.d := fun l => List.take_of_length_le (by simp)
  simp only [go_sem, Nat.reduceBEq, Nat.reduceEqDiff, Nat.reduceLT, Nat.reduceLeDiff, Nat.reduceAdd, Nat.reduceSub, Nat.reduceMul, reduceCtorEq, Int.reduceToNat, Int.reduceEq, Int.reduceLT, Int.reduceLE, Int.reduceNe, Int.reduceNeg , or_self, or_false, false_or , List.length_map, ht2]
end Go.Aw
end

section
namespace Go.Aw
open Go Go.Proofs Go.Proofs.Try

def oddRow (b : Book) (cs : List Sp) (g : Nat) : List Int := if (toldR b g (cs.getD g ⟨0, 0⟩)).2 = true then [] else [(g : Int)]

def oddRs (b : Book) (cs : List Sp) : Nat → List Int
  | 0 => []
  | g + 1 => oddRs b cs g ++ oddRow b cs g

theorem oddRs_len (b : Book) (cs : List Sp) : ∀ g, (oddRs b cs g).length ≤ g
  | 0 => by simp [oddRs]
  | g + 1 => by
    have := oddRs_len b cs g
    have h : (oddRow b cs g).length ≤ 1 := by unfold oddRow; split <;> simp
    simp only [oddRs, List.length_append]; omega

theorem c29 (b : Book) (hb : b.Ok) (cs : List Sp) (hc : cs.length = b.stock.length) : PC prog 29 [.d b.d, .d (.sl (cs.map Sp.d))] (.d (.sl ((oddRs b cs cs.length).map (.int .i64)))) := by
  have h4 := hb.s4
  refine PC.run (fun k => k == 5) tt_ok (fn := f29) (rs := [.tmp 4]) rfl rfl rfl rfl rfl rfl rfl ?_
  simp only [go_sem, Nat.reduceBEq, Nat.reduceEqDiff, Nat.reduceLT, Nat.reduceLeDiff, Nat.reduceAdd, Nat.reduceSub, Nat.reduceMul, reduceCtorEq, Int.reduceToNat, Int.reduceEq, Int.reduceLT, Int.reduceLE, Int.reduceNe, Int.reduceNeg , or_self, or_false, false_or , List.length_map, Book.d]
  refine ALoop.by (S := Nat) (fun g => [(6, .d (.int .i64 g)), (5, .ref 1 (oddRs b cs g).length 0 (oddRs b cs g).length), (2, .ptr 0 0), (1, .d (.sl (cs.map Sp.d)))])
    (fun g => [.cells (bookV b), .arr 1 false ((oddRs b cs g).map (.int .i64))]) (fun g => cs.length - g) (fun g => g ≤ cs.length) 0 (by simp) (fun _ h => nomatch h) (Nat.zero_le _) ?_ ?_
  · exact ForgetTo.same' (by simp) (by simp [EWe, Env.look, oddRs]) (by simp [bookV, oddRs])
  rintro g hg hn
  refine AWP.run (fun k => k == 5) tt_ok (fun _ h => nomatch h) (by simp) rfl ?_
  simp only [go_sem, Nat.reduceBEq, Nat.reduceEqDiff, Nat.reduceLT, Nat.reduceLeDiff, Nat.reduceAdd, Nat.reduceSub, Nat.reduceMul, reduceCtorEq, Int.reduceToNat, Int.reduceEq, Int.reduceLT, Int.reduceLE, Int.reduceNe, Int.reduceNeg , or_self, or_false, false_or , List.length_map, bookV]
  refine Br_split (fun hd => ?_) (fun hd => ?_) <;> simp only [go_sem, Nat.reduceBEq, Nat.reduceEqDiff, Nat.reduceLT, Nat.reduceLeDiff, Nat.reduceAdd, Nat.reduceSub, Nat.reduceMul, reduceCtorEq, Int.reduceToNat, Int.reduceEq, Int.reduceLT, Int.reduceLE, Int.reduceNe, Int.reduceNeg , or_self, or_false, false_or , List.length_map, hd]
  · have hlt : g < cs.length := by simpa using hd
    have hrow : oddRow b cs g = if (toldR b g cs[g]).2 = true then [] else [(g : Int)] := by rw [oddRow, getD_eq hlt]
    have hbl := oddRs_len b cs g
    have hle : (oddRs b cs g).length + 1 ≤ 4294967296 := by omega
    refine ADrw.treeG (fun k => k == 5) tt_ok (by kernel_rfl) (fun k => if k = 0 then some .L else some .S) (.ones [0, 1, 2, 3, 4, 5, 6, 7, 8, 9, 10, 11] .done) (by simp) (fun _ h => nomatch h) rfl rfl (by kernel_rfl) ?_
    simp only [go_sem, Nat.reduceBEq, Nat.reduceEqDiff, Nat.reduceLT, Nat.reduceLeDiff, Nat.reduceAdd, Nat.reduceSub, Nat.reduceMul, reduceCtorEq, Int.reduceToNat, Int.reduceEq, Int.reduceLT, Int.reduceLE, Int.reduceNe, Int.reduceNeg , or_self, or_false, false_or , List.length_map, idx_nat, List.getElem?_map, List.getElem?_eq_getElem hlt, Sp.d]
    refine (c74 b hb g (by omega) cs[g]).callS rfl rfl rfl rfl rfl rfl ?_
    simp only [go_sem, Nat.reduceBEq, Nat.reduceEqDiff, Nat.reduceLT, Nat.reduceLeDiff, Nat.reduceAdd, Nat.reduceSub, Nat.reduceMul, reduceCtorEq, Int.reduceToNat, Int.reduceEq, Int.reduceLT, Int.reduceLE, Int.reduceNe, Int.reduceNeg , or_self, or_false, false_or , List.length_map]
    generalize (toldR b g cs[g]).2 = tb at *
    refine Br_split (fun hf => ?_) (fun hf => ?_) <;> simp only [go_sem, Nat.reduceBEq, Nat.reduceEqDiff, Nat.reduceLT, Nat.reduceLeDiff, Nat.reduceAdd, Nat.reduceSub, Nat.reduceMul, reduceCtorEq, Int.reduceToNat, Int.reduceEq, Int.reduceLT, Int.reduceLE, Int.reduceNe, Int.reduceNeg , or_self, or_false, false_or , List.length_map, hf, hle]
    · have hf' : tb = false := by simpa using hf
      rw [if_neg (by simp [hf'])] at hrow
      refine ⟨g + 1, hlt, by omega, ?_⟩
      exact ForgetTo.same' (by simp) (by simp [EWe, Env.look, oddRs, hrow, w64 (n := (g : Int) + 1) (by omega) (by omega)]) (by simp [bookV, oddRs, hrow])
    · have hf' : tb = true := by simpa using hf
      rw [if_pos hf'] at hrow
      refine ⟨g + 1, hlt, by omega, ?_⟩
      exact ForgetTo.same' (by simp) (by simp [EWe, Env.look, oddRs, hrow, w64 (n := (g : Int) + 1) (by omega) (by omega)]) (by simp [bookV, oddRs, hrow])
  have hge : g = cs.length := by have : ¬ g < cs.length := by simpa using hd
                                 omega
  rw [hge]
  have ht : ∀ l : List Int, (l.map (D.int .i64)).take l.length = l.map (D.int .i64) := fun l => List.take_of_length_le (by simp)
  simp only [go_sem, Nat.reduceBEq, Nat.reduceEqDiff, Nat.reduceLT, Nat.reduceLeDiff, Nat.reduceAdd, Nat.reduceSub, Nat.reduceMul, reduceCtorEq, Int.reduceToNat, Int.reduceEq, Int.reduceLT, Int.reduceLE, Int.reduceNe, Int.reduceNeg , or_self, or_false, false_or , List.length_map, ht]
end Go.Aw
end

section
namespace Go.Aw
open Go Go.Proofs Go.Proofs.Try

def t3 (x : List Int) : T3 := ⟨x.getD 0 0, x.getD 1 0, x.getD 2 0⟩

theorem t3_set {pre : List Int} {k : Nat} (h : pre.length = k) (hk : k ≤ 2) (n : Int) : (t3 pre).set k n = t3 (pre ++ [n]) := by
  rcases pre with _ | ⟨a, _ | ⟨b, _ | ⟨c, r⟩⟩⟩
  · subst h; rfl
  · subst h; rfl
  · subst h; rfl
  · simp at h; omega

theorem loHi_upTo (s : Sp) : loHi s = upTo s := by
  unfold loHi upTo
  rw [show s.hi + 1 - s.lo = s.hi - s.lo + 1 by omega]

/-- What is left, kind by kind. -/
def lfA (a : Acct) : Nat → List Int → Int → Int
  | _, [], left => left
  | k, n :: y, left => lfA a (k + 1) y (wr (left - wr (n * a.sg k)))

theorem truthsL_pre : ∀ (l : List Sp) (t x : List Int), x ∈ truthsL l t → x.take t.length = t
  | l, t, x, h => by
    obtain ⟨y, _, rfl⟩ := (mem_truthsL l t x).1 h
    simp

theorem truF_eq (a : Acct) : ∀ (l : List Sp) (k : Nat) (pre : List Int) (left : Int), pre.length = k → k + l.length ≤ 3 → (∀ j, j < l.length → a.sp (k + j) = l.getD j ⟨0, 0⟩) →
    truF a l.length k (t3 pre) left = (truthsL l pre).map fun x => (t3 x, lfA a k (x.drop k) left)
  | [], k, pre, left, h, _, _ => by
    subst h
    simp [truF, truthsL, lfA]
  | s :: r, k, pre, left, h, hk, hs => by
    simp only [List.length_cons] at hk hs
    have h0 : a.sp k = s := by simpa using hs 0 (by omega)
    simp only [List.length_cons, truF, truthsL, h0, loHi_upTo, List.map_flatMap]
    congr 1
    funext n
    rw [t3_set h (by omega), truF_eq a r (k + 1) (pre ++ [n]) _ (by simp [h]) (by omega) (fun j hj => by
      have := hs (j + 1) (by omega)
      rw [show k + (j + 1) = k + 1 + j by omega] at this
      simpa using this)]
    apply List.map_congr_left
    intro x hx
    have hp := truthsL_pre _ _ _ hx
    have hpl : (pre ++ [n]).length = k + 1 := by simp [h]
    rw [hpl] at hp
    have hd : x.drop k = n :: x.drop (k + 1) := by
      have e : x = pre ++ n :: x.drop (k + 1) := by
        conv => lhs; rw [← List.take_append_drop (k + 1) x, hp]
        simp
      have : x.drop k = (pre ++ n :: x.drop (k + 1)).drop k := by rw [← e]
      rw [this, ← h, List.drop_left]
    rw [hd, lfA]

/-- The program's truths are the reference's, each with what is left of the goods. -/
theorem truL_eq {b : Book} (h : b.Ok) {g : Nat} (hg : g < b.stock.length) : truL (acctW b g 365) = (truthsB b g).map fun x => (t3 x, restR b g 365 x) := by
  have hl : (spansB b g).length = b.recs.length := by simp [spansB]
  have h3 := h.r3
  have hk : (acctW b g 365).kinds.toNat = (spansB b g).length := by simp [acctW, hl]
  have e := truF_eq (acctW b g 365) (spansB b g) 0 [] (acctW b g 365).sum rfl (by omega) (fun j hj => by
    rw [Nat.zero_add, spansB_get]; exact acct_sp b g 365 j (by omega))
  rw [truL, hk, show (⟨0, 0, 0⟩ : T3) = t3 [] from rfl, e, truthsB]
  apply List.map_congr_left
  intro x hx
  have hy : Wthn (spansB b g) x := by
    obtain ⟨y, hy, e⟩ := (mem_truthsL _ _ _).1 hx
    rw [show x = y by simpa using e]; exact hy
  simp only [List.drop_zero]
  rw [rest_eq h hg 365 hy]
  have hyl : x.length ≤ 3 := by
    have := truthsL_each _ _ _ hx
    simp at this; omega
  obtain ⟨k0, k1, k2, k3⟩ := acct_bounds h hg 365
  have htk : ∀ k, 0 ≤ x.getD k 0 ∧ x.getD k 0 ≤ 50 := fun k => by
    have := hy.get _ _ k
    rw [spansB_get] at this
    have := h.span g k
    omega
  congr 1
  generalize acctW b g 365 = a at *
  have w : ∀ n : Int, -1000000 ≤ n → n ≤ 1000000 → wr n = n := fun n h0 h1 => w64 (by omega) (by omega)
  have t0 := htk 0
  have t1 := htk 1
  have t2 := htk 2
  have q0 := mul_le t0.1 t0.2 k1.1 k1.2
  have q1 := mul_le t1.1 t1.2 k2.1 k2.2
  have q2 := mul_le t2.1 t2.2 k3.1 k3.2
  rcases x with _ | ⟨n0, _ | ⟨n1, _ | ⟨n2, _ | ⟨n3, r⟩⟩⟩⟩
  · simp [lfA]
  · simp at q0 q1 q2
    simp only [lfA, Acct.sg]
    rw [w (n0 * a.s0) (by omega) (by omega), w (a.sum - n0 * a.s0) (by omega) (by omega)]
    simp [Int.mul_comm]
  · simp at q0 q1 q2
    simp only [lfA, Acct.sg]
    rw [w (n0 * a.s0) (by omega) (by omega), w (n1 * a.s1) (by omega) (by omega), w (a.sum - n0 * a.s0) (by omega) (by omega), w _ (by omega) (by omega)]
    simp [Int.mul_comm]; omega
  · simp at q0 q1 q2
    simp only [lfA, Acct.sg]
    rw [w (n0 * a.s0) (by omega) (by omega), w (n1 * a.s1) (by omega) (by omega), w (n2 * a.s2) (by omega) (by omega), w (a.sum - n0 * a.s0) (by omega) (by omega), w (a.sum - n0 * a.s0 - n1 * a.s1) (by omega) (by omega), w _ (by omega) (by omega)]
    simp [Int.mul_comm]; omega
  · simp at hyl
end Go.Aw
end

section
namespace Go.Aw
open Go Go.Proofs Go.Proofs.Try

def O3.l (o : O3) (n : Nat) : List Sp := [o.a, o.b, o.c].take n

theorem told_step {x : List Int} {any : Bool} {L : List Sp} {o : O3} (hx : x.length ≤ 3) (hL : any = true → L = o.l x.length) : rowT any L x x.length = (toldI any o (t3 x) 3).l x.length := by
  cases any with
  | true =>
    rw [hL rfl]
    rcases x with _ | ⟨n0, _ | ⟨n1, _ | ⟨n2, _ | ⟨n3, r⟩⟩⟩⟩
    · simp [rowT, O3.l]
    · simp [rowT, O3.l, toldI, joinSp, t3, wide]
    · simp [rowT, O3.l, toldI, joinSp, t3, wide]
    · simp [rowT, O3.l, toldI, joinSp, t3, wide]
    · simp at hx
  | false =>
    rcases x with _ | ⟨n0, _ | ⟨n1, _ | ⟨n2, _ | ⟨n3, r⟩⟩⟩⟩
    · simp [rowT, O3.l]
    · simp [rowT, O3.l, toldI, joinSp, t3]
    · simp [rowT, O3.l, toldI, joinSp, t3]
    · simp [rowT, O3.l, toldI, joinSp, t3]
    · simp at hx

theorem told_fold (b : Book) (g : Nat) (c : Sp) {n : Nat} (hn : n ≤ 3) : ∀ (T : List (List Int)) (s : List Sp × Bool) (u : O3 × Bool), (∀ x ∈ T, x.length = n) → s.2 = u.2 → (u.2 = true → s.1 = u.1.l n) →
    (T.foldl (toldRs b g c) s).2 = ((T.map fun x => (t3 x, restR b g 365 x)).foldl (toldStep c) u).2 ∧
    (((T.map fun x => (t3 x, restR b g 365 x)).foldl (toldStep c) u).2 = true → (T.foldl (toldRs b g c) s).1 = ((T.map fun x => (t3 x, restR b g 365 x)).foldl (toldStep c) u).1.l n)
  | [], _, _, _, h1, h2 => ⟨h1, h2⟩
  | x :: r, s, u, hT, h1, h2 => by
    simp only [List.map_cons, List.foldl_cons]
    have hx := hT x (by simp)
    refine told_fold b g c hn r _ _ (fun y hy => hT y (List.mem_cons_of_mem _ hy)) ?_ ?_
    · unfold toldRs toldStep
      by_cases hw : within c.lo c.hi [restR b g 365 x] = true
      · rw [if_pos hw, if_pos hw]
      · rw [if_neg hw, if_neg hw]; exact h1
    · unfold toldRs toldStep
      by_cases hw : within c.lo c.hi [restR b g 365 x] = true
      · rw [if_pos hw, if_pos hw]
        intro _
        simp only
        rw [h1, told_step (by omega) (fun e => by rw [hx]; exact h2 e), hx]
      · rw [if_neg hw, if_neg hw]; exact h2

theorem told_eq {b : Book} (h : b.Ok) {g : Nat} (hg : g < b.stock.length) (c : Sp) : (toldR b g c).2 = (toldW b g c).2 ∧ ((toldW b g c).2 = true → (toldR b g c).1 = (toldW b g c).1.l b.recs.length) := by
  have hTl := truthsL_each (spansB b g) []
  have hsl : (spansB b g).length = b.recs.length := by simp [spansB]
  have hTl2 : ∀ x ∈ truthsB b g, x.length = b.recs.length := fun x hx => by have := hTl x hx; simp at this; omega
  rw [toldW, truL_eq h hg, toldR]
  exact told_fold b g c h.r3 (truthsB b g) ([], false) (O3.zero, false) hTl2 rfl (fun e => by cases e)

theorem odd_eq {b : Book} (h : b.Ok) {cs : List Sp} (hc : cs.length = b.stock.length) : ∀ i, i ≤ cs.length → oddI b (cs.take i) = oddRs b cs i
  | 0, _ => by simp [oddI, oddRs]
  | i + 1, hi => by
    have hlt : i < cs.length := hi
    rw [oddI_succ b hlt, odd_eq h hc i (by omega), oddRs, oddRow, getD_eq hlt, (told_eq h (by omega) cs[i]).1]

theorem odd_all {b : Book} (h : b.Ok) {cs : List Sp} (hc : cs.length = b.stock.length) : oddI b cs = oddRs b cs cs.length := by
  have := odd_eq h hc cs.length (Nat.le_refl _)
  rwa [List.take_length] at this
end Go.Aw
end

section
set_option maxRecDepth 100000
namespace Go.Aw
open Go Go.Proofs Go.Proofs.Try

/-- What would be left without the entry, in each truth. -/
def restsR (b : Book) (y : Ent) : List Int := (truthsB b y.goods.toNat).map fun x => wr (restR b y.goods.toNat 365 x - y.amount)

/-- The amount of so many pieces, in the entry's direction. -/
def amtN (y : Ent) (n : Nat) : Int := if y.amount < 0 then wr (-(n : Int)) else n

theorem amtN_neg (y : Ent) (m : Nat) (h : y.amount < 0) : amtN y (m + 1) = wr (-((m + 1 : Nat) : Int)) := by rw [amtN, if_pos h]
theorem amtN_pos (y : Ent) (m : Nat) (h : ¬ y.amount < 0) : amtN y (m + 1) = ((m + 1 : Nat) : Int) := by rw [amtN, if_neg h]

def amtRow (y : Ent) (c : Sp) (n : Int) (R : List Int) (s : Sp) : Sp := R.foldl (fun s r => if within c.lo c.hi [wr (r + n)] = true then wide n s else s) s

def amtRs (b : Book) (y : Ent) (c : Sp) : Nat → Sp
  | 0 => ⟨2000, -2000⟩
  | i + 1 => amtRow y c (amtN y (i + 1)) (restsR b y) (amtRs b y c i)

theorem c76 (b : Book) (hb : b.Ok) (k : Nat) (hk : k < b.ents.length) (cs : List Sp) (hc : cs.length = b.stock.length) : PC prog 76 [.d b.d, .d (.int .i64 k), .d (.sl (cs.map Sp.d))] (.d (amtRs b b.ents[k] (cs.getD b.ents[k].goods.toNat ⟨0, 0⟩) 1000).d) := by
  obtain ⟨v1, ⟨v2, v3⟩, v4, v5⟩ := hb.ev _ (List.getElem_mem hk)
  obtain ⟨gn, hgn⟩ : ∃ gn : Nat, b.ents[k].goods = gn := ⟨b.ents[k].goods.toNat, by omega⟩
  have hg : gn < b.stock.length := by omega
  have hgc : gn < cs.length := by omega
  have hge : b.ents[k]? = some b.ents[k] := List.getElem?_eq_getElem hk
  generalize b.ents[k] = y at *
  have hTl := truthsL_each (spansB b gn) []
  have hTn := truthsL_len (spansB b gn) [] fun s hs => (hb.spansB hg s hs).2.2.2
  have hsl : (spansB b gn).length = b.recs.length := by simp [Go.Aw.spansB]
  have hTn2 : 8 ^ (spansB b gn).length ≤ 8 ^ 3 := Nat.pow_le_pow_right (by omega) (by have := hb.r3; omega)
  have ht := c70 b hb gn hg b.recs.length [] (by simp)
  simp only [List.length_nil, List.drop_zero] at ht
  have hgt : y.goods.toNat = gn := by omega
  have hcg : cs.getD y.goods.toNat ⟨0, 0⟩ = cs[gn] := by rw [hgt, getD_eq hgc]
  rw [hcg]
  obtain ⟨T, hT⟩ : ∃ T, T = truthsL (spansB b gn) [] := ⟨_, rfl⟩
  have hR : restsR b y = T.map fun x => wr (restR b gn 365 x - y.amount) := by rw [restsR, hgt, truthsB, hT]
  rw [← hT] at ht hTl hTn
  have hTl2 : ∀ x ∈ T, x.length = b.recs.length := fun x hx => by have := hTl x hx; simp at this; omega
  have hr : ∀ x ∈ T, PC prog 71 [.d b.d, .d (.int .i64 gn), .d (.int .i64 365), .d (.sl (x.map (.int .i64)))] (.d (.int .i64 (restR b gn 365 x))) := fun x hx =>
    c71 b hb.fits gn hg 365 x fun m hm => by
      have := hTl2 x hx
      have := (hb.mv m hm).2.1
      omega
  refine PC.run (fun k => k == 10) tt_ok (fn := f76) (rs := [.cell 6 40]) rfl rfl rfl rfl rfl rfl rfl ?_
  simp only [go_sem, Nat.reduceBEq, Nat.reduceEqDiff, Nat.reduceLT, Nat.reduceLeDiff, Nat.reduceAdd, Nat.reduceSub, Nat.reduceMul, reduceCtorEq, Int.reduceToNat, Int.reduceEq, Int.reduceLT, Int.reduceLE, Int.reduceNe, Int.reduceNeg , or_self, or_false, false_or , List.length_map, Book.d, idx_nat, List.getElem?_map, hge, Ent.d, hgn]
  refine ht.call rfl rfl rfl ?_
  simp only [go_sem, Nat.reduceBEq, Nat.reduceEqDiff, Nat.reduceLT, Nat.reduceLeDiff, Nat.reduceAdd, Nat.reduceSub, Nat.reduceMul, reduceCtorEq, Int.reduceToNat, Int.reduceEq, Int.reduceLT, Int.reduceLE, Int.reduceNe, Int.reduceNeg , or_self, or_false, false_or , List.length_map]
  refine ALoop.by (S := Nat) (fun i => [(11, .d (.int .i64 i)), (10, .ref 4 i 0 i), (9, .d (.sl (T.map intsD))), (8, .ptr 3 0), (7, .ptr 2 0), (6, .ptr 1 0), (3, .ptr 0 0), (2, .d (.sl (cs.map Sp.d)))])
    (fun i => [.cells (bookV b), .cells [.d (.int .i64 0), .d (.int .i64 0)], .cells [.d (.int .i64 y.day), .d (.int .i64 gn), .d (.int .i64 y.amount)], .cells [.d (.int .i64 2000), .d (.int .i64 (-2000))], .arr 1 false (((restsR b y).take i).map (.int .i64))]) (fun i => T.length - i) (fun i => i ≤ T.length) 0 (by simp) (fun _ h => nomatch h) (Nat.zero_le _) ?_ ?_
  · exact ForgetTo.same' (by simp) (by simp [EWe, Env.look]) (by simp [bookV])
  rintro i hi hn
  refine AWP.run (fun k => k == 10) tt_ok (fun _ h => nomatch h) (by simp) rfl ?_
  simp only [go_sem, Nat.reduceBEq, Nat.reduceEqDiff, Nat.reduceLT, Nat.reduceLeDiff, Nat.reduceAdd, Nat.reduceSub, Nat.reduceMul, reduceCtorEq, Int.reduceToNat, Int.reduceEq, Int.reduceLT, Int.reduceLE, Int.reduceNe, Int.reduceNeg , or_self, or_false, false_or , List.length_map, bookV]
  have hRl : (restsR b y).length = T.length := by rw [hR]; simp
  refine Br_split (fun hd => ?_) (fun hd => ?_) <;> simp only [go_sem, Nat.reduceBEq, Nat.reduceEqDiff, Nat.reduceLT, Nat.reduceLeDiff, Nat.reduceAdd, Nat.reduceSub, Nat.reduceMul, reduceCtorEq, Int.reduceToNat, Int.reduceEq, Int.reduceLT, Int.reduceLE, Int.reduceNe, Int.reduceNeg , or_self, or_false, false_or , List.length_map, hd]
  · have hlt : i < T.length := by simpa using hd
    have hrt : i < (restsR b y).length := by omega
    have hre : (restsR b y)[i] = wr (restR b gn 365 T[i] - y.amount) := by simp only [hR, List.getElem_map]
    have hle : i + 1 ≤ 4294967296 := by omega
    have hmin : min i (restsR b y).length = i := by omega
    refine ADrw.treeG (fun k => k == 10) tt_ok (by kernel_rfl) (fun k => if k = 1 ∨ k = 3 ∨ k = 10 then some .L else if k = 13 then some .W else some .S) (.ones [0, 1, 2, 3, 4, 5, 6, 7, 8, 9, 10, 11, 12, 13, 14] .done) (by simp) (fun _ h => nomatch h) rfl rfl (by kernel_rfl) ?_
    simp only [go_sem, Nat.reduceBEq, Nat.reduceEqDiff, Nat.reduceLT, Nat.reduceLeDiff, Nat.reduceAdd, Nat.reduceSub, Nat.reduceMul, reduceCtorEq, Int.reduceToNat, Int.reduceEq, Int.reduceLT, Int.reduceLE, Int.reduceNe, Int.reduceNeg , or_self, or_false, false_or , List.length_map, idx_nat, List.getElem?_map, List.getElem?_eq_getElem hlt, intsD]
    refine (hr T[i] (List.getElem_mem hlt)).callS rfl rfl rfl rfl rfl rfl ?_
    simp only [go_sem, Nat.reduceBEq, Nat.reduceEqDiff, Nat.reduceLT, Nat.reduceLeDiff, Nat.reduceAdd, Nat.reduceSub, Nat.reduceMul, reduceCtorEq, Int.reduceToNat, Int.reduceEq, Int.reduceLT, Int.reduceLE, Int.reduceNe, Int.reduceNeg , or_self, or_false, false_or , List.length_map, List.length_take, hmin, hle]
    refine ⟨i + 1, hlt, by omega, ?_⟩
    exact ForgetTo.same' (by simp) (by simp [EWe, Env.look, w64 (n := (i : Int) + 1) (by omega) (by omega)]) (by rw [List.take_succ_eq_append_getElem hrt, hre]; simp [bookV])
  have hie : i = T.length := by have : ¬ i < T.length := by simpa using hd
                                omega
  rw [hie, show (restsR b y).take T.length = restsR b y from List.take_of_length_le (by omega)]
  clear hd hi hn
  have hRb : (restsR b y).length ≤ 512 := by omega
  obtain ⟨A, hA⟩ : ∃ A : Nat → Sp, ∀ m, A m = amtRs b y cs[gn] m := ⟨_, fun _ => rfl⟩
  have hA0 : A 0 = ⟨2000, -2000⟩ := by rw [hA]; rfl
  have hAs : ∀ m, A (m + 1) = amtRow y cs[gn] (amtN y (m + 1)) (restsR b y) (A m) := fun m => by rw [hA, hA]; rfl
  rw [← hA 1000, ← hRl]
  generalize restsR b y = R at *
  have hcc : cs[gn] = cs[gn] := rfl
  generalize hcd : cs[gn] = c at hA hAs hcg ⊢
  replace hcc : cs[gn] = c := hcd
  refine ALoop.by (S := Nat) (fun m => [(12, .d (.int .i64 (m + 1 : Nat))), (10, .ref 4 R.length 0 R.length), (8, .ptr 3 0), (7, .ptr 2 0), (6, .ptr 1 0), (3, .ptr 0 0), (2, .d (.sl (cs.map Sp.d)))])
    (fun m => [.cells (bookV b), .cells [.d (.int .i64 0), .d (.int .i64 0)], .cells [.d (.int .i64 y.day), .d (.int .i64 gn), .d (.int .i64 y.amount)], .cells [.d (.int .i64 (A m).lo), .d (.int .i64 (A m).hi)], .arr 1 false (R.map (.int .i64))]) (fun m => 1000 - m) (fun m => m ≤ 1000) 0 (by simp) (fun _ h => nomatch h) (Nat.zero_le _) ?_ ?_
  · exact ForgetTo.same' (by simp) (by simp [EWe, Env.look]) (by simp [bookV, hA0])
  rintro m hm hn
  refine AWP.run (fun k => k == 10) tt_ok (fun _ h => nomatch h) (by simp) rfl ?_
  simp only [go_sem, Nat.reduceBEq, Nat.reduceEqDiff, Nat.reduceLT, Nat.reduceLeDiff, Nat.reduceAdd, Nat.reduceSub, Nat.reduceMul, reduceCtorEq, Int.reduceToNat, Int.reduceEq, Int.reduceLT, Int.reduceLE, Int.reduceNe, Int.reduceNeg , or_self, or_false, false_or , List.length_map, bookV]
  refine Br_split (fun hd => ?_) (fun hd => ?_) <;> simp only [go_sem, Nat.reduceBEq, Nat.reduceEqDiff, Nat.reduceLT, Nat.reduceLeDiff, Nat.reduceAdd, Nat.reduceSub, Nat.reduceMul, reduceCtorEq, Int.reduceToNat, Int.reduceEq, Int.reduceLT, Int.reduceLE, Int.reduceNe, Int.reduceNeg , or_self, or_false, false_or , List.length_map, hd]
  · have hlt : m < 1000 := by simp at hd; omega
    refine Br_split (fun hs => ?_) (fun hs => ?_) <;> simp only [go_sem, Nat.reduceBEq, Nat.reduceEqDiff, Nat.reduceLT, Nat.reduceLeDiff, Nat.reduceAdd, Nat.reduceSub, Nat.reduceMul, reduceCtorEq, Int.reduceToNat, Int.reduceEq, Int.reduceLT, Int.reduceLE, Int.reduceNe, Int.reduceNeg , or_self, or_false, false_or , List.length_map, hs]
    · have hneg := amtN_neg y m (by simpa using hs)
      refine ALoop.by (S := Nat) (fun j => [(14, .d (.int .i64 j)), (13, .d (.int .i64 (amtN y (m + 1)))), (12, .d (.int .i64 (m + 1 : Nat))), (10, .ref 4 R.length 0 R.length), (8, .ptr 3 0), (7, .ptr 2 0), (6, .ptr 1 0), (3, .ptr 0 0), (2, .d (.sl (cs.map Sp.d)))])
        (fun j => [.cells (bookV b), .cells [.d (.int .i64 0), .d (.int .i64 0)], .cells [.d (.int .i64 y.day), .d (.int .i64 gn), .d (.int .i64 y.amount)], .cells [.d (.int .i64 (amtRow y c (amtN y (m + 1)) (R.take j) (A m)).lo), .d (.int .i64 (amtRow y c (amtN y (m + 1)) (R.take j) (A m)).hi)], .arr 1 false (R.map (.int .i64))]) (fun j => R.length - j) (fun j => j ≤ R.length) 0 (by simp) (fun _ h => nomatch h) (Nat.zero_le _) ?_ ?_
      · exact ForgetTo.same' (by simp) (by simp [EWe, Env.look, hneg]) (by simp [bookV, amtRow])
      rintro j hj hn
      refine AWP.run (fun k => k == 10) tt_ok (fun _ h => nomatch h) (by simp) rfl ?_
      simp only [go_sem, Nat.reduceBEq, Nat.reduceEqDiff, Nat.reduceLT, Nat.reduceLeDiff, Nat.reduceAdd, Nat.reduceSub, Nat.reduceMul, reduceCtorEq, Int.reduceToNat, Int.reduceEq, Int.reduceLT, Int.reduceLE, Int.reduceNe, Int.reduceNeg , or_self, or_false, false_or , List.length_map, bookV]
      refine Br_split (fun he => ?_) (fun he => ?_) <;> simp only [go_sem, Nat.reduceBEq, Nat.reduceEqDiff, Nat.reduceLT, Nat.reduceLeDiff, Nat.reduceAdd, Nat.reduceSub, Nat.reduceMul, reduceCtorEq, Int.reduceToNat, Int.reduceEq, Int.reduceLT, Int.reduceLE, Int.reduceNe, Int.reduceNeg , or_self, or_false, false_or , List.length_map, he]
      · have hjl : j < R.length := by simpa using he
        have y0 : (0 : Int) ≤ (j : Int) := by omega
        have y1 : (j : Int) < (R.length : Int) := by omega
        have hst : amtRow y c (amtN y (m + 1)) (R.take (j + 1)) (A m) = if within c.lo c.hi [wr (R[j] + amtN y (m + 1))] = true then wide (amtN y (m + 1)) (amtRow y c (amtN y (m + 1)) (R.take j) (A m)) else amtRow y c (amtN y (m + 1)) (R.take j) (A m) := by
          simp only [amtRow]; rw [foldl_at hjl]
        generalize amtRow y c (amtN y (m + 1)) (R.take j) (A m) = s0 at *
        refine ADrw.treeG (fun k => k == 10) tt_ok (by kernel_rfl) (fun k => if k = 2 ∨ k = 3 ∨ k = 8 ∨ k = 14 then some .L else some .S) (.ones [0, 1, 2, 3, 4, 5, 6, 7, 8, 9, 10, 11, 12, 13, 14, 15, 16, 17, 18] .done) (by simp) (fun _ h => nomatch h) rfl rfl (by kernel_rfl) ?_
        simp only [go_sem, Nat.reduceBEq, Nat.reduceEqDiff, Nat.reduceLT, Nat.reduceLeDiff, Nat.reduceAdd, Nat.reduceSub, Nat.reduceMul, reduceCtorEq, Int.reduceToNat, Int.reduceEq, Int.reduceLT, Int.reduceLE, Int.reduceNe, Int.reduceNeg , or_self, or_false, false_or , List.length_map, y0, y1, Int.toNat_natCast, idx_nat, List.getElem?_map, List.getElem?_eq_getElem hjl, List.getElem?_eq_getElem hgc, hcc, Sp.d]
        refine (c37w _ c.lo c.hi).callS rfl rfl rfl rfl rfl rfl ?_
        simp only [go_sem, Nat.reduceBEq, Nat.reduceEqDiff, Nat.reduceLT, Nat.reduceLeDiff, Nat.reduceAdd, Nat.reduceSub, Nat.reduceMul, reduceCtorEq, Int.reduceToNat, Int.reduceEq, Int.reduceLT, Int.reduceLE, Int.reduceNe, Int.reduceNeg , or_self, or_false, false_or , List.length_map]
        refine Br_split (fun hf => ?_) (fun hf => ?_) <;> simp only [go_sem, Nat.reduceBEq, Nat.reduceEqDiff, Nat.reduceLT, Nat.reduceLeDiff, Nat.reduceAdd, Nat.reduceSub, Nat.reduceMul, reduceCtorEq, Int.reduceToNat, Int.reduceEq, Int.reduceLT, Int.reduceLE, Int.reduceNe, Int.reduceNeg , or_self, or_false, false_or , List.length_map, hf]
        · rw [if_pos hf] at hst
          refine ⟨j + 1, hjl, by omega, ?_⟩
          exact ForgetTo.same' (by simp) (by simp [EWe, Env.look, w64 (n := (j : Int) + 1) (by omega) (by omega)]) (by simp only [hst, wide, bookV])
        · rw [if_neg (by simp [hf])] at hst
          refine ⟨j + 1, hjl, by omega, ?_⟩
          exact ForgetTo.same' (by simp) (by simp [EWe, Env.look, w64 (n := (j : Int) + 1) (by omega) (by omega)]) (by simp only [hst, bookV])
      have hje : j = R.length := by have : ¬ j < R.length := by simpa using he
                                    omega
      rw [hje, List.take_length, ← hAs]
      refine ⟨m + 1, hlt, by omega, ?_⟩
      exact ForgetTo.same' (by simp) (by simp [EWe, Env.look, w64 (n := (m : Int) + 1 + 1) (by omega) (by omega)]) (by simp [bookV])

    · have hneg := amtN_pos y m (by simpa using hs)
      refine ALoop.by (S := Nat) (fun j => [(14, .d (.int .i64 j)), (13, .d (.int .i64 (amtN y (m + 1)))), (12, .d (.int .i64 (m + 1 : Nat))), (10, .ref 4 R.length 0 R.length), (8, .ptr 3 0), (7, .ptr 2 0), (6, .ptr 1 0), (3, .ptr 0 0), (2, .d (.sl (cs.map Sp.d)))])
        (fun j => [.cells (bookV b), .cells [.d (.int .i64 0), .d (.int .i64 0)], .cells [.d (.int .i64 y.day), .d (.int .i64 gn), .d (.int .i64 y.amount)], .cells [.d (.int .i64 (amtRow y c (amtN y (m + 1)) (R.take j) (A m)).lo), .d (.int .i64 (amtRow y c (amtN y (m + 1)) (R.take j) (A m)).hi)], .arr 1 false (R.map (.int .i64))]) (fun j => R.length - j) (fun j => j ≤ R.length) 0 (by simp) (fun _ h => nomatch h) (Nat.zero_le _) ?_ ?_
      · exact ForgetTo.same' (by simp) (by simp [EWe, Env.look, hneg]) (by simp [bookV, amtRow])
      rintro j hj hn
      refine AWP.run (fun k => k == 10) tt_ok (fun _ h => nomatch h) (by simp) rfl ?_
      simp only [go_sem, Nat.reduceBEq, Nat.reduceEqDiff, Nat.reduceLT, Nat.reduceLeDiff, Nat.reduceAdd, Nat.reduceSub, Nat.reduceMul, reduceCtorEq, Int.reduceToNat, Int.reduceEq, Int.reduceLT, Int.reduceLE, Int.reduceNe, Int.reduceNeg , or_self, or_false, false_or , List.length_map, bookV]
      refine Br_split (fun he => ?_) (fun he => ?_) <;> simp only [go_sem, Nat.reduceBEq, Nat.reduceEqDiff, Nat.reduceLT, Nat.reduceLeDiff, Nat.reduceAdd, Nat.reduceSub, Nat.reduceMul, reduceCtorEq, Int.reduceToNat, Int.reduceEq, Int.reduceLT, Int.reduceLE, Int.reduceNe, Int.reduceNeg , or_self, or_false, false_or , List.length_map, he]
      · have hjl : j < R.length := by simpa using he
        have y0 : (0 : Int) ≤ (j : Int) := by omega
        have y1 : (j : Int) < (R.length : Int) := by omega
        have hst : amtRow y c (amtN y (m + 1)) (R.take (j + 1)) (A m) = if within c.lo c.hi [wr (R[j] + amtN y (m + 1))] = true then wide (amtN y (m + 1)) (amtRow y c (amtN y (m + 1)) (R.take j) (A m)) else amtRow y c (amtN y (m + 1)) (R.take j) (A m) := by
          simp only [amtRow]; rw [foldl_at hjl]
        generalize amtRow y c (amtN y (m + 1)) (R.take j) (A m) = s0 at *
        refine ADrw.treeG (fun k => k == 10) tt_ok (by kernel_rfl) (fun k => if k = 2 ∨ k = 3 ∨ k = 8 ∨ k = 14 then some .L else some .S) (.ones [0, 1, 2, 3, 4, 5, 6, 7, 8, 9, 10, 11, 12, 13, 14, 15, 16, 17, 18] .done) (by simp) (fun _ h => nomatch h) rfl rfl (by kernel_rfl) ?_
        simp only [go_sem, Nat.reduceBEq, Nat.reduceEqDiff, Nat.reduceLT, Nat.reduceLeDiff, Nat.reduceAdd, Nat.reduceSub, Nat.reduceMul, reduceCtorEq, Int.reduceToNat, Int.reduceEq, Int.reduceLT, Int.reduceLE, Int.reduceNe, Int.reduceNeg , or_self, or_false, false_or , List.length_map, y0, y1, Int.toNat_natCast, idx_nat, List.getElem?_map, List.getElem?_eq_getElem hjl, List.getElem?_eq_getElem hgc, hcc, Sp.d]
        refine (c37w _ c.lo c.hi).callS rfl rfl rfl rfl rfl rfl ?_
        simp only [go_sem, Nat.reduceBEq, Nat.reduceEqDiff, Nat.reduceLT, Nat.reduceLeDiff, Nat.reduceAdd, Nat.reduceSub, Nat.reduceMul, reduceCtorEq, Int.reduceToNat, Int.reduceEq, Int.reduceLT, Int.reduceLE, Int.reduceNe, Int.reduceNeg , or_self, or_false, false_or , List.length_map]
        refine Br_split (fun hf => ?_) (fun hf => ?_) <;> simp only [go_sem, Nat.reduceBEq, Nat.reduceEqDiff, Nat.reduceLT, Nat.reduceLeDiff, Nat.reduceAdd, Nat.reduceSub, Nat.reduceMul, reduceCtorEq, Int.reduceToNat, Int.reduceEq, Int.reduceLT, Int.reduceLE, Int.reduceNe, Int.reduceNeg , or_self, or_false, false_or , List.length_map, hf]
        · rw [if_pos hf] at hst
          refine ⟨j + 1, hjl, by omega, ?_⟩
          exact ForgetTo.same' (by simp) (by simp [EWe, Env.look, w64 (n := (j : Int) + 1) (by omega) (by omega)]) (by simp only [hst, wide, bookV])
        · rw [if_neg (by simp [hf])] at hst
          refine ⟨j + 1, hjl, by omega, ?_⟩
          exact ForgetTo.same' (by simp) (by simp [EWe, Env.look, w64 (n := (j : Int) + 1) (by omega) (by omega)]) (by simp only [hst, bookV])
      have hje : j = R.length := by have : ¬ j < R.length := by simpa using he
                                    omega
      rw [hje, List.take_length, ← hAs]
      refine ⟨m + 1, hlt, by omega, ?_⟩
      exact ForgetTo.same' (by simp) (by simp [EWe, Env.look, w64 (n := (m : Int) + 1 + 1) (by omega) (by omega)]) (by simp [bookV])
  have hme : m = 1000 := by simp at hd; omega
  subst hme
  simp only [go_sem, Nat.reduceBEq, Nat.reduceEqDiff, Nat.reduceLT, Nat.reduceLeDiff, Nat.reduceAdd, Nat.reduceSub, Nat.reduceMul, reduceCtorEq, Int.reduceToNat, Int.reduceEq, Int.reduceLT, Int.reduceLE, Int.reduceNe, Int.reduceNeg , or_self, or_false, false_or , List.length_map, Sp.d]
end Go.Aw
end

section
set_option maxRecDepth 100000
namespace Go.Aw
open Go Go.Proofs Go.Proofs.Try

def amtsR (b : Book) (cs : List Sp) (y : Ent) : Sp := amtRs b y (cs.getD y.goods.toNat ⟨0, 0⟩) 1000

def fixRow (b : Book) (cs : List Sp) (o : Int) (i : Nat) (y : Ent) : List FixS := if y.goods = o then (if (amtsR b cs y).lo ≤ (amtsR b cs y).hi then [⟨i, amtsR b cs y⟩] else []) else []

def fixRs (b : Book) (cs : List Sp) (o : Int) : Nat → List FixS
  | 0 => []
  | i + 1 => fixRs b cs o i ++ fixRow b cs o i (b.ents.getD i ⟨0, 0, 0⟩)

theorem fixRs_len (b : Book) (cs : List Sp) (o : Int) : ∀ i, (fixRs b cs o i).length ≤ i
  | 0 => by simp [fixRs]
  | i + 1 => by
    have := fixRs_len b cs o i
    have h : (fixRow b cs o i (b.ents.getD i ⟨0, 0, 0⟩)).length ≤ 1 := by unfold fixRow; split <;> (try split) <;> simp
    simp only [fixRs, List.length_append]; omega

def fixR (b : Book) (cs : List Sp) : List FixS := if (oddRs b cs cs.length).length = 1 then fixRs b cs ((oddRs b cs cs.length).getD 0 0) b.ents.length else []

theorem c33 (b : Book) (hb : b.Ok) (cs : List Sp) (hc : cs.length = b.stock.length) : PC prog 33 [.d b.d, .d (.sl (cs.map Sp.d))] (.d (.sl ((fixR b cs).map FixS.d))) := by
  have h12 := hb.e12
  refine PC.run (fun k => k == 6) tt_ok (fn := f33) (rs := [.tmp 4]) rfl rfl rfl rfl rfl rfl rfl ?_
  simp only [go_sem, Nat.reduceBEq, Nat.reduceEqDiff, Nat.reduceLT, Nat.reduceLeDiff, Nat.reduceAdd, Nat.reduceSub, Nat.reduceMul, reduceCtorEq, Int.reduceToNat, Int.reduceEq, Int.reduceLT, Int.reduceLE, Int.reduceNe, Int.reduceNeg , or_self, or_false, false_or , List.length_map, Book.d]
  refine (c29 b hb cs hc).call rfl rfl rfl ?_
  simp only [go_sem, Nat.reduceBEq, Nat.reduceEqDiff, Nat.reduceLT, Nat.reduceLeDiff, Nat.reduceAdd, Nat.reduceSub, Nat.reduceMul, reduceCtorEq, Int.reduceToNat, Int.reduceEq, Int.reduceLT, Int.reduceLE, Int.reduceNe, Int.reduceNeg , or_self, or_false, false_or , List.length_map]
  rw [fixR]
  generalize oddRs b cs cs.length = O at *
  by_cases hO : O.length = 1
  · have hO0 : 0 < O.length := by omega
    have hOi : (O.length : Int) = 1 := by omega
    rw [if_pos hO, getD_eq hO0]
    have io : idx? (O.map (D.int .i64)) 0 = some (D.int .i64 O[0]) := by
      have := idx_nat (O.map (D.int .i64)) 0
      simpa [hO0] using this
    generalize O[0] = o at *
    refine ALoop.by (S := Nat) (fun i => [(7, .d (.int .i64 i)), (6, .ref 1 (fixRs b cs o i).length 0 (fixRs b cs o i).length), (5, .d (.sl (O.map (.int .i64)))), (2, .ptr 0 0), (1, .d (.sl (cs.map Sp.d)))])
      (fun i => [.cells (bookV b), .arr 3 false ((fixRs b cs o i).map FixS.d)]) (fun i => b.ents.length - i) (fun i => i ≤ b.ents.length) 0 (by simp) (fun _ h => nomatch h) (Nat.zero_le _) ?_ ?_
    · exact ForgetTo.same' (by simp) (by simp [EWe, Env.look, fixRs]) (by simp [bookV, fixRs])
    rintro i hi hn
    refine AWP.run (fun k => k == 6) tt_ok (fun _ h => nomatch h) (by simp) rfl ?_
    simp only [go_sem, Nat.reduceBEq, Nat.reduceEqDiff, Nat.reduceLT, Nat.reduceLeDiff, Nat.reduceAdd, Nat.reduceSub, Nat.reduceMul, reduceCtorEq, Int.reduceToNat, Int.reduceEq, Int.reduceLT, Int.reduceLE, Int.reduceNe, Int.reduceNeg , or_self, or_false, false_or , List.length_map, bookV]
    refine Br_split (fun hd => ?_) (fun hd => ?_) <;> simp only [go_sem, Nat.reduceBEq, Nat.reduceEqDiff, Nat.reduceLT, Nat.reduceLeDiff, Nat.reduceAdd, Nat.reduceSub, Nat.reduceMul, reduceCtorEq, Int.reduceToNat, Int.reduceEq, Int.reduceLT, Int.reduceLE, Int.reduceNe, Int.reduceNeg , or_self, or_false, false_or , List.length_map, hd, hOi]
    · have hlt : i < b.ents.length := by simpa using hd
      have hge : b.ents.getD i ⟨0, 0, 0⟩ = b.ents[i] := getD_eq hlt
      have hbl := fixRs_len b cs o i
      have hle : (fixRs b cs o i).length + 1 ≤ 4294967296 := by omega
      have c76' := c76 b hb i hlt cs hc
      rw [show amtRs b b.ents[i] (cs.getD b.ents[i].goods.toNat ⟨0, 0⟩) 1000 = amtsR b cs b.ents[i] from rfl] at c76'
      have hst : fixRs b cs o (i + 1) = fixRs b cs o i ++ fixRow b cs o i b.ents[i] := by rw [fixRs, hge]
      have hrow : fixRow b cs o i b.ents[i] = if b.ents[i].goods = o then (if (amtsR b cs b.ents[i]).lo ≤ (amtsR b cs b.ents[i]).hi then [⟨i, amtsR b cs b.ents[i]⟩] else []) else [] := rfl
      generalize amtsR b cs b.ents[i] = s at *
      refine ADrw.treeG (fun k => k == 6) tt_ok (by kernel_rfl) (fun k => if k = 1 then some .L else some .S) (.ones [0, 1, 2, 3, 4, 5, 6, 7, 8, 9] .done) (by simp) (fun _ h => nomatch h) rfl rfl (by kernel_rfl) ?_
      simp only [go_sem, Nat.reduceBEq, Nat.reduceEqDiff, Nat.reduceLT, Nat.reduceLeDiff, Nat.reduceAdd, Nat.reduceSub, Nat.reduceMul, reduceCtorEq, Int.reduceToNat, Int.reduceEq, Int.reduceLT, Int.reduceLE, Int.reduceNe, Int.reduceNeg , or_self, or_false, false_or , List.length_map, idx_nat, List.getElem?_map, List.getElem?_eq_getElem hlt, Ent.d, io]
      refine Br_split (fun he => ?_) (fun he => ?_) <;> simp only [go_sem, Nat.reduceBEq, Nat.reduceEqDiff, Nat.reduceLT, Nat.reduceLeDiff, Nat.reduceAdd, Nat.reduceSub, Nat.reduceMul, reduceCtorEq, Int.reduceToNat, Int.reduceEq, Int.reduceLT, Int.reduceLE, Int.reduceNe, Int.reduceNeg , or_self, or_false, false_or , List.length_map, he]
      · have he' : ¬ b.ents[i].goods = o := by simpa using he
        rw [if_neg he'] at hrow
        rw [hrow, List.append_nil] at hst
        refine ⟨i + 1, hlt, by omega, ?_⟩
        rw [hst]
        exact ForgetTo.same' (by simp) (by simp [EWe, Env.look, w64 (n := (i : Int) + 1) (by omega) (by omega)]) (by simp [bookV])
      have he' : b.ents[i].goods = o := by simpa using he
      rw [if_pos he'] at hrow
      refine c76'.call rfl rfl rfl ?_
      simp only [go_sem, Nat.reduceBEq, Nat.reduceEqDiff, Nat.reduceLT, Nat.reduceLeDiff, Nat.reduceAdd, Nat.reduceSub, Nat.reduceMul, reduceCtorEq, Int.reduceToNat, Int.reduceEq, Int.reduceLT, Int.reduceLE, Int.reduceNe, Int.reduceNeg , or_self, or_false, false_or , List.length_map, Sp.d]
      refine Br_split (fun hf => ?_) (fun hf => ?_) <;> simp only [go_sem, Nat.reduceBEq, Nat.reduceEqDiff, Nat.reduceLT, Nat.reduceLeDiff, Nat.reduceAdd, Nat.reduceSub, Nat.reduceMul, reduceCtorEq, Int.reduceToNat, Int.reduceEq, Int.reduceLT, Int.reduceLE, Int.reduceNe, Int.reduceNeg , or_self, or_false, false_or , List.length_map, hf, hle]
      · have hf' : s.lo ≤ s.hi := by simpa using hf
        rw [if_pos hf'] at hrow
        rw [hrow] at hst
        refine ⟨i + 1, hlt, by omega, ?_⟩
        rw [hst]
        simp [ForgetTo, EW, VW, BBq, BBs, BB, VBs, VB, Env.look, pubV, bookV, FixS.d, w64 (n := (i : Int) + 1) (by omega) (by omega)]
      · have hf' : ¬ s.lo ≤ s.hi := by simpa using hf
        rw [if_neg hf'] at hrow
        rw [hrow, List.append_nil] at hst
        refine ⟨i + 1, hlt, by omega, ?_⟩
        rw [hst]
        simp [ForgetTo, EW, VW, BBq, BBs, BB, VBs, VB, Env.look, pubV, bookV, w64 (n := (i : Int) + 1) (by omega) (by omega)]
    have hie : i = b.ents.length := by have : ¬ i < b.ents.length := by simpa using hd
                                       omega
    rw [hie]
    have ht : ∀ l : List FixS, (l.map FixS.d).take l.length = l.map FixS.d := fun l => List.take_of_length_le (by simp)
    simp only [go_sem, Nat.reduceBEq, Nat.reduceEqDiff, Nat.reduceLT, Nat.reduceLeDiff, Nat.reduceAdd, Nat.reduceSub, Nat.reduceMul, reduceCtorEq, Int.reduceToNat, Int.reduceEq, Int.reduceLT, Int.reduceLE, Int.reduceNe, Int.reduceNeg , or_self, or_false, false_or , List.length_map, ht]
  · have hOi : ¬ (O.length : Int) = 1 := by omega
    rw [if_neg hO]
    refine ALoop.by (S := Unit) (fun _ => [(7, .d (.int .i64 0)), (6, .ref 1 0 0 0), (5, .d (.sl (O.map (.int .i64)))), (2, .ptr 0 0)])
      (fun _ => [.cells (bookV b), .arr 3 false []]) (fun _ => 0) (fun _ => True) () (by simp) (fun _ h => nomatch h) trivial ?_ ?_
    · exact ForgetTo.same' (by simp) (by simp [EWe, Env.look]) (by simp [bookV])
    rintro _ _ hn
    refine AWP.run (fun k => k == 6) tt_ok (fun _ h => nomatch h) (by simp) rfl ?_
    simp only [go_sem, Nat.reduceBEq, Nat.reduceEqDiff, Nat.reduceLT, Nat.reduceLeDiff, Nat.reduceAdd, Nat.reduceSub, Nat.reduceMul, reduceCtorEq, Int.reduceToNat, Int.reduceEq, Int.reduceLT, Int.reduceLE, Int.reduceNe, Int.reduceNeg , or_self, or_false, false_or , List.length_map, bookV]
    refine Br_split (fun hd => ?_) (fun hd => ?_) <;> simp only [go_sem, Nat.reduceBEq, Nat.reduceEqDiff, Nat.reduceLT, Nat.reduceLeDiff, Nat.reduceAdd, Nat.reduceSub, Nat.reduceMul, reduceCtorEq, Int.reduceToNat, Int.reduceEq, Int.reduceLT, Int.reduceLE, Int.reduceNe, Int.reduceNeg , or_self, or_false, false_or , List.length_map, hd, hOi]
end Go.Aw
end

section
set_option maxRecDepth 100000
namespace Go.Aw
open Go Go.Proofs Go.Proofs.Try

/-- What can be, between two others, for one rest. -/
def ivl (p c : Sp) (r : Int) : Sp := ⟨max p.lo (c.lo - r), min p.hi (c.hi - r)⟩

def ivlStep (p c : Sp) (s : Sp × Bool) (r : Int) : Sp × Bool :=
  if (ivl p c r).lo > (ivl p c r).hi then s else (⟨min (if s.2 then s.1.lo else (ivl p c r).lo) (ivl p c r).lo, max (if s.2 then s.1.hi else (ivl p c r).hi) (ivl p c r).hi⟩, true)

def IvInv (p c : Sp) (R : List Int) (s : Sp × Bool) : Prop :=
  if s.2 = true then (∃ r ∈ R, (ivl p c r).lo ≤ (ivl p c r).hi ∧ s.1.lo = (ivl p c r).lo) ∧ (∃ r ∈ R, (ivl p c r).lo ≤ (ivl p c r).hi ∧ s.1.hi = (ivl p c r).hi) ∧ ∀ r ∈ R, (ivl p c r).lo ≤ (ivl p c r).hi → s.1.lo ≤ (ivl p c r).lo ∧ (ivl p c r).hi ≤ s.1.hi
  else ∀ r ∈ R, (ivl p c r).lo > (ivl p c r).hi

theorem ivInv_step {p c : Sp} {R : List Int} {s : Sp × Bool} (h : IvInv p c R s) (r : Int) : IvInv p c (R ++ [r]) (ivlStep p c s r) := by
  obtain ⟨s, ok⟩ := s
  unfold ivlStep
  by_cases he : (ivl p c r).lo > (ivl p c r).hi
  · rw [if_pos he]
    cases ok with
    | true =>
      simp only [IvInv, if_true] at h ⊢
      obtain ⟨⟨x, hx, h1, h2⟩, ⟨y, hy, h3, h4⟩, h5⟩ := h
      refine ⟨⟨x, List.mem_append_left _ hx, h1, h2⟩, ⟨y, List.mem_append_left _ hy, h3, h4⟩, fun z hz hz2 => ?_⟩
      rcases List.mem_append.1 hz with hz | hz
      · exact h5 z hz hz2
      · obtain rfl : z = r := by simpa using hz
        clear h5; omega
    | false =>
      simp only [IvInv, Bool.false_eq_true, if_false] at h ⊢
      intro z hz
      rcases List.mem_append.1 hz with hz | hz
      · exact h z hz
      · obtain rfl : z = r := by simpa using hz
        exact he
  · rw [if_neg he]
    have he' : (ivl p c r).lo ≤ (ivl p c r).hi := by omega
    cases ok with
    | true =>
      simp only [IvInv, if_true] at h ⊢
      obtain ⟨⟨x, hx, h1, h2⟩, ⟨y, hy, h3, h4⟩, h5⟩ := h
      refine ⟨?_, ?_, fun z hz hz2 => ?_⟩
      · by_cases hm : s.lo ≤ (ivl p c r).lo
        · exact ⟨x, List.mem_append_left _ hx, h1, by rw [← h2]; clear h5; omega⟩
        · exact ⟨r, by simp, he', by clear h5; omega⟩
      · by_cases hm : (ivl p c r).hi ≤ s.hi
        · exact ⟨y, List.mem_append_left _ hy, h3, by rw [← h4]; clear h5; omega⟩
        · exact ⟨r, by simp, he', by clear h5; omega⟩
      · rcases List.mem_append.1 hz with hz | hz
        · have := h5 z hz hz2; clear h5; omega
        · obtain rfl : z = r := by simpa using hz
          clear h5; omega
    | false =>
      simp only [IvInv, Bool.false_eq_true, if_false, if_true] at h ⊢
      refine ⟨⟨r, by simp, he', by omega⟩, ⟨r, by simp, he', by omega⟩, fun z hz hz2 => ?_⟩
      rcases List.mem_append.1 hz with hz | hz
      · have := h z hz; omega
      · obtain rfl : z = r := by simpa using hz
        omega

theorem ivInv_fold {p c : Sp} : ∀ (l R : List Int) (s : Sp × Bool), IvInv p c R s → IvInv p c (R ++ l) (l.foldl (ivlStep p c) s)
  | [], R, s, h => by simpa using h
  | r :: l, R, s, h => by
    have := ivInv_fold l (R ++ [r]) _ (ivInv_step h r)
    simpa using this

/-- The reference's amounts, one by one. -/
def hitsR (y : Ent) (c : Sp) (R : List Int) (m : Nat) : List Int := (R.filter fun r => within c.lo c.hi [wr (r + amtN y m)]).map fun _ => amtN y m

def allHits (y : Ent) (c : Sp) (R : List Int) : Nat → List Int
  | 0 => []
  | m + 1 => allHits y c R m ++ hitsR y c R (m + 1)

theorem amtRow_hits (y : Ent) (c : Sp) (R : List Int) (m : Nat) (s : Sp) : amtRow y c (amtN y m) R s = (hitsR y c R m).foldl (fun s x => wide x s) s := by
  rw [amtRow, hitsR, List.foldl_map]
  induction R generalizing s with
  | nil => rfl
  | cons r R ih =>
    simp only [List.foldl_cons, List.filter_cons]
    rw [ih]
    split <;> simp

theorem amtRs_hits (b : Book) (y : Ent) (c : Sp) : ∀ m, amtRs b y c m = (allHits y c (restsR b y) m).foldl (fun s x => wide x s) ⟨2000, -2000⟩
  | 0 => rfl
  | m + 1 => by rw [amtRs, amtRs_hits b y c m, amtRow_hits, allHits, List.foldl_append]

theorem mem_allHits {y : Ent} {c : Sp} {R : List Int} {a : Int} : ∀ m, a ∈ allHits y c R m ↔ ∃ i, 1 ≤ i ∧ i ≤ m ∧ a = amtN y i ∧ ∃ r ∈ R, within c.lo c.hi [wr (r + a)] = true
  | 0 => by
    simp only [allHits, List.not_mem_nil, false_iff]
    rintro ⟨i, h1, h2, _⟩; omega
  | m + 1 => by
    rw [allHits, List.mem_append, mem_allHits m]
    have e : a ∈ hitsR y c R (m + 1) ↔ a = amtN y (m + 1) ∧ ∃ r ∈ R, within c.lo c.hi [wr (r + a)] = true := by
      simp only [hitsR, List.mem_map, List.mem_filter]
      constructor
      · rintro ⟨r, ⟨h1, h2⟩, rfl⟩; exact ⟨rfl, r, h1, h2⟩
      · rintro ⟨rfl, r, h1, h2⟩; exact ⟨r, ⟨h1, h2⟩, rfl⟩
    rw [e]
    constructor
    · rintro (⟨i, h1, h2, h3⟩ | ⟨h1, h2⟩)
      · exact ⟨i, h1, by omega, h3⟩
      · exact ⟨m + 1, by omega, Nat.le_refl _, h1, h2⟩
    · rintro ⟨i, h1, h2, h3, h4⟩
      by_cases hi : i = m + 1
      · subst hi; exact .inr ⟨h3, h4⟩
      · exact .inl ⟨i, h1, by omega, h3, h4⟩

/-- Rests that can be. -/
def Small (l : List Int) : Prop := ∀ r ∈ l, -200000 ≤ r ∧ r ≤ 200000

theorem restsR_small {b : Book} (h : b.Ok) {y : Ent} (hy : y ∈ b.ents) : Small (restsR b y) ∧ restsR b y = (truthsB b y.goods.toNat).map fun x => restR b y.goods.toNat 365 x - y.amount := by
  obtain ⟨v1, ⟨v2, v3⟩, ⟨v4, v4'⟩, v5⟩ := h.ev y hy
  have hg : y.goods.toNat < b.stock.length := by omega
  have bd : ∀ x ∈ truthsB b y.goods.toNat, -150000 ≤ restR b y.goods.toNat 365 x ∧ restR b y.goods.toNat 365 x ≤ 150000 := by
    intro x hx
    have hw : Wthn (spansB b y.goods.toNat) x := by
      obtain ⟨z, hz, e⟩ := (mem_truthsL _ _ _).1 hx
      rw [show x = z by simpa using e]; exact hz
    rw [rest_eq h hg 365 hw]
    obtain ⟨k0, k1, k2, k3⟩ := acct_bounds h hg 365
    have htk : ∀ k, 0 ≤ x.getD k 0 ∧ x.getD k 0 ≤ 50 := fun k => by
      have := hw.get _ _ k
      rw [spansB_get] at this
      have := h.span y.goods.toNat k
      omega
    have q0 := mul_le k1.1 k1.2 (htk 0).1 (htk 0).2
    have q1 := mul_le k2.1 k2.2 (htk 1).1 (htk 1).2
    have q2 := mul_le k3.1 k3.2 (htk 2).1 (htk 2).2
    omega
  have e : restsR b y = (truthsB b y.goods.toNat).map fun x => restR b y.goods.toNat 365 x - y.amount := by
    apply List.map_congr_left
    intro x hx
    have := bd x hx
    exact w64 (by omega) (by omega)
  refine ⟨?_, e⟩
  rw [e]
  intro r hr
  obtain ⟨x, hx, rfl⟩ := List.mem_map.1 hr
  have := bd x hx
  omega

theorem foldl_congr_mem {α β : Type} {f g : β → α → β} : ∀ (l : List α) (s : β), (∀ s, ∀ x ∈ l, f s x = g s x) → l.foldl f s = l.foldl g s
  | [], _, _ => rfl
  | x :: r, s, h => by
    simp only [List.foldl_cons]
    rw [h s x (by simp), foldl_congr_mem r _ fun s y hy => h s y (List.mem_cons_of_mem _ hy)]

theorem amtW_ivl {b : Book} (h : b.Ok) {y : Ent} (hy : y ∈ b.ents) {c : Sp} (h0 : 0 ≤ c.lo) (h1 : c.lo ≤ c.hi) (h2 : c.hi ≤ 100000) : amtW b y c = (restsR b y).foldl (ivlStep (amtCan y) c) (⟨0, 0⟩, false) := by
  obtain ⟨v1, ⟨v2, v3⟩, ⟨v4, v4'⟩, v5⟩ := h.ev y hy
  have hg : y.goods.toNat < b.stock.length := by omega
  obtain ⟨hs, e⟩ := restsR_small h hy
  rw [e] at hs ⊢
  rw [amtW, truL_eq h hg, List.foldl_map, List.foldl_map]
  apply foldl_congr_mem
  intro s x hx
  have hr := hs _ (List.mem_map_of_mem hx)
  have w1 : wr (restR b y.goods.toNat 365 x - y.amount) = restR b y.goods.toNat 365 x - y.amount := w64 (by omega) (by omega)
  have w2 : ∀ n : Int, 0 ≤ n → n ≤ 100000 → wr (n - (restR b y.goods.toNat 365 x - y.amount)) = n - (restR b y.goods.toNat 365 x - y.amount) := fun n a b => w64 (by omega) (by omega)
  have e : amtOf y c (restR b y.goods.toNat 365 x) = ivl (amtCan y) c (restR b y.goods.toNat 365 x - y.amount) := by
    simp only [amtOf, ivl, w1, w2 c.lo (by omega) (by omega), w2 c.hi (by omega) (by omega)]
  simp only [amtStep, ivlStep, e]

theorem amtN_can {y : Ent} {a : Int} : (∃ i, 1 ≤ i ∧ i ≤ 1000 ∧ a = amtN y i) ↔ (amtCan y).lo ≤ a ∧ a ≤ (amtCan y).hi := by
  have w : ∀ i : Nat, i ≤ 1000 → wr (-(i : Int)) = -(i : Int) := fun i hi => w64 (by omega) (by omega)
  unfold amtN amtCan
  split
  · constructor
    · rintro ⟨i, h1, h2, rfl⟩; simp only; rw [w i h2]; omega
    · simp only; intro h; exact ⟨a.natAbs, by omega, by omega, by rw [w _ (by omega)]; omega⟩
  · constructor
    · rintro ⟨i, h1, h2, rfl⟩; simp only; omega
    · simp only; intro h; exact ⟨a.natAbs, by omega, by omega, by omega⟩

/-- Both are one. -/
theorem amounts_eq {b : Book} (h : b.Ok) {y : Ent} (hy : y ∈ b.ents) {c : Sp} (h0 : 0 ≤ c.lo) (h1 : c.lo ≤ c.hi) (h2 : c.hi ≤ 100000) :
    ((amtW b y c).2 = true ↔ (amtRs b y c 1000).lo ≤ (amtRs b y c 1000).hi) ∧ ((amtW b y c).2 = true → (amtW b y c).1 = amtRs b y c 1000) := by
  obtain ⟨hs, _⟩ := restsR_small h hy
  have hi := ivInv_fold (p := amtCan y) (c := c) (restsR b y) [] (⟨0, 0⟩, false) (by simp [IvInv])
  rw [List.nil_append] at hi
  rw [amtW_ivl h hy h0 h1 h2, amtRs_hits]
  generalize (restsR b y).foldl (ivlStep (amtCan y) c) (⟨0, 0⟩, false) = s at *
  generalize restsR b y = R at *
  have hm : ∀ a, a ∈ allHits y c R 1000 ↔ ∃ r ∈ R, (ivl (amtCan y) c r).lo ≤ a ∧ a ≤ (ivl (amtCan y) c r).hi := by
    intro a
    rw [mem_allHits]
    have hc := amtN_can (y := y) (a := a)
    have hcan : -1000 ≤ (amtCan y).lo ∧ (amtCan y).hi ≤ 1000 := by unfold amtCan; split <;> simp
    constructor
    · rintro ⟨i, g1, g2, g3, r, hr, hw⟩
      obtain ⟨c1, c2⟩ := hc.1 ⟨i, g1, g2, g3⟩
      have hr' := hs r hr
      have hw' := within_one hw
      rw [show wr (r + a) = r + a from w64 (by omega) (by omega)] at hw'
      refine ⟨r, hr, ?_⟩
      simp only [ivl]; omega
    · rintro ⟨r, hr, g1, g2⟩
      have hr' := hs r hr
      simp only [ivl] at g1 g2
      obtain ⟨i, k1, k2, k3⟩ := hc.2 ⟨by omega, by omega⟩
      refine ⟨i, k1, k2, k3, r, hr, ?_⟩
      rw [show wr (r + a) = r + a from w64 (by omega) (by omega)]
      rw [within_iff]
      intro n hn
      obtain rfl : n = r + a := by simpa using hn
      omega
  obtain ⟨k1, k2, k3, k4, k5⟩ := wide_fold (fun x => x) (allHits y c R 1000) ⟨2000, -2000⟩
  generalize (allHits y c R 1000).foldl (fun s x => wide x s) ⟨2000, -2000⟩ = z at *
  simp only at k1 k2 k3 k4 k5
  obtain ⟨⟨slo, shi⟩, ok⟩ := s
  obtain ⟨zlo, zhi⟩ := z
  cases ok with
  | false =>
    simp only [IvInv, Bool.false_eq_true, if_false] at hi
    have hn : ∀ a, ¬ a ∈ allHits y c R 1000 := by
      intro a ha
      obtain ⟨r, hr, g1, g2⟩ := (hm a).1 ha
      have := hi r hr
      omega
    simp only at k4 k5 ⊢
    rcases k4 with k4 | ⟨x, hx, _⟩
    · rcases k5 with k5 | ⟨x, hx, _⟩
      · refine ⟨⟨fun e => (nomatch e), fun e => ?_⟩, fun e => (nomatch e)⟩
        clear hi hn hm k3; omega
      · exact (hn x hx).elim
    · exact (hn x hx).elim
  | true =>
    simp only [IvInv, if_true] at hi
    obtain ⟨⟨x, hx, a1, a2⟩, ⟨u, hu, a3, a4⟩, a5⟩ := hi
    have m1 : slo ∈ allHits y c R 1000 := (hm slo).2 ⟨x, hx, by omega, by omega⟩
    have m2 : shi ∈ allHits y c R 1000 := (hm shi).2 ⟨u, hu, by omega, by omega⟩
    have e1 := k3 _ m1
    have e2 := k3 _ m2
    have bd : ∀ a ∈ allHits y c R 1000, (slo ≤ a ∧ a ≤ shi) ∧ (-1000 ≤ a ∧ a ≤ 1000) := by
      intro a ha
      obtain ⟨r, hr, g1, g2⟩ := (hm a).1 ha
      have := a5 r hr (by omega)
      have hcan : -1000 ≤ (amtCan y).lo ∧ (amtCan y).hi ≤ 1000 := by unfold amtCan; split <;> simp
      simp only [ivl] at *
      clear a5 hm k3 k4 k5
      omega
    have b1 := bd _ m1
    have b2 := bd _ m2
    simp only at e1 e2 k4 k5 ⊢
    have e3 : slo ≤ zlo := by
      rcases k4 with k4 | ⟨v, hv, k4⟩
      · clear bd hm a5 k3 k5; omega
      · have := bd v hv; clear bd hm a5 k3 k5; omega
    have e4 : zhi ≤ shi := by
      rcases k5 with k5 | ⟨v, hv, k5⟩
      · clear bd hm a5 k3 k4; omega
      · have := bd v hv; clear bd hm a5 k3 k4; omega
    clear bd hm a5 k3 k4 k5
    refine ⟨⟨fun _ => (by omega), fun _ => trivial⟩, fun _ => ?_⟩
    rw [show slo = zlo by omega, show shi = zhi by omega]
end Go.Aw
end

section
set_option maxRecDepth 100000
namespace Go.Aw
open Go Go.Proofs Go.Proofs.Try

theorem open_eq (b : Book) (cs : List Sp) : (openP b [cs]).2 = openR b cs := by
  unfold openP openR
  rw [counted_eq]
  by_cases h : checkP b = 0
  · simp [h]
    by_cases hb : badList b.stock.length cs = true
    · simp [hb]
    · simp [hb]
  · simp [h]

theorem open_count {b : Book} {cs : List Sp} (h : openR b cs = 0) : checkP b = 0 ∧ cs.length = b.stock.length ∧ ∀ c ∈ cs, 0 ≤ c.lo ∧ c.lo ≤ c.hi ∧ c.hi ≤ 100000 := by
  have h' := h
  rw [← open_eq] at h'
  obtain ⟨h0, h1, _⟩ := openP_ok h'
  refine ⟨h0, h1, ?_⟩
  unfold openR at h
  rw [if_neg (by simpa using h0)] at h
  have hc : countedR b cs = true := by
    cases hh : countedR b cs with
    | true => rfl
    | false => rw [hh] at h; simp at h
  simp only [countedR, Bool.and_eq_true, Bool.not_eq_true', List.any_eq_false] at hc
  intro c hcm
  have := hc.1 c hcm
  simp at this
  omega

theorem fixes_eq {b : Book} (h : b.Ok) {cs : List Sp} (hc : cs.length = b.stock.length) (hv : ∀ c ∈ cs, 0 ≤ c.lo ∧ c.lo ≤ c.hi ∧ c.hi ≤ 100000) (g : Int) :
    ∀ i, i ≤ b.ents.length → fixI b (cs.getD g.toNat ⟨0, 0⟩) g (b.ents.take i) = fixRs b cs g i
  | 0, _ => by simp [fixI, fixRs]
  | i + 1, hi => by
    have hlt : i < b.ents.length := hi
    rw [fixI_succ b _ g hlt, fixes_eq h hc hv g i (by omega), fixRs, getD_eq hlt]
    congr 1
    have hy := List.getElem_mem hlt
    generalize b.ents[i] = y at *
    unfold fixOne fixRow
    by_cases hg : y.goods = g
    · rw [if_pos hg, if_pos hg]
      obtain ⟨v1, ⟨v2, v3⟩, ⟨v4, v4'⟩, v5⟩ := h.ev y hy
      have hgl : y.goods.toNat < cs.length := by omega
      obtain ⟨c1, c2, c3⟩ := hv _ (List.getElem_mem hgl)
      obtain ⟨e1, e2⟩ := amounts_eq h hy (c := cs[y.goods.toNat]) c1 c2 c3
      rw [← hg, amtsR, getD_eq hgl]
      by_cases hk : (amtW b y cs[y.goods.toNat]).2 = true
      · rw [if_pos hk, if_pos (e1.1 hk), e2 hk]
      · rw [if_neg hk, if_neg (fun e => hk (e1.2 e))]
    · rw [if_neg hg, if_neg hg]

theorem fixP_bad {b : Book} {cs : List Sp} (h : openR b cs ≠ 0) : fixP b cs = ([], openR b cs) := by
  rw [← open_eq] at h ⊢
  simp [fixP, h]

theorem fixP_good {b : Book} {cs : List Sp} (h : openR b cs = 0) : fixP b cs = if (oddRs b cs cs.length).length = 0 then ([], 6) else if fixR b cs = [] then ([], 7) else (fixR b cs, 0) := by
  obtain ⟨h0, h1, h2⟩ := open_count h
  have hok := checkP_ok h0
  rw [← open_eq] at h
  have ho := odd_all hok h1
  unfold fixP fixR
  rw [if_neg (by simpa using h), ho]
  rcases hO : oddRs b cs cs.length with _ | ⟨g, _ | ⟨g2, r⟩⟩
  · simp
  · have e := fixes_eq hok h1 h2 g b.ents.length (Nat.le_refl _)
    rw [List.take_length] at e
    simp only [List.length_singleton, e]; simp
  · simp

theorem fixR_len (b : Book) (cs : List Sp) : (fixR b cs).length ≤ b.ents.length := by
  unfold fixR
  split
  · exact fixRs_len _ _ _ _
  · simp

theorem c5 (b : Book) (cs : List Sp) : PC prog 5 [.d b.d, .d (.sl (cs.map Sp.d))] (.d (.bool true)) := by
  refine PC.run (fun _ => false) tt_ok (fn := f5) (rs := [.tmp 4]) rfl rfl rfl rfl rfl rfl rfl ?_
  simp only [go_sem, Nat.reduceBEq, Nat.reduceEqDiff, Nat.reduceLT, Nat.reduceLeDiff, Nat.reduceAdd, Nat.reduceSub, Nat.reduceMul, reduceCtorEq, Int.reduceToNat, Int.reduceEq, Int.reduceLT, Int.reduceLE, Int.reduceNe, Int.reduceNeg , or_self, or_false, false_or , List.length_map, Book.d]
  refine (c13 b).call rfl rfl rfl ?_
  simp only [go_sem, Nat.reduceBEq, Nat.reduceEqDiff, Nat.reduceLT, Nat.reduceLeDiff, Nat.reduceAdd, Nat.reduceSub, Nat.reduceMul, reduceCtorEq, Int.reduceToNat, Int.reduceEq, Int.reduceLT, Int.reduceLE, Int.reduceNe, Int.reduceNeg , or_self, or_false, false_or , List.length_map]
  refine Br_split (fun h1 => ?_) (fun h1 => ?_) <;> simp only [go_sem, Nat.reduceBEq, Nat.reduceEqDiff, Nat.reduceLT, Nat.reduceLeDiff, Nat.reduceAdd, Nat.reduceSub, Nat.reduceMul, reduceCtorEq, Int.reduceToNat, Int.reduceEq, Int.reduceLT, Int.reduceLE, Int.reduceNe, Int.reduceNeg , or_self, or_false, false_or , List.length_map, h1]
  · refine c14.call rfl rfl rfl ?_
    simp only [go_sem, Nat.reduceBEq, Nat.reduceEqDiff, Nat.reduceLT, Nat.reduceLeDiff, Nat.reduceAdd, Nat.reduceSub, Nat.reduceMul, reduceCtorEq, Int.reduceToNat, Int.reduceEq, Int.reduceLT, Int.reduceLE, Int.reduceNe, Int.reduceNeg , or_self, or_false, false_or , List.length_map]
  refine Br_split (fun h2 => ?_) (fun h2 => ?_) <;> simp only [go_sem, Nat.reduceBEq, Nat.reduceEqDiff, Nat.reduceLT, Nat.reduceLeDiff, Nat.reduceAdd, Nat.reduceSub, Nat.reduceMul, reduceCtorEq, Int.reduceToNat, Int.reduceEq, Int.reduceLT, Int.reduceLE, Int.reduceNe, Int.reduceNeg , or_self, or_false, false_or , List.length_map, h1, h2]
  · refine c14.call rfl rfl rfl ?_
    simp only [go_sem, Nat.reduceBEq, Nat.reduceEqDiff, Nat.reduceLT, Nat.reduceLeDiff, Nat.reduceAdd, Nat.reduceSub, Nat.reduceMul, reduceCtorEq, Int.reduceToNat, Int.reduceEq, Int.reduceLT, Int.reduceLE, Int.reduceNe, Int.reduceNeg , or_self, or_false, false_or , List.length_map]
  have hb := large_fits' h1
  have hcl : cs.length ≤ 20 := by simp at h2; omega
  have hcl2 : cs.length ≤ 4294967296 := by omega
  refine (c15 b hb).call rfl rfl rfl ?_
  have zc : sized 2 (cs.map Sp.d) = true := by simp [sized, Sp.d, dcells]
  simp only [go_sem, Nat.reduceBEq, Nat.reduceEqDiff, Nat.reduceLT, Nat.reduceLeDiff, Nat.reduceAdd, Nat.reduceSub, Nat.reduceMul, reduceCtorEq, Int.reduceToNat, Int.reduceEq, Int.reduceLT, Int.reduceLE, Int.reduceNe, Int.reduceNeg , or_self, or_false, false_or , List.length_map, Book.d, zc, hcl2]
  refine (c32 b cs hb hcl2 fun h => checkP_good h).call rfl rfl rfl ?_
  simp only [go_sem, Nat.reduceBEq, Nat.reduceEqDiff, Nat.reduceLT, Nat.reduceLeDiff, Nat.reduceAdd, Nat.reduceSub, Nat.reduceMul, reduceCtorEq, Int.reduceToNat, Int.reduceEq, Int.reduceLT, Int.reduceLE, Int.reduceNe, Int.reduceNeg , or_self, or_false, false_or , List.length_map]
  refine (c20 b hb).call rfl rfl rfl ?_
  simp only [go_sem, Nat.reduceBEq, Nat.reduceEqDiff, Nat.reduceLT, Nat.reduceLeDiff, Nat.reduceAdd, Nat.reduceSub, Nat.reduceMul, reduceCtorEq, Int.reduceToNat, Int.reduceEq, Int.reduceLT, Int.reduceLE, Int.reduceNe, Int.reduceNeg , or_self, or_false, false_or , List.length_map]
  refine (c21 cs cs hcl2 hcl2).call rfl rfl rfl ?_
  simp only [go_sem, Nat.reduceBEq, Nat.reduceEqDiff, Nat.reduceLT, Nat.reduceLeDiff, Nat.reduceAdd, Nat.reduceSub, Nat.reduceMul, reduceCtorEq, Int.reduceToNat, Int.reduceEq, Int.reduceLT, Int.reduceLE, Int.reduceNe, Int.reduceNeg , or_self, or_false, false_or , List.length_map]
  refine (c27 b hb cs hcl2).call rfl rfl rfl ?_
  simp only [go_sem, Nat.reduceBEq, Nat.reduceEqDiff, Nat.reduceLT, Nat.reduceLeDiff, Nat.reduceAdd, Nat.reduceSub, Nat.reduceMul, reduceCtorEq, Int.reduceToNat, Int.reduceEq, Int.reduceLT, Int.reduceLE, Int.reduceNe, Int.reduceNeg , or_self, or_false, false_or , List.length_map]
  have z0 : ((0 : Nat) : Int) = 0 := rfl
  by_cases hk : openR b cs = 0
  case neg =>
    simp only [go_sem, Nat.reduceBEq, Nat.reduceEqDiff, Nat.reduceLT, Nat.reduceLeDiff, Nat.reduceAdd, Nat.reduceSub, Nat.reduceMul, reduceCtorEq, Int.reduceToNat, Int.reduceEq, Int.reduceLT, Int.reduceLE, Int.reduceNe, Int.reduceNeg , or_self, or_false, false_or , List.length_map, fixP_bad hk, hk, z0]
    refine c14.call rfl rfl rfl ?_
    simp only [go_sem, Nat.reduceBEq, Nat.reduceEqDiff, Nat.reduceLT, Nat.reduceLeDiff, Nat.reduceAdd, Nat.reduceSub, Nat.reduceMul, reduceCtorEq, Int.reduceToNat, Int.reduceEq, Int.reduceLT, Int.reduceLE, Int.reduceNe, Int.reduceNeg , or_self, or_false, false_or , List.length_map]
  obtain ⟨h0, hcs, h3⟩ := open_count hk
  have hok := checkP_ok h0
  have hll : (fixR b cs).length ≤ 4294967296 := by have := fixR_len b cs; have := hok.e12; omega
  simp only [go_sem, Nat.reduceBEq, Nat.reduceEqDiff, Nat.reduceLT, Nat.reduceLeDiff, Nat.reduceAdd, Nat.reduceSub, Nat.reduceMul, reduceCtorEq, Int.reduceToNat, Int.reduceEq, Int.reduceLT, Int.reduceLE, Int.reduceNe, Int.reduceNeg , or_self, or_false, false_or , List.length_map, hk]
  refine (c29 b hok cs hcs).call rfl rfl rfl ?_
  rw [fixP_good hk]
  by_cases hO : (oddRs b cs cs.length).length = 0
  · simp only [go_sem, Nat.reduceBEq, Nat.reduceEqDiff, Nat.reduceLT, Nat.reduceLeDiff, Nat.reduceAdd, Nat.reduceSub, Nat.reduceMul, reduceCtorEq, Int.reduceToNat, Int.reduceEq, Int.reduceLT, Int.reduceLE, Int.reduceNe, Int.reduceNeg , or_self, or_false, false_or , List.length_map, hO, z0]
    refine c14.call rfl rfl rfl ?_
    simp only [go_sem, Nat.reduceBEq, Nat.reduceEqDiff, Nat.reduceLT, Nat.reduceLeDiff, Nat.reduceAdd, Nat.reduceSub, Nat.reduceMul, reduceCtorEq, Int.reduceToNat, Int.reduceEq, Int.reduceLT, Int.reduceLE, Int.reduceNe, Int.reduceNeg , or_self, or_false, false_or , List.length_map]
  have hO' : ¬ ((oddRs b cs cs.length).length : Int) = 0 := by omega
  simp only [go_sem, Nat.reduceBEq, Nat.reduceEqDiff, Nat.reduceLT, Nat.reduceLeDiff, Nat.reduceAdd, Nat.reduceSub, Nat.reduceMul, reduceCtorEq, Int.reduceToNat, Int.reduceEq, Int.reduceLT, Int.reduceLE, Int.reduceNe, Int.reduceNeg , or_self, or_false, false_or , List.length_map, hO, hO']
  refine (c33 b hok cs hcs).call rfl rfl rfl ?_
  by_cases hF : fixR b cs = []
  · simp only [go_sem, Nat.reduceBEq, Nat.reduceEqDiff, Nat.reduceLT, Nat.reduceLeDiff, Nat.reduceAdd, Nat.reduceSub, Nat.reduceMul, reduceCtorEq, Int.reduceToNat, Int.reduceEq, Int.reduceLT, Int.reduceLE, Int.reduceNe, Int.reduceNeg , or_self, or_false, false_or , List.length_map, hF, z0]
    refine c14.call rfl rfl rfl ?_
    simp only [go_sem, Nat.reduceBEq, Nat.reduceEqDiff, Nat.reduceLT, Nat.reduceLeDiff, Nat.reduceAdd, Nat.reduceSub, Nat.reduceMul, reduceCtorEq, Int.reduceToNat, Int.reduceEq, Int.reduceLT, Int.reduceLE, Int.reduceNe, Int.reduceNeg , or_self, or_false, false_or , List.length_map]
  have hF' : ((fixR b cs).length : Int) > 0 := by have := List.length_pos_iff.2 hF; omega
  simp only [go_sem, Nat.reduceBEq, Nat.reduceEqDiff, Nat.reduceLT, Nat.reduceLeDiff, Nat.reduceAdd, Nat.reduceSub, Nat.reduceMul, reduceCtorEq, Int.reduceToNat, Int.reduceEq, Int.reduceLT, Int.reduceLE, Int.reduceNe, Int.reduceNeg , or_self, or_false, false_or , List.length_map, hF, hF']
  refine (c34 _ _ hll hll).call rfl rfl rfl ?_
  simp only [go_sem, Nat.reduceBEq, Nat.reduceEqDiff, Nat.reduceLT, Nat.reduceLeDiff, Nat.reduceAdd, Nat.reduceSub, Nat.reduceMul, reduceCtorEq, Int.reduceToNat, Int.reduceEq, Int.reduceLT, Int.reduceLE, Int.reduceNe, Int.reduceNeg , or_self, or_false, false_or , List.length_map]
  refine c14.call rfl rfl rfl ?_
  simp only [go_sem, Nat.reduceBEq, Nat.reduceEqDiff, Nat.reduceLT, Nat.reduceLeDiff, Nat.reduceAdd, Nat.reduceSub, Nat.reduceMul, reduceCtorEq, Int.reduceToNat, Int.reduceEq, Int.reduceLT, Int.reduceLE, Int.reduceNe, Int.reduceNeg , or_self, or_false, false_or , List.length_map]
end Go.Aw
end
