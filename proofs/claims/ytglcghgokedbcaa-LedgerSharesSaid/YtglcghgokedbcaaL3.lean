/- The statement LedgerChips: what the code answers is true of any list of sales. Arguments of the program's types. The reference's Share. The pennies of Share: sorting by what was lost gives the same as picking the greatest again and again. The statement LedgerShares: what the code answers is true of any loss and parts. -/
import Derived.Test.YtglcghgokedbcaaL2
set_option linter.unusedSimpArgs false
set_option linter.unusedVariables false

section
namespace Go.Aw
open Go Go.Proofs.Try

theorem badSale_eq (s : Sale) : badSale s = badR s := by
  have : ∀ a b : Bool, (a = true ↔ b = true) → a = b := by decide
  apply this
  simp only [badSale, badR, within, List.any_cons, List.any_nil, Bool.or_false, Bool.or_eq_true, Bool.not_eq_true', Bool.and_eq_false_iff, Bool.not_eq_false', decide_eq_true_eq, decide_eq_false_iff_not]
  omega

theorem chipsL_eq (l : List Sale) : chipsL l = if salesR l ≠ 0 then (⟨0, 0⟩, salesR l) else (l.foldl chipR ⟨0, 0⟩, 0) := by
  have : badSale = badR := funext badSale_eq
  unfold chipsL salesR
  rw [this]
  split
  · simp
  · split <;> simp

theorem c8 (l : List Sale) : PC prog 8 [.d (.sl (l.map Sale.d))] (.d (.bool true)) := by
  refine PC.run (fun _ => false) tt_ok (fn := f8) (rs := [.tmp 2]) rfl rfl rfl rfl rfl rfl rfl ?_
  simp only [go_sem, Nat.reduceBEq, Nat.reduceEqDiff, Nat.reduceLT, Nat.reduceLeDiff, Nat.reduceAdd, Nat.reduceSub, Nat.reduceMul, reduceCtorEq, Int.reduceToNat, Int.reduceEq, Int.reduceLT, Int.reduceLE, Int.reduceNe, Int.reduceNeg , or_self, or_false, false_or , List.length_map]
  refine Br_split (fun h1 => ?_) (fun h1 => ?_) <;> simp only [go_sem, Nat.reduceBEq, Nat.reduceEqDiff, Nat.reduceLT, Nat.reduceLeDiff, Nat.reduceAdd, Nat.reduceSub, Nat.reduceMul, reduceCtorEq, Int.reduceToNat, Int.reduceEq, Int.reduceLT, Int.reduceLE, Int.reduceNe, Int.reduceNeg , or_self, or_false, false_or , List.length_map, h1]
  · refine c14.call rfl rfl rfl ?_
    simp only [go_sem, Nat.reduceBEq, Nat.reduceEqDiff, Nat.reduceLT, Nat.reduceLeDiff, Nat.reduceAdd, Nat.reduceSub, Nat.reduceMul, reduceCtorEq, Int.reduceToNat, Int.reduceEq, Int.reduceLT, Int.reduceLE, Int.reduceNe, Int.reduceNeg , or_self, or_false, false_or , List.length_map]
  have hl : l.length ≤ 30 := by simp at h1; omega
  have hl2 : l.length ≤ 4294967296 := by omega
  have hsz : sized 3 (l.map Sale.d) = true := by simp [sized, Sale.d, dcells]
  simp only [go_sem, Nat.reduceBEq, Nat.reduceEqDiff, Nat.reduceLT, Nat.reduceLeDiff, Nat.reduceAdd, Nat.reduceSub, Nat.reduceMul, reduceCtorEq, Int.reduceToNat, Int.reduceEq, Int.reduceLT, Int.reduceLE, Int.reduceNe, Int.reduceNeg , or_self, or_false, false_or , List.length_map, hsz, hl2]
  refine (c45 l hl2).call rfl rfl rfl ?_
  simp only [go_sem, Nat.reduceBEq, Nat.reduceEqDiff, Nat.reduceLT, Nat.reduceLeDiff, Nat.reduceAdd, Nat.reduceSub, Nat.reduceMul, reduceCtorEq, Int.reduceToNat, Int.reduceEq, Int.reduceLT, Int.reduceLE, Int.reduceNe, Int.reduceNeg , or_self, or_false, false_or , List.length_map, Sp.d]
  refine ALoop.by (S := Nat) (fun i => [(6, .d (.int .i64 i)), (3, .d (.sl (l.map Sale.d))), (0, .d (.sl (l.map Sale.d))), (4, .ptr 0 0), (5, .d (.int .i64 (chipsL l).2))]) (fun _ => [.cells [.d (.int .i64 (chipsL l).1.lo), .d (.int .i64 (chipsL l).1.hi)]]) (fun i => l.length - i) (fun i => i ≤ l.length) 0 (by simp) (fun _ h => nomatch h) (Nat.zero_le _) ?_ ?_
  · exact ForgetTo.same (by simp) (by simp [EWe, Env.look])
  rintro i hi hn
  refine AWP.run (fun _ => false) tt_ok (fun _ h => nomatch h) (by simp) rfl ?_
  simp only [go_sem, Nat.reduceBEq, Nat.reduceEqDiff, Nat.reduceLT, Nat.reduceLeDiff, Nat.reduceAdd, Nat.reduceSub, Nat.reduceMul, reduceCtorEq, Int.reduceToNat, Int.reduceEq, Int.reduceLT, Int.reduceLE, Int.reduceNe, Int.reduceNeg , or_self, or_false, false_or , List.length_map]
  refine Br_split (fun hd => ?_) (fun hd => ?_) <;> simp only [go_sem, Nat.reduceBEq, Nat.reduceEqDiff, Nat.reduceLT, Nat.reduceLeDiff, Nat.reduceAdd, Nat.reduceSub, Nat.reduceMul, reduceCtorEq, Int.reduceToNat, Int.reduceEq, Int.reduceLT, Int.reduceLE, Int.reduceNe, Int.reduceNeg , or_self, or_false, false_or , List.length_map, hd]
  · have hlt : i < l.length := by simpa using hd
    refine ADrw.treeG (fun _ => false) tt_ok (by kernel_rfl) (fun _ => some .S) (.ones [0, 1, 2, 3, 4, 5, 6, 7, 8] .done) (by simp) (fun _ h => nomatch h) rfl rfl (by kernel_rfl) ?_
    simp only [go_sem, Nat.reduceBEq, Nat.reduceEqDiff, Nat.reduceLT, Nat.reduceLeDiff, Nat.reduceAdd, Nat.reduceSub, Nat.reduceMul, reduceCtorEq, Int.reduceToNat, Int.reduceEq, Int.reduceLT, Int.reduceLE, Int.reduceNe, Int.reduceNeg , or_self, or_false, false_or , List.length_map, idx_nat, List.getElem?_map, List.getElem?_eq_getElem hlt, Sale.d]
    exact ⟨i + 1, hlt, by omega, ForgetTo.same (by simp) (by simp [EWe, Env.look, w64 (n := (i : Int) + 1) (by omega) (by omega)])⟩
  refine (c46 l hl2).call rfl rfl rfl ?_
  simp only [go_sem, Nat.reduceBEq, Nat.reduceEqDiff, Nat.reduceLT, Nat.reduceLeDiff, Nat.reduceAdd, Nat.reduceSub, Nat.reduceMul, reduceCtorEq, Int.reduceToNat, Int.reduceEq, Int.reduceLT, Int.reduceLE, Int.reduceNe, Int.reduceNeg , or_self, or_false, false_or , List.length_map]
  rw [chipsL_eq]
  by_cases hs : salesR l = 0
  · simp only [go_sem, Nat.reduceBEq, Nat.reduceEqDiff, Nat.reduceLT, Nat.reduceLeDiff, Nat.reduceAdd, Nat.reduceSub, Nat.reduceMul, reduceCtorEq, Int.reduceToNat, Int.reduceEq, Int.reduceLT, Int.reduceLE, Int.reduceNe, Int.reduceNeg , or_self, or_false, false_or , List.length_map, hs, ne_eq, not_true_eq_false]
    refine ADrw.treeG (fun _ => false) tt_ok (by kernel_rfl) (fun k => if k = 3 then some .L else some .S) (.ones [0, 1, 2, 3, 4, 5, 6, 7, 8, 9, 10, 11] .done) (by simp) (fun _ h => nomatch h) rfl rfl (by kernel_rfl) ?_
    simp only [go_sem, Nat.reduceBEq, Nat.reduceEqDiff, Nat.reduceLT, Nat.reduceLeDiff, Nat.reduceAdd, Nat.reduceSub, Nat.reduceMul, reduceCtorEq, Int.reduceToNat, Int.reduceEq, Int.reduceLT, Int.reduceLE, Int.reduceNe, Int.reduceNeg , or_self, or_false, false_or , List.length_map]
    refine (c47 l hl2).callS rfl rfl rfl rfl rfl rfl ?_
    simp only [go_sem, Nat.reduceBEq, Nat.reduceEqDiff, Nat.reduceLT, Nat.reduceLeDiff, Nat.reduceAdd, Nat.reduceSub, Nat.reduceMul, reduceCtorEq, Int.reduceToNat, Int.reduceEq, Int.reduceLT, Int.reduceLE, Int.reduceNe, Int.reduceNeg , or_self, or_false, false_or , List.length_map, Sp.d]
    refine c14.callS rfl rfl rfl rfl rfl rfl ?_
    simp only [go_sem, Nat.reduceBEq, Nat.reduceEqDiff, Nat.reduceLT, Nat.reduceLeDiff, Nat.reduceAdd, Nat.reduceSub, Nat.reduceMul, reduceCtorEq, Int.reduceToNat, Int.reduceEq, Int.reduceLT, Int.reduceLE, Int.reduceNe, Int.reduceNeg , or_self, or_false, false_or , List.length_map]
  · simp only [go_sem, Nat.reduceBEq, Nat.reduceEqDiff, Nat.reduceLT, Nat.reduceLeDiff, Nat.reduceAdd, Nat.reduceSub, Nat.reduceMul, reduceCtorEq, Int.reduceToNat, Int.reduceEq, Int.reduceLT, Int.reduceLE, Int.reduceNe, Int.reduceNeg , or_self, or_false, false_or , List.length_map, hs, ne_eq, not_false_eq_true]
    refine ADrw.treeG (fun _ => false) tt_ok (by kernel_rfl) (fun k => if k = 4 then some .L else some .S) (.ones [0, 1, 2, 3, 4, 5, 6, 7, 8, 9, 10, 11] .done) (by simp) (fun _ h => nomatch h) rfl rfl (by kernel_rfl) ?_
    simp only [go_sem, Nat.reduceBEq, Nat.reduceEqDiff, Nat.reduceLT, Nat.reduceLeDiff, Nat.reduceAdd, Nat.reduceSub, Nat.reduceMul, reduceCtorEq, Int.reduceToNat, Int.reduceEq, Int.reduceLT, Int.reduceLE, Int.reduceNe, Int.reduceNeg , or_self, or_false, false_or , List.length_map]
    refine (c24 0 0).callS rfl rfl rfl rfl rfl rfl ?_
    simp only [go_sem, Nat.reduceBEq, Nat.reduceEqDiff, Nat.reduceLT, Nat.reduceLeDiff, Nat.reduceAdd, Nat.reduceSub, Nat.reduceMul, reduceCtorEq, Int.reduceToNat, Int.reduceEq, Int.reduceLT, Int.reduceLE, Int.reduceNe, Int.reduceNeg , or_self, or_false, false_or , List.length_map, Sp.d]
    refine c14.callS rfl rfl rfl rfl rfl rfl ?_
    simp only [go_sem, Nat.reduceBEq, Nat.reduceEqDiff, Nat.reduceLT, Nat.reduceLeDiff, Nat.reduceAdd, Nat.reduceSub, Nat.reduceMul, reduceCtorEq, Int.reduceToNat, Int.reduceEq, Int.reduceLT, Int.reduceLE, Int.reduceNe, Int.reduceNeg , or_self, or_false, false_or , List.length_map]
end Go.Aw
end

section
set_option maxRecDepth 100000
namespace Go.Aw
open Go Go.Proofs

theorem has_int {f : Nat} {y : D} (h : HasT Try.prog (f + 1) 3 y) : ∃ n, y = .int .i64 n ∧ (Lit.int .i64 n).wf = true := by
  unfold HasT at h
  rw [Try.underlying3] at h
  exact h

theorem has_sp {f : Nat} {y : D} (h : HasT Try.prog (f + 2) 40 y) : ∃ s : Sp, y = s.d := by
  unfold HasT at h
  rw [Try.underlying40] at h
  obtain ⟨l, rfl, h⟩ := h
  simp only [HasFs] at h
  obtain ⟨y1, r1, rfl, h1, y2, r2, rfl, h2, rfl⟩ := h
  obtain ⟨n1, rfl, _⟩ := has_int h1
  obtain ⟨n2, rfl, _⟩ := has_int h2
  exact ⟨⟨n1, n2⟩, rfl⟩

theorem has_sale {f : Nat} {y : D} (h : HasT Try.prog (f + 3) 80 y) : ∃ s : Sale, y = s.d := by
  unfold HasT at h
  rw [Try.underlying80] at h
  obtain ⟨l, rfl, h⟩ := h
  simp only [HasFs] at h
  obtain ⟨y1, r1, rfl, h1, y2, r2, rfl, h2, rfl⟩ := h
  obtain ⟨s, rfl⟩ := has_sp h1
  obtain ⟨n2, rfl, _⟩ := has_int h2
  exact ⟨⟨s, n2⟩, rfl⟩

theorem has_list {α : Type} {enc : α → D} {p : D → Prop} (he : ∀ y, p y → ∃ s, y = enc s) : ∀ l : List D, (∀ y ∈ l, p y) → ∃ ss : List α, l = ss.map enc
  | [], _ => ⟨[], rfl⟩
  | y :: r, h => by
    obtain ⟨s, rfl⟩ := he y (h y (by simp))
    obtain ⟨ss, rfl⟩ := has_list he r fun z hz => h z (List.mem_cons_of_mem _ hz)
    exact ⟨s :: ss, rfl⟩

theorem has_sales {y : D} (h : HasT Try.prog 4 76 y) : ∃ l : List Sale, y = .sl (l.map Sale.d) := by
  unfold HasT at h
  rw [Try.underlying76] at h
  obtain ⟨l, rfl, _, hl⟩ := h
  obtain ⟨ss, rfl⟩ := has_list (fun y hy => has_sale (f := 0) hy) l hl
  exact ⟨ss, rfl⟩

theorem has_ints {f : Nat} {y : D} (h : HasT Try.prog (f + 2) 22 y) : ∃ l : List Int, y = .sl (l.map (.int .i64)) ∧ l.length ≤ maxLen ∧ ∀ n ∈ l, (Lit.int .i64 n).wf = true := by
  unfold HasT at h
  rw [Try.underlying22] at h
  obtain ⟨l, rfl, h1, hl⟩ := h
  obtain ⟨ss, rfl⟩ := has_list (enc := fun n : {n : Int // (Lit.int .i64 n).wf = true} => D.int .i64 n.1) (fun y hy => by obtain ⟨n, rfl, hn⟩ := has_int hy; exact ⟨⟨n, hn⟩, rfl⟩) l hl
  refine ⟨ss.map Subtype.val, by simp, by simpa using h1, fun n hn => ?_⟩
  obtain ⟨x, _, rfl⟩ := List.mem_map.1 hn
  exact x.2

end Go.Aw
end

section
namespace Go.Aw
open Go Go.Proofs Go.Proofs.Try

def lostW (pence all : Int) (parts : List Int) (i : Nat) : Int := wr (wr (pence * parts.getD i 0) - wr (qW pence all parts i * all))

/-- The first place of the greatest of the first elements. -/
def argm (l : List Int) : Nat → Nat
  | 0 => 0
  | i + 1 => if l.getD i 0 > l.getD (argm l i) 0 then i else argm l i

theorem argm_lt (l : List Int) : ∀ i, 0 < l.length → i ≤ l.length → argm l i < l.length
  | 0, h, _ => h
  | i + 1, h, hi => by
    simp only [argm]
    split
    · omega
    · exact argm_lt l i h (by omega)

def stepR (s : List Int × List Int) : List Int × List Int := (s.1.set (argm s.2 s.2.length) (wr (s.1.getD (argm s.2 s.2.length) 0 + 1)), s.2.set (argm s.2 s.2.length) (-1))

def iterR : Nat → List Int × List Int → List Int × List Int
  | 0, s => s
  | k + 1, s => stepR (iterR k s)

theorem iterR_len (s : List Int × List Int) : ∀ k, (iterR k s).1.length = s.1.length ∧ (iterR k s).2.length = s.2.length
  | 0 => ⟨rfl, rfl⟩
  | k + 1 => by
    obtain ⟨h1, h2⟩ := iterR_len s k
    simp [iterR, stepR, h1, h2]

def shareR (pence : Int) (parts : List Int) : List Int :=
  (iterR (leftN pence parts.sum parts parts.length).toNat ((List.range parts.length).map (qW pence parts.sum parts), (List.range parts.length).map (lostW pence parts.sum parts))).1

theorem map_range_len {α : Type} (f : Nat → α) (i : Nat) : ((List.range i).map f).length = i := by simp

theorem getD_range {f : Nat → Int} {n i : Nat} (h : i < n) : ((List.range n).map f).getD i 0 = f i := by simp [h]

theorem c44 {pence : Int} {parts : List Int} (h : PartsOk pence parts) (hs : 0 < parts.sum) : PC prog 44 [.d (.int .i64 pence), .d (.sl (parts.map (.int .i64)))] (.d (.sl ((shareR pence parts).map (.int .i64)))) := by
  have hlen := h.len
  have hlf := leftN_lt h hs
  have hl0 : 0 < parts.length := by
    rcases parts with _ | _
    · simp at hs
    · simp
  refine PC.run (fun k => k == 6 || k == 7) tt_ok (fn := f44) (rs := [.tmp 4]) rfl rfl rfl rfl rfl rfl rfl ?_
  simp only [go_sem, Nat.reduceBEq, Nat.reduceEqDiff, Nat.reduceLT, Nat.reduceLeDiff, Nat.reduceAdd, Nat.reduceSub, Nat.reduceMul, reduceCtorEq, Int.reduceToNat, Int.reduceEq, Int.reduceLT, Int.reduceLE, Int.reduceNe, Int.reduceNeg , or_self, or_false, false_or , List.length_map, Bool.or_true, Bool.true_or, Bool.or_false, Bool.false_or]
  refine ALoop.by (S := Nat) (fun i => [(9, .d (.int .i64 i)), (5, .d (.int .i64 (sumP (parts.take i)))), (0, .d (.int .i64 pence)), (1, .d (.sl (parts.map (.int .i64)))), (6, .ref 0 0 0 0), (7, .ref 1 0 0 0), (8, .d (.int .i64 pence))])
    (fun _ => [.arr 1 false [], .arr 1 false []]) (fun i => parts.length - i) (fun i => i ≤ parts.length) 0 (by simp) (fun _ h => nomatch h) (Nat.zero_le _) ?_ ?_
  · exact ForgetTo.same (by simp) (by simp [EWe, Env.look, sumP])
  rintro i hi hn
  refine AWP.run (fun k => k == 6 || k == 7) tt_ok (fun _ h => nomatch h) (by simp) rfl ?_
  simp only [go_sem, Nat.reduceBEq, Nat.reduceEqDiff, Nat.reduceLT, Nat.reduceLeDiff, Nat.reduceAdd, Nat.reduceSub, Nat.reduceMul, reduceCtorEq, Int.reduceToNat, Int.reduceEq, Int.reduceLT, Int.reduceLE, Int.reduceNe, Int.reduceNeg , or_self, or_false, false_or , List.length_map, Bool.or_true, Bool.true_or, Bool.or_false, Bool.false_or]
  refine Br_split (fun hd => ?_) (fun hd => ?_) <;> simp only [go_sem, Nat.reduceBEq, Nat.reduceEqDiff, Nat.reduceLT, Nat.reduceLeDiff, Nat.reduceAdd, Nat.reduceSub, Nat.reduceMul, reduceCtorEq, Int.reduceToNat, Int.reduceEq, Int.reduceLT, Int.reduceLE, Int.reduceNe, Int.reduceNeg , or_self, or_false, false_or , List.length_map, hd, Bool.or_true, Bool.true_or, Bool.or_false, Bool.false_or]
  · have hlt : i < parts.length := by simpa using hd
    simp only [go_sem, Nat.reduceBEq, Nat.reduceEqDiff, Nat.reduceLT, Nat.reduceLeDiff, Nat.reduceAdd, Nat.reduceSub, Nat.reduceMul, reduceCtorEq, Int.reduceToNat, Int.reduceEq, Int.reduceLT, Int.reduceLE, Int.reduceNe, Int.reduceNeg , or_self, or_false, false_or , List.length_map, idx_nat, List.getElem?_map, List.getElem?_eq_getElem hlt, Bool.or_true, Bool.true_or, Bool.or_false, Bool.false_or]
    refine ⟨i + 1, hlt, by omega, ?_⟩
    exact ForgetTo.same (by simp) (by simp [EWe, Env.look, w64 (n := (i : Int) + 1) (by omega) (by omega), sumP, foldl_take _ _ hlt])
  have hnl : ¬ i < parts.length := by simpa using hd
  rw [show parts.take i = parts from List.take_of_length_le (by omega), (sumP_eq h).1]
  have hall : parts.sum ≠ 0 := by omega
  rw [shareR]
  generalize hA : parts.sum = all at hs hall hlf
  refine ALoop.by (S := Nat) (fun i => [(10, .d (.int .i64 i)), (5, .d (.int .i64 all)), (0, .d (.int .i64 pence)), (1, .d (.sl (parts.map (.int .i64)))), (6, .ref 0 i 0 i), (7, .ref 1 i 0 i), (8, .d (.int .i64 (leftN pence all parts i)))])
    (fun i => [rowB ((List.range i).map (qW pence all parts)), rowB ((List.range i).map (lostW pence all parts))]) (fun i => parts.length - i) (fun i => i ≤ parts.length) 0 (by simp) (fun _ h => nomatch h) (Nat.zero_le _) ?_ ?_
  · exact ForgetTo.same' (by simp) (by simp [EWe, Env.look, leftN]) (by simp [rowB])
  clear hi hn hd hnl
  rintro i hi hn
  refine AWP.run (fun k => k == 6 || k == 7) tt_ok (fun _ h => nomatch h) (by simp) rfl ?_
  simp only [go_sem, Nat.reduceBEq, Nat.reduceEqDiff, Nat.reduceLT, Nat.reduceLeDiff, Nat.reduceAdd, Nat.reduceSub, Nat.reduceMul, reduceCtorEq, Int.reduceToNat, Int.reduceEq, Int.reduceLT, Int.reduceLE, Int.reduceNe, Int.reduceNeg , or_self, or_false, false_or , List.length_map, Bool.or_true, Bool.true_or, Bool.or_false, Bool.false_or, rowB]
  refine Br_split (fun hd => ?_) (fun hd => ?_) <;> simp only [go_sem, Nat.reduceBEq, Nat.reduceEqDiff, Nat.reduceLT, Nat.reduceLeDiff, Nat.reduceAdd, Nat.reduceSub, Nat.reduceMul, reduceCtorEq, Int.reduceToNat, Int.reduceEq, Int.reduceLT, Int.reduceLE, Int.reduceNe, Int.reduceNeg , or_self, or_false, false_or , List.length_map, hd, Bool.or_true, Bool.true_or, Bool.or_false, Bool.false_or]
  · have hlt : i < parts.length := by simpa using hd
    have hle : i + 1 ≤ 4294967296 := by omega
    simp only [go_sem, Nat.reduceBEq, Nat.reduceEqDiff, Nat.reduceLT, Nat.reduceLeDiff, Nat.reduceAdd, Nat.reduceSub, Nat.reduceMul, reduceCtorEq, Int.reduceToNat, Int.reduceEq, Int.reduceLT, Int.reduceLE, Int.reduceNe, Int.reduceNeg , or_self, or_false, false_or , List.length_map, Bool.or_true, Bool.true_or, Bool.or_false, Bool.false_or, idx_nat, List.getElem?_map, List.getElem?_eq_getElem hlt, quoO_ne hall]
    refine ADrw.treeG (fun k => k == 6 || k == 7) tt_ok (by kernel_rfl) (fun k => if k = 3 ∨ k = 16 then some .W else some .S) (.ones [0, 1, 2, 3, 4, 5, 6, 7, 8, 9, 10, 11, 12, 13, 14, 15, 16, 17, 18, 19, 20, 21, 22] .done) (by simp) (fun _ h => nomatch h) rfl rfl (by kernel_rfl) ?_
    simp only [go_sem, Nat.reduceBEq, Nat.reduceEqDiff, Nat.reduceLT, Nat.reduceLeDiff, Nat.reduceAdd, Nat.reduceSub, Nat.reduceMul, reduceCtorEq, Int.reduceToNat, Int.reduceEq, Int.reduceLT, Int.reduceLE, Int.reduceNe, Int.reduceNeg , or_self, or_false, false_or , List.length_map, Bool.or_true, Bool.true_or, Bool.or_false, Bool.false_or, idx_nat, List.getElem?_map, List.getElem?_eq_getElem hlt, List.length_range, List.length_map, hle]
    refine ⟨i + 1, hlt, by omega, ?_⟩
    exact ForgetTo.same' (by simp) (by simp [EWe, Env.look, w64 (n := (i : Int) + 1) (by omega) (by omega), leftN, qW, hlt]) (by simp [rowB, List.range_succ, qW, lostW, hlt])
  have hni : i = parts.length := by have : ¬ i < parts.length := by simpa using hd
                                    omega
  rw [hni]
  obtain ⟨lf, hlfe⟩ : ∃ lf : Nat, leftN pence all parts parts.length = lf := ⟨(leftN pence all parts parts.length).toNat, by omega⟩
  rw [hlfe] at hlf ⊢
  obtain ⟨n, hnn⟩ : ∃ n, parts.length = n := ⟨_, rfl⟩
  rw [hnn] at hlf hl0 hlen ⊢
  clear hi hn hd hni
  generalize hS0 : ((List.range n).map (qW pence all parts), (List.range n).map (lostW pence all parts)) = S0
  have hS1 : (List.range n).map (qW pence all parts) = S0.1 := by rw [← hS0]
  have hS2 : (List.range n).map (lostW pence all parts) = S0.2 := by rw [← hS0]
  rw [hS1, hS2]
  have hl1 : S0.1.length = n := by rw [← hS1]; simp
  have hl2 : S0.2.length = n := by rw [← hS2]; simp
  refine ALoop.by (S := Nat) (fun k => [(6, .ref 0 n 0 n), (7, .ref 1 n 0 n), (8, .d (.int .i64 ((lf : Int) - k)))])
    (fun k => [rowB (iterR k S0).1, rowB (iterR k S0).2]) (fun k => lf - k) (fun k => k ≤ lf) 0 (by simp) (fun _ h => nomatch h) (Nat.zero_le _) ?_ ?_
  · exact ForgetTo.same' (by simp) (by simp [EWe, Env.look]) (by simp [iterR, rowB])
  rintro k hk hn
  refine AWP.run (fun k => k == 6 || k == 7) tt_ok (fun _ h => nomatch h) (by simp) rfl ?_
  simp only [go_sem, Nat.reduceBEq, Nat.reduceEqDiff, Nat.reduceLT, Nat.reduceLeDiff, Nat.reduceAdd, Nat.reduceSub, Nat.reduceMul, reduceCtorEq, Int.reduceToNat, Int.reduceEq, Int.reduceLT, Int.reduceLE, Int.reduceNe, Int.reduceNeg , or_self, or_false, false_or , List.length_map, Bool.or_true, Bool.true_or, Bool.or_false, Bool.false_or, rowB]
  obtain ⟨k1, k2⟩ := iterR_len S0 k
  rw [hl1] at k1
  rw [hl2] at k2
  refine Br_split (fun hd => ?_) (fun hd => ?_) <;> simp only [go_sem, Nat.reduceBEq, Nat.reduceEqDiff, Nat.reduceLT, Nat.reduceLeDiff, Nat.reduceAdd, Nat.reduceSub, Nat.reduceMul, reduceCtorEq, Int.reduceToNat, Int.reduceEq, Int.reduceLT, Int.reduceLE, Int.reduceNe, Int.reduceNeg , or_self, or_false, false_or , List.length_map, hd, Bool.or_true, Bool.true_or, Bool.or_false, Bool.false_or]
  · have hkl : k < lf := by have : 0 < (lf : Int) - k := by simpa using hd
                            omega
    have hst : iterR (k + 1) S0 = stepR (iterR k S0) := rfl
    generalize iterR k S0 = Sk at k1 k2 hst ⊢
    refine ALoop.by (S := Nat) (fun j => [(13, .d (.int .i64 j)), (12, .d (.int .i64 (argm Sk.2 j))), (6, .ref 0 n 0 n), (7, .ref 1 n 0 n), (8, .d (.int .i64 ((lf : Int) - k)))])
      (fun j => [rowB Sk.1, rowB Sk.2]) (fun j => n - j) (fun j => j ≤ n) 0 (by simp) (fun _ h => nomatch h) (Nat.zero_le _) ?_ ?_
    · exact ForgetTo.same' (by simp) (by simp [EWe, Env.look, argm]) (by simp [rowB])
    rintro j hj hn
    refine AWP.run (fun k => k == 6 || k == 7) tt_ok (fun _ h => nomatch h) (by simp) rfl ?_
    simp only [go_sem, Nat.reduceBEq, Nat.reduceEqDiff, Nat.reduceLT, Nat.reduceLeDiff, Nat.reduceAdd, Nat.reduceSub, Nat.reduceMul, reduceCtorEq, Int.reduceToNat, Int.reduceEq, Int.reduceLT, Int.reduceLE, Int.reduceNe, Int.reduceNeg , or_self, or_false, false_or , List.length_map, Bool.or_true, Bool.true_or, Bool.or_false, Bool.false_or, rowB, List.length_map, k2]
    have ha := argm_lt Sk.2 j (by omega) (by omega)
    refine Br_split (fun he => ?_) (fun he => ?_) <;> simp only [go_sem, Nat.reduceBEq, Nat.reduceEqDiff, Nat.reduceLT, Nat.reduceLeDiff, Nat.reduceAdd, Nat.reduceSub, Nat.reduceMul, reduceCtorEq, Int.reduceToNat, Int.reduceEq, Int.reduceLT, Int.reduceLE, Int.reduceNe, Int.reduceNeg , or_self, or_false, false_or , List.length_map, he, Bool.or_true, Bool.true_or, Bool.or_false, Bool.false_or]
    · have hjn : j < n := by simpa using he
      have z0 : (0 : Int) ≤ (j : Int) := by omega
      have z1 : (j : Int) < (n : Int) := by omega
      have z2 : (0 : Int) ≤ ((argm Sk.2 j : Nat) : Int) := by omega
      have z3 : ((argm Sk.2 j : Nat) : Int) < (n : Int) := by omega
      have hj2 : j < Sk.2.length := by omega
      refine ADrw.treeG (fun k => k == 6 || k == 7) tt_ok (by kernel_rfl) (fun k => if k = 2 ∨ k = 3 ∨ k = 6 ∨ k = 7 then some .L else some .S) (.ones [0, 1, 2, 3, 4, 5, 6, 7, 8] .done) (by simp) (fun _ h => nomatch h) rfl rfl (by kernel_rfl) ?_
      simp only [go_sem, Nat.reduceBEq, Nat.reduceEqDiff, Nat.reduceLT, Nat.reduceLeDiff, Nat.reduceAdd, Nat.reduceSub, Nat.reduceMul, reduceCtorEq, Int.reduceToNat, Int.reduceEq, Int.reduceLT, Int.reduceLE, Int.reduceNe, Int.reduceNeg , or_self, or_false, false_or , List.length_map, Bool.or_true, Bool.true_or, Bool.or_false, Bool.false_or, z0, z1, z2, z3, Int.toNat_natCast, List.getElem?_map, List.getElem?_eq_getElem hj2, List.getElem?_eq_getElem ha, k2]
      refine Br_split (fun hg => ?_) (fun hg => ?_) <;> simp only [go_sem, Nat.reduceBEq, Nat.reduceEqDiff, Nat.reduceLT, Nat.reduceLeDiff, Nat.reduceAdd, Nat.reduceSub, Nat.reduceMul, reduceCtorEq, Int.reduceToNat, Int.reduceEq, Int.reduceLT, Int.reduceLE, Int.reduceNe, Int.reduceNeg , or_self, or_false, false_or , List.length_map, hg, Bool.or_true, Bool.true_or, Bool.or_false, Bool.false_or]
      · have hg' : Sk.2[argm Sk.2 j] < Sk.2[j] := by simpa using hg
        refine ⟨j + 1, hjn, by omega, ?_⟩
        exact ForgetTo.same' (by simp) (by simp [EWe, Env.look, w64 (n := (j : Int) + 1) (by omega) (by omega), argm, List.getElem?_eq_getElem hj2, List.getElem?_eq_getElem ha, hg']) (by simp [rowB])
      · have hg' : ¬ Sk.2[argm Sk.2 j] < Sk.2[j] := by simpa using hg
        refine ⟨j + 1, hjn, by omega, ?_⟩
        exact ForgetTo.same' (by simp) (by simp [EWe, Env.look, w64 (n := (j : Int) + 1) (by omega) (by omega), argm, List.getElem?_eq_getElem hj2, List.getElem?_eq_getElem ha, hg']) (by simp [rowB])
    · have hje : j = n := by have : ¬ j < n := by simpa using he
                             omega
      rw [hje] at ha ⊢
      have z2 : (0 : Int) ≤ ((argm Sk.2 n : Nat) : Int) := by omega
      have z3 : ((argm Sk.2 n : Nat) : Int) < (n : Int) := by omega
      have ha1 : argm Sk.2 n < Sk.1.length := by omega
      have ha2 : argm Sk.2 n < Sk.2.length := by omega
      simp only [go_sem, Nat.reduceBEq, Nat.reduceEqDiff, Nat.reduceLT, Nat.reduceLeDiff, Nat.reduceAdd, Nat.reduceSub, Nat.reduceMul, reduceCtorEq, Int.reduceToNat, Int.reduceEq, Int.reduceLT, Int.reduceLE, Int.reduceNe, Int.reduceNeg , or_self, or_false, false_or , List.length_map, Bool.or_true, Bool.true_or, Bool.or_false, Bool.false_or, z2, z3, Int.toNat_natCast, List.length_map, List.getElem?_map, List.getElem?_eq_getElem ha1, List.getElem?_eq_getElem ha2, k1, k2, List.length_set]
      refine ⟨k + 1, hkl, by omega, ?_⟩
      exact ForgetTo.same' (by simp) (by simp [EWe, Env.look, w64 (n := (lf : Int) - k - 1) (by omega) (by omega)]; try omega) (by simp [rowB, hst, stepR, k2, List.map_set, List.getElem?_eq_getElem ha1, wr])
  · have hke : k = lf := by have : ¬ 0 < (lf : Int) - k := by simpa using hd
                            omega
    rw [hke] at k1 ⊢
    have ht : ((iterR lf S0).1.map (D.int .i64)).take n = (iterR lf S0).1.map (D.int .i64) := List.take_of_length_le (by simp [k1])
    simp only [go_sem, Nat.reduceBEq, Nat.reduceEqDiff, Nat.reduceLT, Nat.reduceLeDiff, Nat.reduceAdd, Nat.reduceSub, Nat.reduceMul, reduceCtorEq, Int.reduceToNat, Int.reduceEq, Int.reduceLT, Int.reduceLE, Int.reduceNe, Int.reduceNeg , or_self, or_false, false_or , List.length_map, Bool.or_true, Bool.true_or, Bool.or_false, Bool.false_or, k1, ht]
    simp
end Go.Aw
end

section
namespace Go.Aw
open Go Go.Proofs Go.Proofs.Try

theorem getD_set_set {l : List Int} {j : Nat} (hj : j + 1 < l.length) (u v : Int) (a : Nat) : ((l.set (j + 1) u).set j v).getD a 0 = if a = j then v else if a = j + 1 then u else l.getD a 0 := by
  have e : ∀ x : List Int, x.getD a 0 = x[a]?.getD 0 := fun x => by simp
  rw [e, e, List.getElem?_set, List.getElem?_set]
  by_cases h1 : a = j
  · subst h1
    have : a < l.length := by omega
    simp [this]
  · rw [if_neg (Ne.symm h1), if_neg h1]
    by_cases h2 : a = j + 1
    · subst h2; simp [hj]
    · rw [if_neg (Ne.symm h2), if_neg h2]

theorem sink_sorted {T : Int → Int → Prop} {lt : Int → Int → Bool} (tr : ∀ x y z, T x y → T y z → T x z) (m : Nat) : ∀ (j : Nat) (l : List Int), j < l.length → j ≤ m →
    (∀ a b, a < b → b ≤ m → a ≠ j → b ≠ j → T (l.getD a 0) (l.getD b 0)) →
    (∀ b, j < b → b ≤ m → T (l.getD j 0) (l.getD b 0)) →
    (∀ a, a < j → (lt (l.getD j 0) (l.getD a 0) = true → T (l.getD j 0) (l.getD a 0)) ∧ (lt (l.getD j 0) (l.getD a 0) = false → T (l.getD a 0) (l.getD j 0))) →
    ∀ a b, a < b → b ≤ m → T ((sink lt j l).getD a 0) ((sink lt j l).getD b 0)
  | 0, l, _, _, h1, h2, _ => fun a b hab hb => by
    show T (l.getD a 0) (l.getD b 0)
    by_cases ha : a = 0
    · subst ha; exact h2 b hab hb
    · exact h1 a b hab hb ha (by omega)
  | j + 1, l, hl, hm, h1, h2, h3 => by
    simp only [sink]
    split
    · rename_i hlt
      have hv := (h3 j (by omega)).1 hlt
      refine sink_sorted tr m j _ (by simp; omega) (by omega) ?_ ?_ ?_
      · intro a b hab hb ha hbj
        rw [getD_set_set hl, getD_set_set hl, if_neg ha, if_neg hbj]
        by_cases ha1 : a = j + 1
        · rw [if_pos ha1, if_neg (by omega)]; exact h1 j b (by omega) hb (by omega) (by omega)
        · rw [if_neg ha1]
          by_cases hb1 : b = j + 1
          · rw [if_pos hb1]; exact h1 a j (by omega) (by omega) ha1 (by omega)
          · rw [if_neg hb1]; exact h1 a b hab hb ha1 hb1
      · intro b hb hbm
        rw [getD_set_set hl, getD_set_set hl, if_pos rfl, if_neg (by omega)]
        by_cases hb1 : b = j + 1
        · rw [if_pos hb1]; exact hv
        · rw [if_neg hb1]; exact h2 b (by omega) hbm
      · intro a ha
        rw [getD_set_set hl, getD_set_set hl, if_pos rfl, if_neg (by omega), if_neg (by omega)]
        exact h3 a (by omega)
    · rename_i hlt
      have hv := (h3 j (by omega)).2 (by simpa using hlt)
      intro a b hab hb
      by_cases ha : a = j + 1
      · subst ha; exact h2 b hab hb
      · by_cases hb1 : b = j + 1
        · subst hb1
          by_cases haj : a = j
          · subst haj; exact hv
          · exact tr _ _ _ (h1 a j (by omega) (by omega) ha (by omega)) hv
        · exact h1 a b hab hb ha hb1

theorem sink_keeps {lt : Int → Int → Bool} {x : Int} : ∀ (j : Nat) (l : List Int), j < l.length → (∃ a, a ≤ j ∧ l.getD a 0 = x) → ∃ a, a ≤ j ∧ (sink lt j l).getD a 0 = x
  | 0, _, _, h => h
  | j + 1, l, hl, ⟨a, ha, e⟩ => by
    simp only [sink]
    split
    · have far : ∀ (j : Nat) (l : List Int) (b : Nat), j < l.length → j < b → (sink lt j l).getD b 0 = l.getD b 0 := by
        intro j
        induction j with
        | zero => intros; rfl
        | succ j ih =>
          intro l b hl hb
          simp only [sink]
          split
          · rw [ih _ _ (by simp; omega) (by omega), getD_set_set hl, if_neg (by omega), if_neg (by omega)]
          · rfl
      by_cases haj : a = j
      · subst haj
        refine ⟨a + 1, Nat.le_refl _, ?_⟩
        rw [far _ _ _ (by simp; omega) (by omega), getD_set_set hl, if_neg (by omega), if_pos rfl, e]
      · obtain ⟨b, hb, eb⟩ := sink_keeps (lt := lt) (x := x) j ((l.set (j + 1) (l.getD j 0)).set j (l.getD (j + 1) 0)) (by simp; omega) (by
          by_cases ha1 : a = j + 1
          · subst ha1; exact ⟨j, Nat.le_refl _, by rw [getD_set_set hl, if_pos rfl, e]⟩
          · exact ⟨a, by omega, by rw [getD_set_set hl, if_neg haj, if_neg ha1, e]⟩)
        exact ⟨b, by omega, eb⟩
    · exact ⟨a, ha, e⟩

theorem sink_far {lt : Int → Int → Bool} : ∀ (j : Nat) (l : List Int) (b : Nat), j < l.length → j < b → (sink lt j l).getD b 0 = l.getD b 0
  | 0, _, _, _, _ => rfl
  | j + 1, l, b, hl, hb => by
    simp only [sink]
    split
    · rw [sink_far _ _ _ (by simp; omega) (by omega), getD_set_set hl, if_neg (by omega), if_neg (by omega)]
    · rfl

/-- The greater remainder first; among equals the earlier part. -/
def Bef (R : Nat → Int) (x y : Int) : Prop := R y.toNat < R x.toNat ∨ (R x.toNat = R y.toNat ∧ x < y)

theorem Bef.trans {R : Nat → Int} (x y z : Int) (h : Bef R x y) (k : Bef R y z) : Bef R x z := by
  unfold Bef at *; omega

theorem sink_le {lt : Int → Int → Bool} {p : Int → Prop} : ∀ (j : Nat) (l : List Int), j < l.length → (∀ a, a ≤ j → p (l.getD a 0)) → ∀ a, a ≤ j → p ((sink lt j l).getD a 0)
  | 0, _, _, h => h
  | j + 1, l, hl, h => by
    simp only [sink]
    split
    · intro a ha
      by_cases ha1 : a = j + 1
      · subst ha1
        rw [sink_far _ _ _ (by simp; omega) (by omega), getD_set_set hl, if_neg (by omega), if_pos rfl]
        exact h j (by omega)
      · refine sink_le j _ (by simp; omega) (fun a ha => ?_) a (by omega)
        rw [getD_set_set hl]
        by_cases haj : a = j
        · rw [if_pos haj]; exact h _ (Nat.le_refl _)
        · rw [if_neg haj, if_neg (by omega)]; exact h a (by omega)
    · exact h

theorem nats_getD {n i : Nat} (h : i < n) : (nats n).getD i 0 = i := by simp [nats, h]

theorem isort_spec (R : Nat → Int) (lt : Int → Int → Bool) (hlt : ∀ x y, lt x y = decide (R y.toNat < R x.toNat)) (n : Nat) : ∀ i, i < n →
    (∀ a b, a < b → b ≤ i → Bef R ((isortI lt (nats n) i).getD a 0) ((isortI lt (nats n) i).getD b 0)) ∧
    (∀ b, i < b → (isortI lt (nats n) i).getD b 0 = (nats n).getD b 0) ∧
    (∀ a, a ≤ i → ∃ k : Nat, k ≤ i ∧ (isortI lt (nats n) i).getD a 0 = k) ∧
    (∀ k : Nat, k ≤ i → ∃ a, a ≤ i ∧ (isortI lt (nats n) i).getD a 0 = k)
  | 0, h => ⟨fun a b _ _ => by omega, fun _ _ => rfl, fun a ha => ⟨0, Nat.le_refl _, by rw [Nat.le_zero.1 ha]; exact nats_getD h⟩, fun k hk => ⟨0, Nat.le_refl _, by rw [Nat.le_zero.1 hk]; exact nats_getD h⟩⟩
  | i + 1, h => by
    obtain ⟨h1, h2, h3, h4⟩ := isort_spec R lt hlt n i (by omega)
    have hl : (isortI lt (nats n) i).length = n := by rw [isortI_len]; simp [nats]
    have hv : (isortI lt (nats n) i).getD (i + 1) 0 = ((i + 1 : Nat) : Int) := by rw [h2 _ (by omega)]; exact nats_getD h
    rw [isortI_succ]
    generalize isortI lt (nats n) i = l at *
    refine ⟨?_, ?_, ?_, ?_⟩
    · refine sink_sorted (Bef.trans) (i + 1) (i + 1) l (by omega) (Nat.le_refl _) ?_ ?_ ?_
      · intro a b hab hb ha hb1; exact h1 a b hab (by omega)
      · intro b hb hb1; omega
      · intro a ha
        obtain ⟨k, hk, e⟩ := h3 a (by omega)
        rw [hv, e, hlt]
        simp only [Bef, decide_eq_true_eq, decide_eq_false_iff_not, Int.toNat_natCast]
        constructor <;> intro <;> omega
    · intro b hb; rw [sink_far _ _ _ (by omega) hb]; exact h2 b (by omega)
    · refine sink_le (p := fun x => ∃ k : Nat, k ≤ i + 1 ∧ x = k) (i + 1) l (by omega) fun a ha => ?_
      by_cases ha1 : a = i + 1
      · subst ha1; exact ⟨i + 1, Nat.le_refl _, hv⟩
      · obtain ⟨k, hk, e⟩ := h3 a (by omega); exact ⟨k, by omega, e⟩
    · intro k hk
      refine sink_keeps (i + 1) l (by omega) ?_
      by_cases hk1 : k = i + 1
      · subst hk1; exact ⟨i + 1, Nat.le_refl _, hv⟩
      · obtain ⟨a, ha, e⟩ := h4 k (by omega); exact ⟨a, by omega, e⟩

theorem argm_eq {l : List Int} {x : Nat} : ∀ i, x < i → (∀ j, j < i → l.getD j 0 ≤ l.getD x 0) → (∀ j, j < x → l.getD j 0 < l.getD x 0) → argm l i = x := by
  have spec : ∀ i, 0 < i → argm l i < i ∧ (∀ j, j < i → l.getD j 0 ≤ l.getD (argm l i) 0) ∧ (∀ j, j < argm l i → l.getD j 0 < l.getD (argm l i) 0) := by
    intro i
    induction i with
    | zero => intro h; omega
    | succ i ih =>
      intro _
      by_cases hi : i = 0
      · subst hi
        rw [show argm l (0 + 1) = 0 by simp [argm]]
        refine ⟨by omega, fun j hj => ?_, fun j hj => by omega⟩
        rw [show j = 0 by omega]; exact Int.le_refl _
      · obtain ⟨k1, k2, k3⟩ := ih (by omega)
        simp only [argm]
        split
        · rename_i hg
          refine ⟨by omega, fun j hj => ?_, fun j hj => ?_⟩
          · by_cases hji : j = i
            · rw [hji]; exact Int.le_refl _
            · have := k2 j (by omega); omega
          · have := k2 j hj; omega
        · rename_i hg
          refine ⟨by omega, fun j hj => ?_, k3⟩
          by_cases hji : j = i
          · rw [hji]; omega
          · exact k2 j (by omega)
  intro i hx h1 h2
  obtain ⟨k1, k2, k3⟩ := spec i (by omega)
  have a1 := k2 x hx
  have a2 := h1 _ k1
  rcases Nat.lt_trichotomy (argm l i) x with h | h | h
  · have := h2 _ h; omega
  · exact h
  · have := k3 _ h; omega

theorem iter_eq {Q0 R0 order : List Int} {n : Nat} (hn : 0 < n) (hR : R0.length = n) (ho : order.length = n) (hr : ∀ i, i < n → 0 ≤ R0.getD i 0)
    (hb : ∀ a b, a < b → b < n → Bef (fun i => R0.getD i 0) (order.getD a 0) (order.getD b 0)) (hin : ∀ a, a < n → ∃ k : Nat, k < n ∧ order.getD a 0 = k) (hon : ∀ k : Nat, k < n → ∃ a, a < n ∧ order.getD a 0 = k) :
    ∀ k, k ≤ n → (iterR k (Q0, R0)).1 = incL Q0 (order.take k) ∧ (iterR k (Q0, R0)).2.length = n ∧ (∀ a, a < n → (iterR k (Q0, R0)).2.getD (order.getD a 0).toNat 0 = if a < k then -1 else R0.getD (order.getD a 0).toNat 0)
  | 0, _ => ⟨rfl, hR, fun a ha => by simp [iterR]⟩
  | k + 1, hk => by
    obtain ⟨h1, h2, h3⟩ := iter_eq hn hR ho hr hb hin hon k (by omega)
    obtain ⟨x, hx, ex⟩ := hin k (by omega)
    have hsx : (iterR k (Q0, R0)).2.getD x 0 = R0.getD x 0 := by
      have := h3 k (by omega)
      rw [ex, if_neg (by omega)] at this; simpa using this
    have key : argm (iterR k (Q0, R0)).2 n = x := by
      have all : ∀ j, j < n → j ≠ x → (iterR k (Q0, R0)).2.getD j 0 ≤ R0.getD x 0 ∧ (j < x → (iterR k (Q0, R0)).2.getD j 0 < R0.getD x 0) := by
        intro j hj hjx
        obtain ⟨b, hbn, eb⟩ := hon j hj
        have hj3 := h3 b hbn
        rw [eb, Int.toNat_natCast] at hj3
        have hx0 := hr x hx
        by_cases hbk : b < k
        · rw [if_pos hbk] at hj3; rw [hj3]; omega
        · rw [if_neg hbk] at hj3
          have hbk2 : b ≠ k := by rintro rfl; rw [eb] at ex; omega
          have := hb k b (by omega) hbn
          rw [ex, eb] at this
          simp only [Bef, Int.toNat_natCast] at this
          rw [hj3]; omega
      refine argm_eq n hx (fun j hj => ?_) (fun j hj => ?_)
      · rw [hsx]
        by_cases hjx : j = x
        · rw [hjx, hsx]; exact Int.le_refl _
        · exact (all j hj hjx).1
      · rw [hsx]; exact (all j (by omega) (by omega)).2 hj
    have hst : iterR (k + 1) (Q0, R0) = stepR (iterR k (Q0, R0)) := rfl
    rw [hst]
    simp only [stepR, h2, key]
    refine ⟨?_, by simp [h2], fun a ha => ?_⟩
    · have hko : k < order.length := by omega
      rw [incL_succ hko, h1]
      rw [show order[k] = (x : Int) by rw [← ex, getD_eq hko]]
      simp
    · obtain ⟨y, hy, ey⟩ := hin a ha
      have hy3 := h3 a ha
      rw [ey, Int.toNat_natCast] at hy3 ⊢
      rw [show ∀ l : List Int, l.getD y 0 = l[y]?.getD 0 from fun l => by simp, List.getElem?_set]
      have hxy : x = y ↔ a = k := by
        constructor
        · rintro rfl
          rcases Nat.lt_trichotomy a k with h | h | h
          · have := hb a k h (by omega); rw [ex, ey] at this; simp only [Bef, Int.toNat_natCast] at this; omega
          · exact h
          · have := hb k a h ha; rw [ex, ey] at this; simp only [Bef, Int.toNat_natCast] at this; omega
        · rintro rfl; rw [ex] at ey; omega
      by_cases hak : a = k
      · have := hxy.2 hak
        subst this
        rw [if_pos rfl, if_pos (by omega), if_pos (by omega)]; rfl
      · rw [if_neg fun h => hak (hxy.1 h)]
        have : (iterR k (Q0, R0)).2[y]?.getD 0 = (iterR k (Q0, R0)).2.getD y 0 := by simp
        rw [this, hy3]
        by_cases hlt : a < k
        · rw [if_pos hlt, if_pos (by omega)]
        · rw [if_neg hlt, if_neg (by omega)]
end Go.Aw
end

section
namespace Go.Aw
open Go Go.Proofs Go.Proofs.Try

theorem lost_eq {pence : Int} {parts : List Int} (h : PartsOk pence parts) (hs : 0 < parts.sum) {i : Nat} (hi : i < parts.length) : lostW pence parts.sum parts i = remW pence parts.sum parts i := by
  obtain ⟨m1, m2, m3, _, _, m4, m5⟩ := quo_rem h hs hi
  have hp := h.part _ (List.getElem_mem hi)
  have h0 : 0 ≤ pence * parts[i] := Int.mul_nonneg h.p0 hp.1
  have h1 : pence * parts[i] ≤ 100000000 := by
    calc pence * parts[i] ≤ 100000 * parts[i] := Int.mul_le_mul_of_nonneg_right h.p1 hp.1
      _ ≤ 100000000 := by omega
  have e1 : wr (pence * parts[i]) = pence * parts[i] := w64 (by omega) (by omega)
  have hq : qW pence parts.sum parts i * parts.sum = pence * parts[i] - remW pence parts.sum parts i := by rw [Int.mul_comm]; omega
  have hr := (sumP_eq h).2.2
  have e2 : wr (qW pence parts.sum parts i * parts.sum) = qW pence parts.sum parts i * parts.sum := w64 (by omega) (by omega)
  rw [lostW, getD_eq hi, e1, e2, hq]
  rw [show pence * parts[i] - (pence * parts[i] - remW pence parts.sum parts i) = remW pence parts.sum parts i by omega]
  exact w64 (by omega) (by omega)

theorem cmpI_lt (x y : Int) : decide (cmpI x y < 0) = decide (x < y) := by
  unfold cmpI
  split
  · simp_all
  · split <;> simp_all

theorem shares_eq {pence : Int} {parts : List Int} (h : PartsOk pence parts) (hs : 0 < parts.sum) : sharesW pence parts.sum parts = shareR pence parts := by
  have hlf := leftN_lt h hs
  have hl0 : 0 < parts.length := by
    rcases parts with _ | _
    · simp at hs
    · simp
  have hlm : (List.range parts.length).map (lostW pence parts.sum parts) = (List.range parts.length).map (remW pence parts.sum parts) := by
    apply List.map_congr_left
    intro i hi; exact lost_eq h hs (List.mem_range.1 hi)
  have hrd : ∀ i, i < parts.length → ((List.range parts.length).map (remW pence parts.sum parts)).getD i 0 = remW pence parts.sum parts i := fun i hi => getD_range hi
  obtain ⟨s1, s2, s3, s4⟩ := isort_spec (remW pence parts.sum parts) (ltW pence parts.sum parts) (fun x y => cmpI_lt _ _) parts.length (parts.length - 1) (by omega)
  have hin : ∀ a, a < parts.length → ∃ k : Nat, k < parts.length ∧ (orderW pence parts.sum parts).getD a 0 = k := fun a ha => by
    obtain ⟨k, hk, e⟩ := s3 a (by omega); exact ⟨k, by omega, e⟩
  have it := iter_eq (Q0 := (List.range parts.length).map (qW pence parts.sum parts)) (R0 := (List.range parts.length).map (remW pence parts.sum parts)) (order := orderW pence parts.sum parts) (n := parts.length) hl0 (by simp) (order_len _ _ _)
    (fun i hi => by rw [hrd i hi]; exact (quo_rem h hs hi).2.1)
    (fun a b hab hb => by
      obtain ⟨x, hx, ex⟩ := hin a (by omega)
      obtain ⟨y, hy, ey⟩ := hin b hb
      have := s1 a b hab (by omega)
      rw [show isortI (ltW pence parts.sum parts) (nats parts.length) (parts.length - 1) = orderW pence parts.sum parts from rfl, ex, ey] at this
      rw [ex, ey]
      simp only [Bef, Int.toNat_natCast] at this ⊢
      rw [hrd x hx, hrd y hy]; exact this)
    hin (fun k hk => by obtain ⟨a, ha, e⟩ := s4 k (by omega); exact ⟨a, by omega, e⟩)
    (leftN pence parts.sum parts parts.length).toNat (by omega)
  rw [shareR, hlm, it.1]; rfl

theorem any_pos : ∀ (l : List Int), (∀ p ∈ l, 0 ≤ p) → ((l.any fun p => decide (p > 0)) = true ↔ l.sum ≠ 0)
  | [], _ => by simp
  | p :: r, h => by
    have ih := any_pos r fun q hq => h q (List.mem_cons_of_mem _ hq)
    have h0 := h p (by simp)
    have h1 := sum_nonneg r fun q hq => h q (List.mem_cons_of_mem _ hq)
    rw [List.any_cons, Bool.or_eq_true, ih, List.sum_cons, decide_eq_true_eq]
    omega

theorem inR_iff (n a b : Int) : inR n a b = true ↔ a ≤ n ∧ n ≤ b := by simp [inR]

theorem within_iff (a b : Int) (l : List Int) : within a b l = true ↔ ∀ n ∈ l, a ≤ n ∧ n ≤ b := by
  constructor
  · exact within_all
  · intro h
    simp [within]
    intro x hx
    have := h x hx; omega

/-- What the program answers, in the reference's words. -/
theorem shareP_eq (pence : Int) (parts : List Int) : (shareP pence parts).2 = partsR pence parts ∧ (partsR pence parts ≠ 0 → (shareP pence parts).1 = []) ∧
    (partsR pence parts = 0 → PartsOk pence parts ∧ 0 < parts.sum ∧ (shareP pence parts).1 = shareR pence parts) := by
  by_cases h1 : 0 ≤ pence ∧ pence ≤ 100000
  · have w1 : within 0 100000 [pence] = true := (within_iff _ _ _).2 (by simpa using h1)
    have i1 : inR pence 0 100000 = true := (inR_iff _ _ _).2 h1
    by_cases h2 : ∀ p ∈ parts, 0 ≤ p ∧ p ≤ 1000
    · have w2 : within 0 1000 parts = true := (within_iff _ _ _).2 h2
      have i2 : parts.any (fun p => !inR p 0 1000) = false := by
        rw [List.any_eq_false]; intro p hp; simp [(inR_iff _ _ _).2 (h2 p hp)]
      by_cases h3 : parts.length ≤ 6
      · have ok : PartsOk pence parts := ⟨h1.1, h1.2, h3, h2⟩
        obtain ⟨e1, e2, e3⟩ := sumP_eq ok
        have ap := any_pos parts fun p hp => (h2 p hp).1
        by_cases h4 : parts.sum = 0
        · have a4 : (parts.any fun p => decide (p > 0)) = false := by rw [Bool.eq_false_iff]; intro h; exact ap.1 h h4
          simp [shareP, partsR, w1, i1, w2, i2, e1, h4, a4]
        · have a4 := ap.2 h4
          have hl0 : 0 < parts.length := by
            rcases parts with _ | _
            · simp at h4
            · simp
          have w3 : within 1 6 [(parts.length : Int)] = true := (within_iff _ _ _).2 (by simp; omega)
          have l6 : ¬ parts.length > 6 := by omega
          have hpr : partsR pence parts = 0 := by simp only [partsR, i1, i2, a4]; simp [l6]
          have hsp : shareP pence parts = (sharesW pence parts.sum parts, 0) := by simp [shareP, w1, w2, w3, e1, h4]
          rw [hpr, hsp]
          exact ⟨rfl, fun h => absurd rfl h, fun _ => ⟨ok, by omega, shares_eq ok (by omega)⟩⟩
      · have w3 : within 1 6 [(parts.length : Int)] = false := by
          rw [Bool.eq_false_iff]; intro h; have := (within_iff _ _ _).1 h (parts.length : Int) (by simp); omega
        have l6 : parts.length > 6 := by omega
        simp [shareP, partsR, w1, i1, w3, i2, l6]
    · have w2 : within 0 1000 parts = false := by rw [Bool.eq_false_iff]; intro h; exact h2 ((within_iff _ _ _).1 h)
      have i2 : parts.any (fun p => !inR p 0 1000) = true := by
        rw [← Bool.not_eq_false, List.any_eq_false]
        intro h; apply h2; intro p hp
        have := h p hp
        simp only [Bool.not_eq_true', Bool.not_eq_false] at this
        exact (inR_iff _ _ _).1 this
      simp [shareP, partsR, w1, i1, w2, i2]
  · have w1 : within 0 100000 [pence] = false := by rw [Bool.eq_false_iff]; intro h; exact h1 ((within_iff _ _ _).1 h pence (by simp))
    have i1 : inR pence 0 100000 = false := by rw [Bool.eq_false_iff]; intro h; exact h1 ((inR_iff _ _ _).1 h)
    simp [shareP, partsR, w1, i1]

theorem incLen (xs l : List Int) : (incL l xs).length = l.length := incL_len xs l

theorem c7 (pence : Int) (parts : List Int) : PC prog 7 [.d (.int .i64 pence), .d (.sl (parts.map (.int .i64)))] (.d (.bool true)) := by
  refine PC.run (fun _ => false) tt_ok (fn := f7) (rs := [.tmp 4]) rfl rfl rfl rfl rfl rfl rfl ?_
  simp only [go_sem, Nat.reduceBEq, Nat.reduceEqDiff, Nat.reduceLT, Nat.reduceLeDiff, Nat.reduceAdd, Nat.reduceSub, Nat.reduceMul, reduceCtorEq, Int.reduceToNat, Int.reduceEq, Int.reduceLT, Int.reduceLE, Int.reduceNe, Int.reduceNeg , or_self, or_false, false_or , List.length_map]
  refine Br_split (fun h1 => ?_) (fun h1 => ?_) <;> simp only [go_sem, Nat.reduceBEq, Nat.reduceEqDiff, Nat.reduceLT, Nat.reduceLeDiff, Nat.reduceAdd, Nat.reduceSub, Nat.reduceMul, reduceCtorEq, Int.reduceToNat, Int.reduceEq, Int.reduceLT, Int.reduceLE, Int.reduceNe, Int.reduceNeg , or_self, or_false, false_or , List.length_map, h1]
  · refine c14.call rfl rfl rfl ?_
    simp only [go_sem, Nat.reduceBEq, Nat.reduceEqDiff, Nat.reduceLT, Nat.reduceLeDiff, Nat.reduceAdd, Nat.reduceSub, Nat.reduceMul, reduceCtorEq, Int.reduceToNat, Int.reduceEq, Int.reduceLT, Int.reduceLE, Int.reduceNe, Int.reduceNeg , or_self, or_false, false_or , List.length_map]
  have hl : parts.length ≤ 20 := by simp at h1; omega
  have hl2 : parts.length ≤ 4294967296 := by omega
  obtain ⟨e1, e2, e3⟩ := shareP_eq pence parts
  have hsz : sized 1 (parts.map (D.int .i64)) = true := by simp [sized, dcells]
  simp only [go_sem, Nat.reduceBEq, Nat.reduceEqDiff, Nat.reduceLT, Nat.reduceLeDiff, Nat.reduceAdd, Nat.reduceSub, Nat.reduceMul, reduceCtorEq, Int.reduceToNat, Int.reduceEq, Int.reduceLT, Int.reduceLE, Int.reduceNe, Int.reduceNeg , or_self, or_false, false_or , List.length_map, hl2, hsz]
  refine (c42 pence parts hl2).call rfl rfl rfl ?_
  simp only [go_sem, Nat.reduceBEq, Nat.reduceEqDiff, Nat.reduceLT, Nat.reduceLeDiff, Nat.reduceAdd, Nat.reduceSub, Nat.reduceMul, reduceCtorEq, Int.reduceToNat, Int.reduceEq, Int.reduceLT, Int.reduceLE, Int.reduceNe, Int.reduceNeg , or_self, or_false, false_or , List.length_map]
  refine (c28 parts parts hl2 hl2).call rfl rfl rfl ?_
  simp only [go_sem, Nat.reduceBEq, Nat.reduceEqDiff, Nat.reduceLT, Nat.reduceLeDiff, Nat.reduceAdd, Nat.reduceSub, Nat.reduceMul, reduceCtorEq, Int.reduceToNat, Int.reduceEq, Int.reduceLT, Int.reduceLE, Int.reduceNe, Int.reduceNeg , or_self, or_false, false_or , List.length_map]
  refine (c43 pence parts hl2).call rfl rfl rfl ?_
  simp only [go_sem, Nat.reduceBEq, Nat.reduceEqDiff, Nat.reduceLT, Nat.reduceLeDiff, Nat.reduceAdd, Nat.reduceSub, Nat.reduceMul, reduceCtorEq, Int.reduceToNat, Int.reduceEq, Int.reduceLT, Int.reduceLE, Int.reduceNe, Int.reduceNeg , or_self, or_false, false_or , List.length_map]
  by_cases hz : partsR pence parts = 0
  · obtain ⟨ok, hs, f3⟩ := e3 hz
    have hle : (shareR pence parts).length ≤ 4294967296 := by
      rw [shareR, (iterR_len _ _).1]; simp; omega
    simp only [go_sem, Nat.reduceBEq, Nat.reduceEqDiff, Nat.reduceLT, Nat.reduceLeDiff, Nat.reduceAdd, Nat.reduceSub, Nat.reduceMul, reduceCtorEq, Int.reduceToNat, Int.reduceEq, Int.reduceLT, Int.reduceLE, Int.reduceNe, Int.reduceNeg , or_self, or_false, false_or , List.length_map, hz, e1, f3]
    refine (c44 ok hs).call rfl rfl rfl ?_
    simp only [go_sem, Nat.reduceBEq, Nat.reduceEqDiff, Nat.reduceLT, Nat.reduceLeDiff, Nat.reduceAdd, Nat.reduceSub, Nat.reduceMul, reduceCtorEq, Int.reduceToNat, Int.reduceEq, Int.reduceLT, Int.reduceLE, Int.reduceNe, Int.reduceNeg , or_self, or_false, false_or , List.length_map]
    refine (c28 (shareR pence parts) (shareR pence parts) hle hle).call rfl rfl rfl ?_
    simp only [go_sem, Nat.reduceBEq, Nat.reduceEqDiff, Nat.reduceLT, Nat.reduceLeDiff, Nat.reduceAdd, Nat.reduceSub, Nat.reduceMul, reduceCtorEq, Int.reduceToNat, Int.reduceEq, Int.reduceLT, Int.reduceLE, Int.reduceNe, Int.reduceNeg , or_self, or_false, false_or , List.length_map]
    refine c14.call rfl rfl rfl ?_
    simp only [go_sem, Nat.reduceBEq, Nat.reduceEqDiff, Nat.reduceLT, Nat.reduceLeDiff, Nat.reduceAdd, Nat.reduceSub, Nat.reduceMul, reduceCtorEq, Int.reduceToNat, Int.reduceEq, Int.reduceLT, Int.reduceLE, Int.reduceNe, Int.reduceNeg , or_self, or_false, false_or , List.length_map]
  · have f2 := e2 hz
    have z0 : ((0 : Nat) : Int) = 0 := rfl
    simp only [go_sem, Nat.reduceBEq, Nat.reduceEqDiff, Nat.reduceLT, Nat.reduceLeDiff, Nat.reduceAdd, Nat.reduceSub, Nat.reduceMul, reduceCtorEq, Int.reduceToNat, Int.reduceEq, Int.reduceLT, Int.reduceLE, Int.reduceNe, Int.reduceNeg , or_self, or_false, false_or , List.length_map, hz, e1, f2, z0]
    refine c14.call rfl rfl rfl ?_
    simp only [go_sem, Nat.reduceBEq, Nat.reduceEqDiff, Nat.reduceLT, Nat.reduceLeDiff, Nat.reduceAdd, Nat.reduceSub, Nat.reduceMul, reduceCtorEq, Int.reduceToNat, Int.reduceEq, Int.reduceLT, Int.reduceLE, Int.reduceNe, Int.reduceNeg , or_self, or_false, false_or , List.length_map]
end Go.Aw
end
