/- The statement LedgerChips: what the code answers is true of any list of sales. Arguments of the program's types. -/
import Derived.Test.YtglcghgokedbcaaL2
set_option linter.unusedSimpArgs false
set_option linter.unusedVariables false

section
namespace Go.Aw
open Go Go.Proofs.Try

theorem badSale_eq (s : Sale) : badSale s = badR s := by
  have : ∀ a b : Bool, (a = true ↔ b = true) → a = b := by decide
  apply this
  simp only [badSale, badR, within, List.any_cons, List.any_nil, Bool.or_false, Bool.or_eq_true, Bool.not_eq_true', Bool.and_eq_false_iff, Bool.not_eq_false', decide_eq_true_eq, decide_eq_false_iff_not]
  omega

theorem chipsL_eq (l : List Sale) : chipsL l = if salesR l ≠ 0 then (⟨0, 0⟩, salesR l) else (l.foldl chipR ⟨0, 0⟩, 0) := by
  have : badSale = badR := funext badSale_eq
  unfold chipsL salesR
  rw [this]
  split
  · simp
  · split <;> simp

theorem c8 (l : List Sale) : PC prog 8 [.d (.sl (l.map Sale.d))] (.d (.bool true)) := by
  refine PC.run (fun _ => false) tt_ok (fn := f8) (rs := [.tmp 2]) rfl rfl rfl rfl rfl rfl rfl ?_
  simp only [go_sem, Nat.reduceBEq, Nat.reduceEqDiff, Nat.reduceLT, Nat.reduceLeDiff, Nat.reduceAdd, Nat.reduceSub, Nat.reduceMul, reduceCtorEq, Int.reduceToNat, Int.reduceEq, Int.reduceLT, Int.reduceLE, Int.reduceNe, Int.reduceNeg , or_self, or_false, false_or , List.length_map]
  refine Br_split (fun h1 => ?_) (fun h1 => ?_) <;> simp only [go_sem, Nat.reduceBEq, Nat.reduceEqDiff, Nat.reduceLT, Nat.reduceLeDiff, Nat.reduceAdd, Nat.reduceSub, Nat.reduceMul, reduceCtorEq, Int.reduceToNat, Int.reduceEq, Int.reduceLT, Int.reduceLE, Int.reduceNe, Int.reduceNeg , or_self, or_false, false_or , List.length_map, h1]
  · refine c14.call rfl rfl rfl ?_
    simp only [go_sem, Nat.reduceBEq, Nat.reduceEqDiff, Nat.reduceLT, Nat.reduceLeDiff, Nat.reduceAdd, Nat.reduceSub, Nat.reduceMul, reduceCtorEq, Int.reduceToNat, Int.reduceEq, Int.reduceLT, Int.reduceLE, Int.reduceNe, Int.reduceNeg , or_self, or_false, false_or , List.length_map]
  have hl : l.length ≤ 30 := by simp at h1; omega
  have hl2 : l.length ≤ 4294967296 := by omega
  have hsz : sized 3 (l.map Sale.d) = true := by simp [sized, Sale.d, dcells]
  simp only [go_sem, Nat.reduceBEq, Nat.reduceEqDiff, Nat.reduceLT, Nat.reduceLeDiff, Nat.reduceAdd, Nat.reduceSub, Nat.reduceMul, reduceCtorEq, Int.reduceToNat, Int.reduceEq, Int.reduceLT, Int.reduceLE, Int.reduceNe, Int.reduceNeg , or_self, or_false, false_or , List.length_map, hsz, hl2]
  refine (c45 l hl2).call rfl rfl rfl ?_
  simp only [go_sem, Nat.reduceBEq, Nat.reduceEqDiff, Nat.reduceLT, Nat.reduceLeDiff, Nat.reduceAdd, Nat.reduceSub, Nat.reduceMul, reduceCtorEq, Int.reduceToNat, Int.reduceEq, Int.reduceLT, Int.reduceLE, Int.reduceNe, Int.reduceNeg , or_self, or_false, false_or , List.length_map, Sp.d]
  refine ALoop.by (S := Nat) (fun i => [(6, .d (.int .i64 i)), (3, .d (.sl (l.map Sale.d))), (0, .d (.sl (l.map Sale.d))), (4, .ptr 0 0), (5, .d (.int .i64 (chipsL l).2))]) (fun _ => [.cells [.d (.int .i64 (chipsL l).1.lo), .d (.int .i64 (chipsL l).1.hi)]]) (fun i => l.length - i) (fun i => i ≤ l.length) 0 (by simp) (fun _ h => nomatch h) (Nat.zero_le _) ?_ ?_
  · exact ForgetTo.same (by simp) (by simp [EWe, Env.look])
  rintro i hi hn
  refine AWP.run (fun _ => false) tt_ok (fun _ h => nomatch h) (by simp) rfl ?_
  simp only [go_sem, Nat.reduceBEq, Nat.reduceEqDiff, Nat.reduceLT, Nat.reduceLeDiff, Nat.reduceAdd, Nat.reduceSub, Nat.reduceMul, reduceCtorEq, Int.reduceToNat, Int.reduceEq, Int.reduceLT, Int.reduceLE, Int.reduceNe, Int.reduceNeg , or_self, or_false, false_or , List.length_map]
  refine Br_split (fun hd => ?_) (fun hd => ?_) <;> simp only [go_sem, Nat.reduceBEq, Nat.reduceEqDiff, Nat.reduceLT, Nat.reduceLeDiff, Nat.reduceAdd, Nat.reduceSub, Nat.reduceMul, reduceCtorEq, Int.reduceToNat, Int.reduceEq, Int.reduceLT, Int.reduceLE, Int.reduceNe, Int.reduceNeg , or_self, or_false, false_or , List.length_map, hd]
  · have hlt : i < l.length := by simpa using hd
    refine ADrw.treeG (fun _ => false) tt_ok (by kernel_rfl) (fun _ => some .S) (.ones [0, 1, 2, 3, 4, 5, 6, 7, 8] .done) (by simp) (fun _ h => nomatch h) rfl rfl (by kernel_rfl) ?_
    simp only [go_sem, Nat.reduceBEq, Nat.reduceEqDiff, Nat.reduceLT, Nat.reduceLeDiff, Nat.reduceAdd, Nat.reduceSub, Nat.reduceMul, reduceCtorEq, Int.reduceToNat, Int.reduceEq, Int.reduceLT, Int.reduceLE, Int.reduceNe, Int.reduceNeg , or_self, or_false, false_or , List.length_map, idx_nat, List.getElem?_map, List.getElem?_eq_getElem hlt, Sale.d]
    exact ⟨i + 1, hlt, by omega, ForgetTo.same (by simp) (by simp [EWe, Env.look, w64 (n := (i : Int) + 1) (by omega) (by omega)])⟩
  refine (c46 l hl2).call rfl rfl rfl ?_
  simp only [go_sem, Nat.reduceBEq, Nat.reduceEqDiff, Nat.reduceLT, Nat.reduceLeDiff, Nat.reduceAdd, Nat.reduceSub, Nat.reduceMul, reduceCtorEq, Int.reduceToNat, Int.reduceEq, Int.reduceLT, Int.reduceLE, Int.reduceNe, Int.reduceNeg , or_self, or_false, false_or , List.length_map]
  rw [chipsL_eq]
  by_cases hs : salesR l = 0
  · simp only [go_sem, Nat.reduceBEq, Nat.reduceEqDiff, Nat.reduceLT, Nat.reduceLeDiff, Nat.reduceAdd, Nat.reduceSub, Nat.reduceMul, reduceCtorEq, Int.reduceToNat, Int.reduceEq, Int.reduceLT, Int.reduceLE, Int.reduceNe, Int.reduceNeg , or_self, or_false, false_or , List.length_map, hs, ne_eq, not_true_eq_false]
    refine ADrw.treeG (fun _ => false) tt_ok (by kernel_rfl) (fun k => if k = 3 then some .L else some .S) (.ones [0, 1, 2, 3, 4, 5, 6, 7, 8, 9, 10, 11] .done) (by simp) (fun _ h => nomatch h) rfl rfl (by kernel_rfl) ?_
    simp only [go_sem, Nat.reduceBEq, Nat.reduceEqDiff, Nat.reduceLT, Nat.reduceLeDiff, Nat.reduceAdd, Nat.reduceSub, Nat.reduceMul, reduceCtorEq, Int.reduceToNat, Int.reduceEq, Int.reduceLT, Int.reduceLE, Int.reduceNe, Int.reduceNeg , or_self, or_false, false_or , List.length_map]
    refine (c47 l hl2).callS rfl rfl rfl rfl rfl rfl ?_
    simp only [go_sem, Nat.reduceBEq, Nat.reduceEqDiff, Nat.reduceLT, Nat.reduceLeDiff, Nat.reduceAdd, Nat.reduceSub, Nat.reduceMul, reduceCtorEq, Int.reduceToNat, Int.reduceEq, Int.reduceLT, Int.reduceLE, Int.reduceNe, Int.reduceNeg , or_self, or_false, false_or , List.length_map, Sp.d]
    refine c14.callS rfl rfl rfl rfl rfl rfl ?_
    simp only [go_sem, Nat.reduceBEq, Nat.reduceEqDiff, Nat.reduceLT, Nat.reduceLeDiff, Nat.reduceAdd, Nat.reduceSub, Nat.reduceMul, reduceCtorEq, Int.reduceToNat, Int.reduceEq, Int.reduceLT, Int.reduceLE, Int.reduceNe, Int.reduceNeg , or_self, or_false, false_or , List.length_map]
  · simp only [go_sem, Nat.reduceBEq, Nat.reduceEqDiff, Nat.reduceLT, Nat.reduceLeDiff, Nat.reduceAdd, Nat.reduceSub, Nat.reduceMul, reduceCtorEq, Int.reduceToNat, Int.reduceEq, Int.reduceLT, Int.reduceLE, Int.reduceNe, Int.reduceNeg , or_self, or_false, false_or , List.length_map, hs, ne_eq, not_false_eq_true]
    refine ADrw.treeG (fun _ => false) tt_ok (by kernel_rfl) (fun k => if k = 4 then some .L else some .S) (.ones [0, 1, 2, 3, 4, 5, 6, 7, 8, 9, 10, 11] .done) (by simp) (fun _ h => nomatch h) rfl rfl (by kernel_rfl) ?_
    simp only [go_sem, Nat.reduceBEq, Nat.reduceEqDiff, Nat.reduceLT, Nat.reduceLeDiff, Nat.reduceAdd, Nat.reduceSub, Nat.reduceMul, reduceCtorEq, Int.reduceToNat, Int.reduceEq, Int.reduceLT, Int.reduceLE, Int.reduceNe, Int.reduceNeg , or_self, or_false, false_or , List.length_map]
    refine (c24 0 0).callS rfl rfl rfl rfl rfl rfl ?_
    simp only [go_sem, Nat.reduceBEq, Nat.reduceEqDiff, Nat.reduceLT, Nat.reduceLeDiff, Nat.reduceAdd, Nat.reduceSub, Nat.reduceMul, reduceCtorEq, Int.reduceToNat, Int.reduceEq, Int.reduceLT, Int.reduceLE, Int.reduceNe, Int.reduceNeg , or_self, or_false, false_or , List.length_map, Sp.d]
    refine c14.callS rfl rfl rfl rfl rfl rfl ?_
    simp only [go_sem, Nat.reduceBEq, Nat.reduceEqDiff, Nat.reduceLT, Nat.reduceLeDiff, Nat.reduceAdd, Nat.reduceSub, Nat.reduceMul, reduceCtorEq, Int.reduceToNat, Int.reduceEq, Int.reduceLT, Int.reduceLE, Int.reduceNe, Int.reduceNeg , or_self, or_false, false_or , List.length_map]
end Go.Aw
end

section
set_option maxRecDepth 100000
namespace Go.Aw
open Go Go.Proofs

theorem has_int {f : Nat} {y : D} (h : HasT Try.prog (f + 1) 3 y) : ∃ n, y = .int .i64 n ∧ (Lit.int .i64 n).wf = true := by
  unfold HasT at h
  rw [Try.underlying3] at h
  exact h

theorem has_sp {f : Nat} {y : D} (h : HasT Try.prog (f + 2) 40 y) : ∃ s : Sp, y = s.d := by
  unfold HasT at h
  rw [Try.underlying40] at h
  obtain ⟨l, rfl, h⟩ := h
  simp only [HasFs] at h
  obtain ⟨y1, r1, rfl, h1, y2, r2, rfl, h2, rfl⟩ := h
  obtain ⟨n1, rfl, _⟩ := has_int h1
  obtain ⟨n2, rfl, _⟩ := has_int h2
  exact ⟨⟨n1, n2⟩, rfl⟩

theorem has_sale {f : Nat} {y : D} (h : HasT Try.prog (f + 3) 80 y) : ∃ s : Sale, y = s.d := by
  unfold HasT at h
  rw [Try.underlying80] at h
  obtain ⟨l, rfl, h⟩ := h
  simp only [HasFs] at h
  obtain ⟨y1, r1, rfl, h1, y2, r2, rfl, h2, rfl⟩ := h
  obtain ⟨s, rfl⟩ := has_sp h1
  obtain ⟨n2, rfl, _⟩ := has_int h2
  exact ⟨⟨s, n2⟩, rfl⟩

theorem has_list {α : Type} {enc : α → D} {p : D → Prop} (he : ∀ y, p y → ∃ s, y = enc s) : ∀ l : List D, (∀ y ∈ l, p y) → ∃ ss : List α, l = ss.map enc
  | [], _ => ⟨[], rfl⟩
  | y :: r, h => by
    obtain ⟨s, rfl⟩ := he y (h y (by simp))
    obtain ⟨ss, rfl⟩ := has_list he r fun z hz => h z (List.mem_cons_of_mem _ hz)
    exact ⟨s :: ss, rfl⟩

theorem has_sales {y : D} (h : HasT Try.prog 4 76 y) : ∃ l : List Sale, y = .sl (l.map Sale.d) := by
  unfold HasT at h
  rw [Try.underlying76] at h
  obtain ⟨l, rfl, _, hl⟩ := h
  obtain ⟨ss, rfl⟩ := has_list (fun y hy => has_sale (f := 0) hy) l hl
  exact ⟨ss, rfl⟩

theorem has_ints {f : Nat} {y : D} (h : HasT Try.prog (f + 2) 22 y) : ∃ l : List Int, y = .sl (l.map (.int .i64)) ∧ l.length ≤ maxLen ∧ ∀ n ∈ l, (Lit.int .i64 n).wf = true := by
  unfold HasT at h
  rw [Try.underlying22] at h
  obtain ⟨l, rfl, h1, hl⟩ := h
  obtain ⟨ss, rfl⟩ := has_list (enc := fun n : {n : Int // (Lit.int .i64 n).wf = true} => D.int .i64 n.1) (fun y hy => by obtain ⟨n, rfl, hn⟩ := has_int hy; exact ⟨⟨n, hn⟩, rfl⟩) l hl
  refine ⟨ss.map Subtype.val, by simp, by simpa using h1, fun n hn => ?_⟩
  obtain ⟨x, _, rfl⟩ := List.mem_map.1 hn
  exact x.2

end Go.Aw
end
