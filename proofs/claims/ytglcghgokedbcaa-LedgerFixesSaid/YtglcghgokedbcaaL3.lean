/- The statement LedgerChips: what the code answers is true of any list of sales. Arguments of the program's types. The reference's Share. The pennies of Share: sorting by what was lost gives the same as picking the greatest again and again. The statement LedgerShares: what the code answers is true of any loss and parts. The reference's Check. The law's large; the reference's Same, Left's ends, Counted. The reference's Same, of a book and itself; Counted. The reference's Copy. The reference's Truths. The reference's Rest. The reference's Left and Counted. What is left: the ends of the account's span are those of the truths. The statement LedgerLefts: what the code answers is true of any book and counts. Books and spans as arguments. The reference's Days and Low. The reference's Buy. Low and Buy: the program's days are the reference's. The statement LedgerLows: what the code answers is true of any book, goods and days. -/
import Derived.Test.YtglcghgokedbcaaL2
set_option linter.unusedSimpArgs false
set_option linter.unusedVariables false

section
namespace Go.Aw
open Go Go.Proofs.Try

theorem badSale_eq (s : Sale) : badSale s = badR s := by
  have : ∀ a b : Bool, (a = true ↔ b = true) → a = b := by decide
  apply this
  simp only [badSale, badR, within, List.any_cons, List.any_nil, Bool.or_false, Bool.or_eq_true, Bool.not_eq_true', Bool.and_eq_false_iff, Bool.not_eq_false', decide_eq_true_eq, decide_eq_false_iff_not]
  omega

theorem chipsL_eq (l : List Sale) : chipsL l = if salesR l ≠ 0 then (⟨0, 0⟩, salesR l) else (l.foldl chipR ⟨0, 0⟩, 0) := by
  have : badSale = badR := funext badSale_eq
  unfold chipsL salesR
  rw [this]
  split
  · simp
  · split <;> simp

theorem c8 (l : List Sale) : PC prog 8 [.d (.sl (l.map Sale.d))] (.d (.bool true)) := by
  refine PC.run (fun _ => false) tt_ok (fn := f8) (rs := [.tmp 2]) rfl rfl rfl rfl rfl rfl rfl ?_
  simp only [go_sem, Nat.reduceBEq, Nat.reduceEqDiff, Nat.reduceLT, Nat.reduceLeDiff, Nat.reduceAdd, Nat.reduceSub, Nat.reduceMul, reduceCtorEq, Int.reduceToNat, Int.reduceEq, Int.reduceLT, Int.reduceLE, Int.reduceNe, Int.reduceNeg , or_self, or_false, false_or , List.length_map]
  refine Br_split (fun h1 => ?_) (fun h1 => ?_) <;> simp only [go_sem, Nat.reduceBEq, Nat.reduceEqDiff, Nat.reduceLT, Nat.reduceLeDiff, Nat.reduceAdd, Nat.reduceSub, Nat.reduceMul, reduceCtorEq, Int.reduceToNat, Int.reduceEq, Int.reduceLT, Int.reduceLE, Int.reduceNe, Int.reduceNeg , or_self, or_false, false_or , List.length_map, h1]
  · refine c14.call rfl rfl rfl ?_
    simp only [go_sem, Nat.reduceBEq, Nat.reduceEqDiff, Nat.reduceLT, Nat.reduceLeDiff, Nat.reduceAdd, Nat.reduceSub, Nat.reduceMul, reduceCtorEq, Int.reduceToNat, Int.reduceEq, Int.reduceLT, Int.reduceLE, Int.reduceNe, Int.reduceNeg , or_self, or_false, false_or , List.length_map]
  have hl : l.length ≤ 30 := by simp at h1; omega
  have hl2 : l.length ≤ 4294967296 := by omega
  have hsz : sized 3 (l.map Sale.d) = true := by simp [sized, Sale.d, dcells]
  simp only [go_sem, Nat.reduceBEq, Nat.reduceEqDiff, Nat.reduceLT, Nat.reduceLeDiff, Nat.reduceAdd, Nat.reduceSub, Nat.reduceMul, reduceCtorEq, Int.reduceToNat, Int.reduceEq, Int.reduceLT, Int.reduceLE, Int.reduceNe, Int.reduceNeg , or_self, or_false, false_or , List.length_map, hsz, hl2]
  refine (c45 l hl2).call rfl rfl rfl ?_
  simp only [go_sem, Nat.reduceBEq, Nat.reduceEqDiff, Nat.reduceLT, Nat.reduceLeDiff, Nat.reduceAdd, Nat.reduceSub, Nat.reduceMul, reduceCtorEq, Int.reduceToNat, Int.reduceEq, Int.reduceLT, Int.reduceLE, Int.reduceNe, Int.reduceNeg , or_self, or_false, false_or , List.length_map, Sp.d]
  refine ALoop.by (S := Nat) (fun i => [(6, .d (.int .i64 i)), (3, .d (.sl (l.map Sale.d))), (0, .d (.sl (l.map Sale.d))), (4, .ptr 0 0), (5, .d (.int .i64 (chipsL l).2))]) (fun _ => [.cells [.d (.int .i64 (chipsL l).1.lo), .d (.int .i64 (chipsL l).1.hi)]]) (fun i => l.length - i) (fun i => i ≤ l.length) 0 (by simp) (fun _ h => nomatch h) (Nat.zero_le _) ?_ ?_
  · exact ForgetTo.same (by simp) (by simp [EWe, Env.look])
  rintro i hi hn
  refine AWP.run (fun _ => false) tt_ok (fun _ h => nomatch h) (by simp) rfl ?_
  simp only [go_sem, Nat.reduceBEq, Nat.reduceEqDiff, Nat.reduceLT, Nat.reduceLeDiff, Nat.reduceAdd, Nat.reduceSub, Nat.reduceMul, reduceCtorEq, Int.reduceToNat, Int.reduceEq, Int.reduceLT, Int.reduceLE, Int.reduceNe, Int.reduceNeg , or_self, or_false, false_or , List.length_map]
  refine Br_split (fun hd => ?_) (fun hd => ?_) <;> simp only [go_sem, Nat.reduceBEq, Nat.reduceEqDiff, Nat.reduceLT, Nat.reduceLeDiff, Nat.reduceAdd, Nat.reduceSub, Nat.reduceMul, reduceCtorEq, Int.reduceToNat, Int.reduceEq, Int.reduceLT, Int.reduceLE, Int.reduceNe, Int.reduceNeg , or_self, or_false, false_or , List.length_map, hd]
  · have hlt : i < l.length := by simpa using hd
    refine ADrw.treeG (fun _ => false) tt_ok (by kernel_rfl) (fun _ => some .S) (.ones [0, 1, 2, 3, 4, 5, 6, 7, 8] .done) (by simp) (fun _ h => nomatch h) rfl rfl (by kernel_rfl) ?_
    simp only [go_sem, Nat.reduceBEq, Nat.reduceEqDiff, Nat.reduceLT, Nat.reduceLeDiff, Nat.reduceAdd, Nat.reduceSub, Nat.reduceMul, reduceCtorEq, Int.reduceToNat, Int.reduceEq, Int.reduceLT, Int.reduceLE, Int.reduceNe, Int.reduceNeg , or_self, or_false, false_or , List.length_map, idx_nat, List.getElem?_map, List.getElem?_eq_getElem hlt, Sale.d]
    exact ⟨i + 1, hlt, by omega, ForgetTo.same (by simp) (by simp [EWe, Env.look, w64 (n := (i : Int) + 1) (by omega) (by omega)])⟩
  refine (c46 l hl2).call rfl rfl rfl ?_
  simp only [go_sem, Nat.reduceBEq, Nat.reduceEqDiff, Nat.reduceLT, Nat.reduceLeDiff, Nat.reduceAdd, Nat.reduceSub, Nat.reduceMul, reduceCtorEq, Int.reduceToNat, Int.reduceEq, Int.reduceLT, Int.reduceLE, Int.reduceNe, Int.reduceNeg , or_self, or_false, false_or , List.length_map]
  rw [chipsL_eq]
  by_cases hs : salesR l = 0
  · simp only [go_sem, Nat.reduceBEq, Nat.reduceEqDiff, Nat.reduceLT, Nat.reduceLeDiff, Nat.reduceAdd, Nat.reduceSub, Nat.reduceMul, reduceCtorEq, Int.reduceToNat, Int.reduceEq, Int.reduceLT, Int.reduceLE, Int.reduceNe, Int.reduceNeg , or_self, or_false, false_or , List.length_map, hs, ne_eq, not_true_eq_false]
    refine ADrw.treeG (fun _ => false) tt_ok (by kernel_rfl) (fun k => if k = 3 then some .L else some .S) (.ones [0, 1, 2, 3, 4, 5, 6, 7, 8, 9, 10, 11] .done) (by simp) (fun _ h => nomatch h) rfl rfl (by kernel_rfl) ?_
    simp only [go_sem, Nat.reduceBEq, Nat.reduceEqDiff, Nat.reduceLT, Nat.reduceLeDiff, Nat.reduceAdd, Nat.reduceSub, Nat.reduceMul, reduceCtorEq, Int.reduceToNat, Int.reduceEq, Int.reduceLT, Int.reduceLE, Int.reduceNe, Int.reduceNeg , or_self, or_false, false_or , List.length_map]
    refine (c47 l hl2).callS rfl rfl rfl rfl rfl rfl ?_
    simp only [go_sem, Nat.reduceBEq, Nat.reduceEqDiff, Nat.reduceLT, Nat.reduceLeDiff, Nat.reduceAdd, Nat.reduceSub, Nat.reduceMul, reduceCtorEq, Int.reduceToNat, Int.reduceEq, Int.reduceLT, Int.reduceLE, Int.reduceNe, Int.reduceNeg , or_self, or_false, false_or , List.length_map, Sp.d]
    refine c14.callS rfl rfl rfl rfl rfl rfl ?_
    simp only [go_sem, Nat.reduceBEq, Nat.reduceEqDiff, Nat.reduceLT, Nat.reduceLeDiff, Nat.reduceAdd, Nat.reduceSub, Nat.reduceMul, reduceCtorEq, Int.reduceToNat, Int.reduceEq, Int.reduceLT, Int.reduceLE, Int.reduceNe, Int.reduceNeg , or_self, or_false, false_or , List.length_map]
  · simp only [go_sem, Nat.reduceBEq, Nat.reduceEqDiff, Nat.reduceLT, Nat.reduceLeDiff, Nat.reduceAdd, Nat.reduceSub, Nat.reduceMul, reduceCtorEq, Int.reduceToNat, Int.reduceEq, Int.reduceLT, Int.reduceLE, Int.reduceNe, Int.reduceNeg , or_self, or_false, false_or , List.length_map, hs, ne_eq, not_false_eq_true]
    refine ADrw.treeG (fun _ => false) tt_ok (by kernel_rfl) (fun k => if k = 4 then some .L else some .S) (.ones [0, 1, 2, 3, 4, 5, 6, 7, 8, 9, 10, 11] .done) (by simp) (fun _ h => nomatch h) rfl rfl (by kernel_rfl) ?_
    simp only [go_sem, Nat.reduceBEq, Nat.reduceEqDiff, Nat.reduceLT, Nat.reduceLeDiff, Nat.reduceAdd, Nat.reduceSub, Nat.reduceMul, reduceCtorEq, Int.reduceToNat, Int.reduceEq, Int.reduceLT, Int.reduceLE, Int.reduceNe, Int.reduceNeg , or_self, or_false, false_or , List.length_map]
    refine (c24 0 0).callS rfl rfl rfl rfl rfl rfl ?_
    simp only [go_sem, Nat.reduceBEq, Nat.reduceEqDiff, Nat.reduceLT, Nat.reduceLeDiff, Nat.reduceAdd, Nat.reduceSub, Nat.reduceMul, reduceCtorEq, Int.reduceToNat, Int.reduceEq, Int.reduceLT, Int.reduceLE, Int.reduceNe, Int.reduceNeg , or_self, or_false, false_or , List.length_map, Sp.d]
    refine c14.callS rfl rfl rfl rfl rfl rfl ?_
    simp only [go_sem, Nat.reduceBEq, Nat.reduceEqDiff, Nat.reduceLT, Nat.reduceLeDiff, Nat.reduceAdd, Nat.reduceSub, Nat.reduceMul, reduceCtorEq, Int.reduceToNat, Int.reduceEq, Int.reduceLT, Int.reduceLE, Int.reduceNe, Int.reduceNeg , or_self, or_false, false_or , List.length_map]
end Go.Aw
end

section
set_option maxRecDepth 100000
namespace Go.Aw
open Go Go.Proofs

theorem has_int {f : Nat} {y : D} (h : HasT Try.prog (f + 1) 3 y) : ∃ n, y = .int .i64 n ∧ (Lit.int .i64 n).wf = true := by
  unfold HasT at h
  rw [Try.underlying3] at h
  exact h

theorem has_sp {f : Nat} {y : D} (h : HasT Try.prog (f + 2) 40 y) : ∃ s : Sp, y = s.d := by
  unfold HasT at h
  rw [Try.underlying40] at h
  obtain ⟨l, rfl, h⟩ := h
  simp only [HasFs] at h
  obtain ⟨y1, r1, rfl, h1, y2, r2, rfl, h2, rfl⟩ := h
  obtain ⟨n1, rfl, _⟩ := has_int h1
  obtain ⟨n2, rfl, _⟩ := has_int h2
  exact ⟨⟨n1, n2⟩, rfl⟩

theorem has_sale {f : Nat} {y : D} (h : HasT Try.prog (f + 3) 80 y) : ∃ s : Sale, y = s.d := by
  unfold HasT at h
  rw [Try.underlying80] at h
  obtain ⟨l, rfl, h⟩ := h
  simp only [HasFs] at h
  obtain ⟨y1, r1, rfl, h1, y2, r2, rfl, h2, rfl⟩ := h
  obtain ⟨s, rfl⟩ := has_sp h1
  obtain ⟨n2, rfl, _⟩ := has_int h2
  exact ⟨⟨s, n2⟩, rfl⟩

theorem has_list {α : Type} {enc : α → D} {p : D → Prop} (he : ∀ y, p y → ∃ s, y = enc s) : ∀ l : List D, (∀ y ∈ l, p y) → ∃ ss : List α, l = ss.map enc
  | [], _ => ⟨[], rfl⟩
  | y :: r, h => by
    obtain ⟨s, rfl⟩ := he y (h y (by simp))
    obtain ⟨ss, rfl⟩ := has_list he r fun z hz => h z (List.mem_cons_of_mem _ hz)
    exact ⟨s :: ss, rfl⟩

theorem has_sales {y : D} (h : HasT Try.prog 4 76 y) : ∃ l : List Sale, y = .sl (l.map Sale.d) := by
  unfold HasT at h
  rw [Try.underlying76] at h
  obtain ⟨l, rfl, _, hl⟩ := h
  obtain ⟨ss, rfl⟩ := has_list (fun y hy => has_sale (f := 0) hy) l hl
  exact ⟨ss, rfl⟩

theorem has_ints {f : Nat} {y : D} (h : HasT Try.prog (f + 2) 22 y) : ∃ l : List Int, y = .sl (l.map (.int .i64)) ∧ l.length ≤ maxLen ∧ ∀ n ∈ l, (Lit.int .i64 n).wf = true := by
  unfold HasT at h
  rw [Try.underlying22] at h
  obtain ⟨l, rfl, h1, hl⟩ := h
  obtain ⟨ss, rfl⟩ := has_list (enc := fun n : {n : Int // (Lit.int .i64 n).wf = true} => D.int .i64 n.1) (fun y hy => by obtain ⟨n, rfl, hn⟩ := has_int hy; exact ⟨⟨n, hn⟩, rfl⟩) l hl
  refine ⟨ss.map Subtype.val, by simp, by simpa using h1, fun n hn => ?_⟩
  obtain ⟨x, _, rfl⟩ := List.mem_map.1 hn
  exact x.2

end Go.Aw
end

section
namespace Go.Aw
open Go Go.Proofs Go.Proofs.Try

def lostW (pence all : Int) (parts : List Int) (i : Nat) : Int := wr (wr (pence * parts.getD i 0) - wr (qW pence all parts i * all))

/-- The first place of the greatest of the first elements. -/
def argm (l : List Int) : Nat → Nat
  | 0 => 0
  | i + 1 => if l.getD i 0 > l.getD (argm l i) 0 then i else argm l i

theorem argm_lt (l : List Int) : ∀ i, 0 < l.length → i ≤ l.length → argm l i < l.length
  | 0, h, _ => h
  | i + 1, h, hi => by
    simp only [argm]
    split
    · omega
    · exact argm_lt l i h (by omega)

def stepR (s : List Int × List Int) : List Int × List Int := (s.1.set (argm s.2 s.2.length) (wr (s.1.getD (argm s.2 s.2.length) 0 + 1)), s.2.set (argm s.2 s.2.length) (-1))

def iterR : Nat → List Int × List Int → List Int × List Int
  | 0, s => s
  | k + 1, s => stepR (iterR k s)

theorem iterR_len (s : List Int × List Int) : ∀ k, (iterR k s).1.length = s.1.length ∧ (iterR k s).2.length = s.2.length
  | 0 => ⟨rfl, rfl⟩
  | k + 1 => by
    obtain ⟨h1, h2⟩ := iterR_len s k
    simp [iterR, stepR, h1, h2]

def shareR (pence : Int) (parts : List Int) : List Int :=
  (iterR (leftN pence parts.sum parts parts.length).toNat ((List.range parts.length).map (qW pence parts.sum parts), (List.range parts.length).map (lostW pence parts.sum parts))).1

theorem map_range_len {α : Type} (f : Nat → α) (i : Nat) : ((List.range i).map f).length = i := by simp

theorem getD_range {f : Nat → Int} {n i : Nat} (h : i < n) : ((List.range n).map f).getD i 0 = f i := by simp [h]

theorem c44 {pence : Int} {parts : List Int} (h : PartsOk pence parts) (hs : 0 < parts.sum) : PC prog 44 [.d (.int .i64 pence), .d (.sl (parts.map (.int .i64)))] (.d (.sl ((shareR pence parts).map (.int .i64)))) := by
  have hlen := h.len
  have hlf := leftN_lt h hs
  have hl0 : 0 < parts.length := by
    rcases parts with _ | _
    · simp at hs
    · simp
  refine PC.run (fun k => k == 6 || k == 7) tt_ok (fn := f44) (rs := [.tmp 4]) rfl rfl rfl rfl rfl rfl rfl ?_
  simp only [go_sem, Nat.reduceBEq, Nat.reduceEqDiff, Nat.reduceLT, Nat.reduceLeDiff, Nat.reduceAdd, Nat.reduceSub, Nat.reduceMul, reduceCtorEq, Int.reduceToNat, Int.reduceEq, Int.reduceLT, Int.reduceLE, Int.reduceNe, Int.reduceNeg , or_self, or_false, false_or , List.length_map, Bool.or_true, Bool.true_or, Bool.or_false, Bool.false_or]
  refine ALoop.by (S := Nat) (fun i => [(9, .d (.int .i64 i)), (5, .d (.int .i64 (sumP (parts.take i)))), (0, .d (.int .i64 pence)), (1, .d (.sl (parts.map (.int .i64)))), (6, .ref 0 0 0 0), (7, .ref 1 0 0 0), (8, .d (.int .i64 pence))])
    (fun _ => [.arr 1 false [], .arr 1 false []]) (fun i => parts.length - i) (fun i => i ≤ parts.length) 0 (by simp) (fun _ h => nomatch h) (Nat.zero_le _) ?_ ?_
  · exact ForgetTo.same (by simp) (by simp [EWe, Env.look, sumP])
  rintro i hi hn
  refine AWP.run (fun k => k == 6 || k == 7) tt_ok (fun _ h => nomatch h) (by simp) rfl ?_
  simp only [go_sem, Nat.reduceBEq, Nat.reduceEqDiff, Nat.reduceLT, Nat.reduceLeDiff, Nat.reduceAdd, Nat.reduceSub, Nat.reduceMul, reduceCtorEq, Int.reduceToNat, Int.reduceEq, Int.reduceLT, Int.reduceLE, Int.reduceNe, Int.reduceNeg , or_self, or_false, false_or , List.length_map, Bool.or_true, Bool.true_or, Bool.or_false, Bool.false_or]
  refine Br_split (fun hd => ?_) (fun hd => ?_) <;> simp only [go_sem, Nat.reduceBEq, Nat.reduceEqDiff, Nat.reduceLT, Nat.reduceLeDiff, Nat.reduceAdd, Nat.reduceSub, Nat.reduceMul, reduceCtorEq, Int.reduceToNat, Int.reduceEq, Int.reduceLT, Int.reduceLE, Int.reduceNe, Int.reduceNeg , or_self, or_false, false_or , List.length_map, hd, Bool.or_true, Bool.true_or, Bool.or_false, Bool.false_or]
  · have hlt : i < parts.length := by simpa using hd
    simp only [go_sem, Nat.reduceBEq, Nat.reduceEqDiff, Nat.reduceLT, Nat.reduceLeDiff, Nat.reduceAdd, Nat.reduceSub, Nat.reduceMul, reduceCtorEq, Int.reduceToNat, Int.reduceEq, Int.reduceLT, Int.reduceLE, Int.reduceNe, Int.reduceNeg , or_self, or_false, false_or , List.length_map, idx_nat, List.getElem?_map, List.getElem?_eq_getElem hlt, Bool.or_true, Bool.true_or, Bool.or_false, Bool.false_or]
    refine ⟨i + 1, hlt, by omega, ?_⟩
    exact ForgetTo.same (by simp) (by simp [EWe, Env.look, w64 (n := (i : Int) + 1) (by omega) (by omega), sumP, foldl_take _ _ hlt])
  have hnl : ¬ i < parts.length := by simpa using hd
  rw [show parts.take i = parts from List.take_of_length_le (by omega), (sumP_eq h).1]
  have hall : parts.sum ≠ 0 := by omega
  rw [shareR]
  generalize hA : parts.sum = all at hs hall hlf
  refine ALoop.by (S := Nat) (fun i => [(10, .d (.int .i64 i)), (5, .d (.int .i64 all)), (0, .d (.int .i64 pence)), (1, .d (.sl (parts.map (.int .i64)))), (6, .ref 0 i 0 i), (7, .ref 1 i 0 i), (8, .d (.int .i64 (leftN pence all parts i)))])
    (fun i => [rowB ((List.range i).map (qW pence all parts)), rowB ((List.range i).map (lostW pence all parts))]) (fun i => parts.length - i) (fun i => i ≤ parts.length) 0 (by simp) (fun _ h => nomatch h) (Nat.zero_le _) ?_ ?_
  · exact ForgetTo.same' (by simp) (by simp [EWe, Env.look, leftN]) (by simp [rowB])
  clear hi hn hd hnl
  rintro i hi hn
  refine AWP.run (fun k => k == 6 || k == 7) tt_ok (fun _ h => nomatch h) (by simp) rfl ?_
  simp only [go_sem, Nat.reduceBEq, Nat.reduceEqDiff, Nat.reduceLT, Nat.reduceLeDiff, Nat.reduceAdd, Nat.reduceSub, Nat.reduceMul, reduceCtorEq, Int.reduceToNat, Int.reduceEq, Int.reduceLT, Int.reduceLE, Int.reduceNe, Int.reduceNeg , or_self, or_false, false_or , List.length_map, Bool.or_true, Bool.true_or, Bool.or_false, Bool.false_or, rowB]
  refine Br_split (fun hd => ?_) (fun hd => ?_) <;> simp only [go_sem, Nat.reduceBEq, Nat.reduceEqDiff, Nat.reduceLT, Nat.reduceLeDiff, Nat.reduceAdd, Nat.reduceSub, Nat.reduceMul, reduceCtorEq, Int.reduceToNat, Int.reduceEq, Int.reduceLT, Int.reduceLE, Int.reduceNe, Int.reduceNeg , or_self, or_false, false_or , List.length_map, hd, Bool.or_true, Bool.true_or, Bool.or_false, Bool.false_or]
  · have hlt : i < parts.length := by simpa using hd
    have hle : i + 1 ≤ 4294967296 := by omega
    simp only [go_sem, Nat.reduceBEq, Nat.reduceEqDiff, Nat.reduceLT, Nat.reduceLeDiff, Nat.reduceAdd, Nat.reduceSub, Nat.reduceMul, reduceCtorEq, Int.reduceToNat, Int.reduceEq, Int.reduceLT, Int.reduceLE, Int.reduceNe, Int.reduceNeg , or_self, or_false, false_or , List.length_map, Bool.or_true, Bool.true_or, Bool.or_false, Bool.false_or, idx_nat, List.getElem?_map, List.getElem?_eq_getElem hlt, quoO_ne hall]
    refine ADrw.treeG (fun k => k == 6 || k == 7) tt_ok (by kernel_rfl) (fun k => if k = 3 ∨ k = 16 then some .W else some .S) (.ones [0, 1, 2, 3, 4, 5, 6, 7, 8, 9, 10, 11, 12, 13, 14, 15, 16, 17, 18, 19, 20, 21, 22] .done) (by simp) (fun _ h => nomatch h) rfl rfl (by kernel_rfl) ?_
    simp only [go_sem, Nat.reduceBEq, Nat.reduceEqDiff, Nat.reduceLT, Nat.reduceLeDiff, Nat.reduceAdd, Nat.reduceSub, Nat.reduceMul, reduceCtorEq, Int.reduceToNat, Int.reduceEq, Int.reduceLT, Int.reduceLE, Int.reduceNe, Int.reduceNeg , or_self, or_false, false_or , List.length_map, Bool.or_true, Bool.true_or, Bool.or_false, Bool.false_or, idx_nat, List.getElem?_map, List.getElem?_eq_getElem hlt, List.length_range, List.length_map, hle]
    refine ⟨i + 1, hlt, by omega, ?_⟩
    exact ForgetTo.same' (by simp) (by simp [EWe, Env.look, w64 (n := (i : Int) + 1) (by omega) (by omega), leftN, qW, hlt]) (by simp [rowB, List.range_succ, qW, lostW, hlt])
  have hni : i = parts.length := by have : ¬ i < parts.length := by simpa using hd
                                    omega
  rw [hni]
  obtain ⟨lf, hlfe⟩ : ∃ lf : Nat, leftN pence all parts parts.length = lf := ⟨(leftN pence all parts parts.length).toNat, by omega⟩
  rw [hlfe] at hlf ⊢
  obtain ⟨n, hnn⟩ : ∃ n, parts.length = n := ⟨_, rfl⟩
  rw [hnn] at hlf hl0 hlen ⊢
  clear hi hn hd hni
  generalize hS0 : ((List.range n).map (qW pence all parts), (List.range n).map (lostW pence all parts)) = S0
  have hS1 : (List.range n).map (qW pence all parts) = S0.1 := by rw [← hS0]
  have hS2 : (List.range n).map (lostW pence all parts) = S0.2 := by rw [← hS0]
  rw [hS1, hS2]
  have hl1 : S0.1.length = n := by rw [← hS1]; simp
  have hl2 : S0.2.length = n := by rw [← hS2]; simp
  refine ALoop.by (S := Nat) (fun k => [(6, .ref 0 n 0 n), (7, .ref 1 n 0 n), (8, .d (.int .i64 ((lf : Int) - k)))])
    (fun k => [rowB (iterR k S0).1, rowB (iterR k S0).2]) (fun k => lf - k) (fun k => k ≤ lf) 0 (by simp) (fun _ h => nomatch h) (Nat.zero_le _) ?_ ?_
  · exact ForgetTo.same' (by simp) (by simp [EWe, Env.look]) (by simp [iterR, rowB])
  rintro k hk hn
  refine AWP.run (fun k => k == 6 || k == 7) tt_ok (fun _ h => nomatch h) (by simp) rfl ?_
  simp only [go_sem, Nat.reduceBEq, Nat.reduceEqDiff, Nat.reduceLT, Nat.reduceLeDiff, Nat.reduceAdd, Nat.reduceSub, Nat.reduceMul, reduceCtorEq, Int.reduceToNat, Int.reduceEq, Int.reduceLT, Int.reduceLE, Int.reduceNe, Int.reduceNeg , or_self, or_false, false_or , List.length_map, Bool.or_true, Bool.true_or, Bool.or_false, Bool.false_or, rowB]
  obtain ⟨k1, k2⟩ := iterR_len S0 k
  rw [hl1] at k1
  rw [hl2] at k2
  refine Br_split (fun hd => ?_) (fun hd => ?_) <;> simp only [go_sem, Nat.reduceBEq, Nat.reduceEqDiff, Nat.reduceLT, Nat.reduceLeDiff, Nat.reduceAdd, Nat.reduceSub, Nat.reduceMul, reduceCtorEq, Int.reduceToNat, Int.reduceEq, Int.reduceLT, Int.reduceLE, Int.reduceNe, Int.reduceNeg , or_self, or_false, false_or , List.length_map, hd, Bool.or_true, Bool.true_or, Bool.or_false, Bool.false_or]
  · have hkl : k < lf := by have : 0 < (lf : Int) - k := by simpa using hd
                            omega
    have hst : iterR (k + 1) S0 = stepR (iterR k S0) := rfl
    generalize iterR k S0 = Sk at k1 k2 hst ⊢
    refine ALoop.by (S := Nat) (fun j => [(13, .d (.int .i64 j)), (12, .d (.int .i64 (argm Sk.2 j))), (6, .ref 0 n 0 n), (7, .ref 1 n 0 n), (8, .d (.int .i64 ((lf : Int) - k)))])
      (fun j => [rowB Sk.1, rowB Sk.2]) (fun j => n - j) (fun j => j ≤ n) 0 (by simp) (fun _ h => nomatch h) (Nat.zero_le _) ?_ ?_
    · exact ForgetTo.same' (by simp) (by simp [EWe, Env.look, argm]) (by simp [rowB])
    rintro j hj hn
    refine AWP.run (fun k => k == 6 || k == 7) tt_ok (fun _ h => nomatch h) (by simp) rfl ?_
    simp only [go_sem, Nat.reduceBEq, Nat.reduceEqDiff, Nat.reduceLT, Nat.reduceLeDiff, Nat.reduceAdd, Nat.reduceSub, Nat.reduceMul, reduceCtorEq, Int.reduceToNat, Int.reduceEq, Int.reduceLT, Int.reduceLE, Int.reduceNe, Int.reduceNeg , or_self, or_false, false_or , List.length_map, Bool.or_true, Bool.true_or, Bool.or_false, Bool.false_or, rowB, List.length_map, k2]
    have ha := argm_lt Sk.2 j (by omega) (by omega)
    refine Br_split (fun he => ?_) (fun he => ?_) <;> simp only [go_sem, Nat.reduceBEq, Nat.reduceEqDiff, Nat.reduceLT, Nat.reduceLeDiff, Nat.reduceAdd, Nat.reduceSub, Nat.reduceMul, reduceCtorEq, Int.reduceToNat, Int.reduceEq, Int.reduceLT, Int.reduceLE, Int.reduceNe, Int.reduceNeg , or_self, or_false, false_or , List.length_map, he, Bool.or_true, Bool.true_or, Bool.or_false, Bool.false_or]
    · have hjn : j < n := by simpa using he
      have z0 : (0 : Int) ≤ (j : Int) := by omega
      have z1 : (j : Int) < (n : Int) := by omega
      have z2 : (0 : Int) ≤ ((argm Sk.2 j : Nat) : Int) := by omega
      have z3 : ((argm Sk.2 j : Nat) : Int) < (n : Int) := by omega
      have hj2 : j < Sk.2.length := by omega
      refine ADrw.treeG (fun k => k == 6 || k == 7) tt_ok (by kernel_rfl) (fun k => if k = 2 ∨ k = 3 ∨ k = 6 ∨ k = 7 then some .L else some .S) (.ones [0, 1, 2, 3, 4, 5, 6, 7, 8] .done) (by simp) (fun _ h => nomatch h) rfl rfl (by kernel_rfl) ?_
      simp only [go_sem, Nat.reduceBEq, Nat.reduceEqDiff, Nat.reduceLT, Nat.reduceLeDiff, Nat.reduceAdd, Nat.reduceSub, Nat.reduceMul, reduceCtorEq, Int.reduceToNat, Int.reduceEq, Int.reduceLT, Int.reduceLE, Int.reduceNe, Int.reduceNeg , or_self, or_false, false_or , List.length_map, Bool.or_true, Bool.true_or, Bool.or_false, Bool.false_or, z0, z1, z2, z3, Int.toNat_natCast, List.getElem?_map, List.getElem?_eq_getElem hj2, List.getElem?_eq_getElem ha, k2]
      refine Br_split (fun hg => ?_) (fun hg => ?_) <;> simp only [go_sem, Nat.reduceBEq, Nat.reduceEqDiff, Nat.reduceLT, Nat.reduceLeDiff, Nat.reduceAdd, Nat.reduceSub, Nat.reduceMul, reduceCtorEq, Int.reduceToNat, Int.reduceEq, Int.reduceLT, Int.reduceLE, Int.reduceNe, Int.reduceNeg , or_self, or_false, false_or , List.length_map, hg, Bool.or_true, Bool.true_or, Bool.or_false, Bool.false_or]
      · have hg' : Sk.2[argm Sk.2 j] < Sk.2[j] := by simpa using hg
        refine ⟨j + 1, hjn, by omega, ?_⟩
        exact ForgetTo.same' (by simp) (by simp [EWe, Env.look, w64 (n := (j : Int) + 1) (by omega) (by omega), argm, List.getElem?_eq_getElem hj2, List.getElem?_eq_getElem ha, hg']) (by simp [rowB])
      · have hg' : ¬ Sk.2[argm Sk.2 j] < Sk.2[j] := by simpa using hg
        refine ⟨j + 1, hjn, by omega, ?_⟩
        exact ForgetTo.same' (by simp) (by simp [EWe, Env.look, w64 (n := (j : Int) + 1) (by omega) (by omega), argm, List.getElem?_eq_getElem hj2, List.getElem?_eq_getElem ha, hg']) (by simp [rowB])
    · have hje : j = n := by have : ¬ j < n := by simpa using he
                             omega
      rw [hje] at ha ⊢
      have z2 : (0 : Int) ≤ ((argm Sk.2 n : Nat) : Int) := by omega
      have z3 : ((argm Sk.2 n : Nat) : Int) < (n : Int) := by omega
      have ha1 : argm Sk.2 n < Sk.1.length := by omega
      have ha2 : argm Sk.2 n < Sk.2.length := by omega
      simp only [go_sem, Nat.reduceBEq, Nat.reduceEqDiff, Nat.reduceLT, Nat.reduceLeDiff, Nat.reduceAdd, Nat.reduceSub, Nat.reduceMul, reduceCtorEq, Int.reduceToNat, Int.reduceEq, Int.reduceLT, Int.reduceLE, Int.reduceNe, Int.reduceNeg , or_self, or_false, false_or , List.length_map, Bool.or_true, Bool.true_or, Bool.or_false, Bool.false_or, z2, z3, Int.toNat_natCast, List.length_map, List.getElem?_map, List.getElem?_eq_getElem ha1, List.getElem?_eq_getElem ha2, k1, k2, List.length_set]
      refine ⟨k + 1, hkl, by omega, ?_⟩
      exact ForgetTo.same' (by simp) (by simp [EWe, Env.look, w64 (n := (lf : Int) - k - 1) (by omega) (by omega)]; try omega) (by simp [rowB, hst, stepR, k2, List.map_set, List.getElem?_eq_getElem ha1, wr])
  · have hke : k = lf := by have : ¬ 0 < (lf : Int) - k := by simpa using hd
                            omega
    rw [hke] at k1 ⊢
    have ht : ((iterR lf S0).1.map (D.int .i64)).take n = (iterR lf S0).1.map (D.int .i64) := List.take_of_length_le (by simp [k1])
    simp only [go_sem, Nat.reduceBEq, Nat.reduceEqDiff, Nat.reduceLT, Nat.reduceLeDiff, Nat.reduceAdd, Nat.reduceSub, Nat.reduceMul, reduceCtorEq, Int.reduceToNat, Int.reduceEq, Int.reduceLT, Int.reduceLE, Int.reduceNe, Int.reduceNeg , or_self, or_false, false_or , List.length_map, Bool.or_true, Bool.true_or, Bool.or_false, Bool.false_or, k1, ht]
    simp
end Go.Aw
end

section
namespace Go.Aw
open Go Go.Proofs Go.Proofs.Try

theorem getD_set_set {l : List Int} {j : Nat} (hj : j + 1 < l.length) (u v : Int) (a : Nat) : ((l.set (j + 1) u).set j v).getD a 0 = if a = j then v else if a = j + 1 then u else l.getD a 0 := by
  have e : ∀ x : List Int, x.getD a 0 = x[a]?.getD 0 := fun x => by simp
  rw [e, e, List.getElem?_set, List.getElem?_set]
  by_cases h1 : a = j
  · subst h1
    have : a < l.length := by omega
    simp [this]
  · rw [if_neg (Ne.symm h1), if_neg h1]
    by_cases h2 : a = j + 1
    · subst h2; simp [hj]
    · rw [if_neg (Ne.symm h2), if_neg h2]

theorem sink_sorted {T : Int → Int → Prop} {lt : Int → Int → Bool} (tr : ∀ x y z, T x y → T y z → T x z) (m : Nat) : ∀ (j : Nat) (l : List Int), j < l.length → j ≤ m →
    (∀ a b, a < b → b ≤ m → a ≠ j → b ≠ j → T (l.getD a 0) (l.getD b 0)) →
    (∀ b, j < b → b ≤ m → T (l.getD j 0) (l.getD b 0)) →
    (∀ a, a < j → (lt (l.getD j 0) (l.getD a 0) = true → T (l.getD j 0) (l.getD a 0)) ∧ (lt (l.getD j 0) (l.getD a 0) = false → T (l.getD a 0) (l.getD j 0))) →
    ∀ a b, a < b → b ≤ m → T ((sink lt j l).getD a 0) ((sink lt j l).getD b 0)
  | 0, l, _, _, h1, h2, _ => fun a b hab hb => by
    show T (l.getD a 0) (l.getD b 0)
    by_cases ha : a = 0
    · subst ha; exact h2 b hab hb
    · exact h1 a b hab hb ha (by omega)
  | j + 1, l, hl, hm, h1, h2, h3 => by
    simp only [sink]
    split
    · rename_i hlt
      have hv := (h3 j (by omega)).1 hlt
      refine sink_sorted tr m j _ (by simp; omega) (by omega) ?_ ?_ ?_
      · intro a b hab hb ha hbj
        rw [getD_set_set hl, getD_set_set hl, if_neg ha, if_neg hbj]
        by_cases ha1 : a = j + 1
        · rw [if_pos ha1, if_neg (by omega)]; exact h1 j b (by omega) hb (by omega) (by omega)
        · rw [if_neg ha1]
          by_cases hb1 : b = j + 1
          · rw [if_pos hb1]; exact h1 a j (by omega) (by omega) ha1 (by omega)
          · rw [if_neg hb1]; exact h1 a b hab hb ha1 hb1
      · intro b hb hbm
        rw [getD_set_set hl, getD_set_set hl, if_pos rfl, if_neg (by omega)]
        by_cases hb1 : b = j + 1
        · rw [if_pos hb1]; exact hv
        · rw [if_neg hb1]; exact h2 b (by omega) hbm
      · intro a ha
        rw [getD_set_set hl, getD_set_set hl, if_pos rfl, if_neg (by omega), if_neg (by omega)]
        exact h3 a (by omega)
    · rename_i hlt
      have hv := (h3 j (by omega)).2 (by simpa using hlt)
      intro a b hab hb
      by_cases ha : a = j + 1
      · subst ha; exact h2 b hab hb
      · by_cases hb1 : b = j + 1
        · subst hb1
          by_cases haj : a = j
          · subst haj; exact hv
          · exact tr _ _ _ (h1 a j (by omega) (by omega) ha (by omega)) hv
        · exact h1 a b hab hb ha hb1

theorem sink_keeps {lt : Int → Int → Bool} {x : Int} : ∀ (j : Nat) (l : List Int), j < l.length → (∃ a, a ≤ j ∧ l.getD a 0 = x) → ∃ a, a ≤ j ∧ (sink lt j l).getD a 0 = x
  | 0, _, _, h => h
  | j + 1, l, hl, ⟨a, ha, e⟩ => by
    simp only [sink]
    split
    · have far : ∀ (j : Nat) (l : List Int) (b : Nat), j < l.length → j < b → (sink lt j l).getD b 0 = l.getD b 0 := by
        intro j
        induction j with
        | zero => intros; rfl
        | succ j ih =>
          intro l b hl hb
          simp only [sink]
          split
          · rw [ih _ _ (by simp; omega) (by omega), getD_set_set hl, if_neg (by omega), if_neg (by omega)]
          · rfl
      by_cases haj : a = j
      · subst haj
        refine ⟨a + 1, Nat.le_refl _, ?_⟩
        rw [far _ _ _ (by simp; omega) (by omega), getD_set_set hl, if_neg (by omega), if_pos rfl, e]
      · obtain ⟨b, hb, eb⟩ := sink_keeps (lt := lt) (x := x) j ((l.set (j + 1) (l.getD j 0)).set j (l.getD (j + 1) 0)) (by simp; omega) (by
          by_cases ha1 : a = j + 1
          · subst ha1; exact ⟨j, Nat.le_refl _, by rw [getD_set_set hl, if_pos rfl, e]⟩
          · exact ⟨a, by omega, by rw [getD_set_set hl, if_neg haj, if_neg ha1, e]⟩)
        exact ⟨b, by omega, eb⟩
    · exact ⟨a, ha, e⟩

theorem sink_far {lt : Int → Int → Bool} : ∀ (j : Nat) (l : List Int) (b : Nat), j < l.length → j < b → (sink lt j l).getD b 0 = l.getD b 0
  | 0, _, _, _, _ => rfl
  | j + 1, l, b, hl, hb => by
    simp only [sink]
    split
    · rw [sink_far _ _ _ (by simp; omega) (by omega), getD_set_set hl, if_neg (by omega), if_neg (by omega)]
    · rfl

/-- The greater remainder first; among equals the earlier part. -/
def Bef (R : Nat → Int) (x y : Int) : Prop := R y.toNat < R x.toNat ∨ (R x.toNat = R y.toNat ∧ x < y)

theorem Bef.trans {R : Nat → Int} (x y z : Int) (h : Bef R x y) (k : Bef R y z) : Bef R x z := by
  unfold Bef at *; omega

theorem sink_le {lt : Int → Int → Bool} {p : Int → Prop} : ∀ (j : Nat) (l : List Int), j < l.length → (∀ a, a ≤ j → p (l.getD a 0)) → ∀ a, a ≤ j → p ((sink lt j l).getD a 0)
  | 0, _, _, h => h
  | j + 1, l, hl, h => by
    simp only [sink]
    split
    · intro a ha
      by_cases ha1 : a = j + 1
      · subst ha1
        rw [sink_far _ _ _ (by simp; omega) (by omega), getD_set_set hl, if_neg (by omega), if_pos rfl]
        exact h j (by omega)
      · refine sink_le j _ (by simp; omega) (fun a ha => ?_) a (by omega)
        rw [getD_set_set hl]
        by_cases haj : a = j
        · rw [if_pos haj]; exact h _ (Nat.le_refl _)
        · rw [if_neg haj, if_neg (by omega)]; exact h a (by omega)
    · exact h

theorem nats_getD {n i : Nat} (h : i < n) : (nats n).getD i 0 = i := by simp [nats, h]

theorem isort_spec (R : Nat → Int) (lt : Int → Int → Bool) (hlt : ∀ x y, lt x y = decide (R y.toNat < R x.toNat)) (n : Nat) : ∀ i, i < n →
    (∀ a b, a < b → b ≤ i → Bef R ((isortI lt (nats n) i).getD a 0) ((isortI lt (nats n) i).getD b 0)) ∧
    (∀ b, i < b → (isortI lt (nats n) i).getD b 0 = (nats n).getD b 0) ∧
    (∀ a, a ≤ i → ∃ k : Nat, k ≤ i ∧ (isortI lt (nats n) i).getD a 0 = k) ∧
    (∀ k : Nat, k ≤ i → ∃ a, a ≤ i ∧ (isortI lt (nats n) i).getD a 0 = k)
  | 0, h => ⟨fun a b _ _ => by omega, fun _ _ => rfl, fun a ha => ⟨0, Nat.le_refl _, by rw [Nat.le_zero.1 ha]; exact nats_getD h⟩, fun k hk => ⟨0, Nat.le_refl _, by rw [Nat.le_zero.1 hk]; exact nats_getD h⟩⟩
  | i + 1, h => by
    obtain ⟨h1, h2, h3, h4⟩ := isort_spec R lt hlt n i (by omega)
    have hl : (isortI lt (nats n) i).length = n := by rw [isortI_len]; simp [nats]
    have hv : (isortI lt (nats n) i).getD (i + 1) 0 = ((i + 1 : Nat) : Int) := by rw [h2 _ (by omega)]; exact nats_getD h
    rw [isortI_succ]
    generalize isortI lt (nats n) i = l at *
    refine ⟨?_, ?_, ?_, ?_⟩
    · refine sink_sorted (Bef.trans) (i + 1) (i + 1) l (by omega) (Nat.le_refl _) ?_ ?_ ?_
      · intro a b hab hb ha hb1; exact h1 a b hab (by omega)
      · intro b hb hb1; omega
      · intro a ha
        obtain ⟨k, hk, e⟩ := h3 a (by omega)
        rw [hv, e, hlt]
        simp only [Bef, decide_eq_true_eq, decide_eq_false_iff_not, Int.toNat_natCast]
        constructor <;> intro <;> omega
    · intro b hb; rw [sink_far _ _ _ (by omega) hb]; exact h2 b (by omega)
    · refine sink_le (p := fun x => ∃ k : Nat, k ≤ i + 1 ∧ x = k) (i + 1) l (by omega) fun a ha => ?_
      by_cases ha1 : a = i + 1
      · subst ha1; exact ⟨i + 1, Nat.le_refl _, hv⟩
      · obtain ⟨k, hk, e⟩ := h3 a (by omega); exact ⟨k, by omega, e⟩
    · intro k hk
      refine sink_keeps (i + 1) l (by omega) ?_
      by_cases hk1 : k = i + 1
      · subst hk1; exact ⟨i + 1, Nat.le_refl _, hv⟩
      · obtain ⟨a, ha, e⟩ := h4 k (by omega); exact ⟨a, by omega, e⟩

theorem argm_eq {l : List Int} {x : Nat} : ∀ i, x < i → (∀ j, j < i → l.getD j 0 ≤ l.getD x 0) → (∀ j, j < x → l.getD j 0 < l.getD x 0) → argm l i = x := by
  have spec : ∀ i, 0 < i → argm l i < i ∧ (∀ j, j < i → l.getD j 0 ≤ l.getD (argm l i) 0) ∧ (∀ j, j < argm l i → l.getD j 0 < l.getD (argm l i) 0) := by
    intro i
    induction i with
    | zero => intro h; omega
    | succ i ih =>
      intro _
      by_cases hi : i = 0
      · subst hi
        rw [show argm l (0 + 1) = 0 by simp [argm]]
        refine ⟨by omega, fun j hj => ?_, fun j hj => by omega⟩
        rw [show j = 0 by omega]; exact Int.le_refl _
      · obtain ⟨k1, k2, k3⟩ := ih (by omega)
        simp only [argm]
        split
        · rename_i hg
          refine ⟨by omega, fun j hj => ?_, fun j hj => ?_⟩
          · by_cases hji : j = i
            · rw [hji]; exact Int.le_refl _
            · have := k2 j (by omega); omega
          · have := k2 j hj; omega
        · rename_i hg
          refine ⟨by omega, fun j hj => ?_, k3⟩
          by_cases hji : j = i
          · rw [hji]; omega
          · exact k2 j (by omega)
  intro i hx h1 h2
  obtain ⟨k1, k2, k3⟩ := spec i (by omega)
  have a1 := k2 x hx
  have a2 := h1 _ k1
  rcases Nat.lt_trichotomy (argm l i) x with h | h | h
  · have := h2 _ h; omega
  · exact h
  · have := k3 _ h; omega

theorem iter_eq {Q0 R0 order : List Int} {n : Nat} (hn : 0 < n) (hR : R0.length = n) (ho : order.length = n) (hr : ∀ i, i < n → 0 ≤ R0.getD i 0)
    (hb : ∀ a b, a < b → b < n → Bef (fun i => R0.getD i 0) (order.getD a 0) (order.getD b 0)) (hin : ∀ a, a < n → ∃ k : Nat, k < n ∧ order.getD a 0 = k) (hon : ∀ k : Nat, k < n → ∃ a, a < n ∧ order.getD a 0 = k) :
    ∀ k, k ≤ n → (iterR k (Q0, R0)).1 = incL Q0 (order.take k) ∧ (iterR k (Q0, R0)).2.length = n ∧ (∀ a, a < n → (iterR k (Q0, R0)).2.getD (order.getD a 0).toNat 0 = if a < k then -1 else R0.getD (order.getD a 0).toNat 0)
  | 0, _ => ⟨rfl, hR, fun a ha => by simp [iterR]⟩
  | k + 1, hk => by
    obtain ⟨h1, h2, h3⟩ := iter_eq hn hR ho hr hb hin hon k (by omega)
    obtain ⟨x, hx, ex⟩ := hin k (by omega)
    have hsx : (iterR k (Q0, R0)).2.getD x 0 = R0.getD x 0 := by
      have := h3 k (by omega)
      rw [ex, if_neg (by omega)] at this; simpa using this
    have key : argm (iterR k (Q0, R0)).2 n = x := by
      have all : ∀ j, j < n → j ≠ x → (iterR k (Q0, R0)).2.getD j 0 ≤ R0.getD x 0 ∧ (j < x → (iterR k (Q0, R0)).2.getD j 0 < R0.getD x 0) := by
        intro j hj hjx
        obtain ⟨b, hbn, eb⟩ := hon j hj
        have hj3 := h3 b hbn
        rw [eb, Int.toNat_natCast] at hj3
        have hx0 := hr x hx
        by_cases hbk : b < k
        · rw [if_pos hbk] at hj3; rw [hj3]; omega
        · rw [if_neg hbk] at hj3
          have hbk2 : b ≠ k := by rintro rfl; rw [eb] at ex; omega
          have := hb k b (by omega) hbn
          rw [ex, eb] at this
          simp only [Bef, Int.toNat_natCast] at this
          rw [hj3]; omega
      refine argm_eq n hx (fun j hj => ?_) (fun j hj => ?_)
      · rw [hsx]
        by_cases hjx : j = x
        · rw [hjx, hsx]; exact Int.le_refl _
        · exact (all j hj hjx).1
      · rw [hsx]; exact (all j (by omega) (by omega)).2 hj
    have hst : iterR (k + 1) (Q0, R0) = stepR (iterR k (Q0, R0)) := rfl
    rw [hst]
    simp only [stepR, h2, key]
    refine ⟨?_, by simp [h2], fun a ha => ?_⟩
    · have hko : k < order.length := by omega
      rw [incL_succ hko, h1]
      rw [show order[k] = (x : Int) by rw [← ex, getD_eq hko]]
      simp
    · obtain ⟨y, hy, ey⟩ := hin a ha
      have hy3 := h3 a ha
      rw [ey, Int.toNat_natCast] at hy3 ⊢
      rw [show ∀ l : List Int, l.getD y 0 = l[y]?.getD 0 from fun l => by simp, List.getElem?_set]
      have hxy : x = y ↔ a = k := by
        constructor
        · rintro rfl
          rcases Nat.lt_trichotomy a k with h | h | h
          · have := hb a k h (by omega); rw [ex, ey] at this; simp only [Bef, Int.toNat_natCast] at this; omega
          · exact h
          · have := hb k a h ha; rw [ex, ey] at this; simp only [Bef, Int.toNat_natCast] at this; omega
        · rintro rfl; rw [ex] at ey; omega
      by_cases hak : a = k
      · have := hxy.2 hak
        subst this
        rw [if_pos rfl, if_pos (by omega), if_pos (by omega)]; rfl
      · rw [if_neg fun h => hak (hxy.1 h)]
        have : (iterR k (Q0, R0)).2[y]?.getD 0 = (iterR k (Q0, R0)).2.getD y 0 := by simp
        rw [this, hy3]
        by_cases hlt : a < k
        · rw [if_pos hlt, if_pos (by omega)]
        · rw [if_neg hlt, if_neg (by omega)]
end Go.Aw
end

section
namespace Go.Aw
open Go Go.Proofs Go.Proofs.Try

theorem lost_eq {pence : Int} {parts : List Int} (h : PartsOk pence parts) (hs : 0 < parts.sum) {i : Nat} (hi : i < parts.length) : lostW pence parts.sum parts i = remW pence parts.sum parts i := by
  obtain ⟨m1, m2, m3, _, _, m4, m5⟩ := quo_rem h hs hi
  have hp := h.part _ (List.getElem_mem hi)
  have h0 : 0 ≤ pence * parts[i] := Int.mul_nonneg h.p0 hp.1
  have h1 : pence * parts[i] ≤ 100000000 := by
    calc pence * parts[i] ≤ 100000 * parts[i] := Int.mul_le_mul_of_nonneg_right h.p1 hp.1
      _ ≤ 100000000 := by omega
  have e1 : wr (pence * parts[i]) = pence * parts[i] := w64 (by omega) (by omega)
  have hq : qW pence parts.sum parts i * parts.sum = pence * parts[i] - remW pence parts.sum parts i := by rw [Int.mul_comm]; omega
  have hr := (sumP_eq h).2.2
  have e2 : wr (qW pence parts.sum parts i * parts.sum) = qW pence parts.sum parts i * parts.sum := w64 (by omega) (by omega)
  rw [lostW, getD_eq hi, e1, e2, hq]
  rw [show pence * parts[i] - (pence * parts[i] - remW pence parts.sum parts i) = remW pence parts.sum parts i by omega]
  exact w64 (by omega) (by omega)

theorem cmpI_lt (x y : Int) : decide (cmpI x y < 0) = decide (x < y) := by
  unfold cmpI
  split
  · simp_all
  · split <;> simp_all

theorem shares_eq {pence : Int} {parts : List Int} (h : PartsOk pence parts) (hs : 0 < parts.sum) : sharesW pence parts.sum parts = shareR pence parts := by
  have hlf := leftN_lt h hs
  have hl0 : 0 < parts.length := by
    rcases parts with _ | _
    · simp at hs
    · simp
  have hlm : (List.range parts.length).map (lostW pence parts.sum parts) = (List.range parts.length).map (remW pence parts.sum parts) := by
    apply List.map_congr_left
    intro i hi; exact lost_eq h hs (List.mem_range.1 hi)
  have hrd : ∀ i, i < parts.length → ((List.range parts.length).map (remW pence parts.sum parts)).getD i 0 = remW pence parts.sum parts i := fun i hi => getD_range hi
  obtain ⟨s1, s2, s3, s4⟩ := isort_spec (remW pence parts.sum parts) (ltW pence parts.sum parts) (fun x y => cmpI_lt _ _) parts.length (parts.length - 1) (by omega)
  have hin : ∀ a, a < parts.length → ∃ k : Nat, k < parts.length ∧ (orderW pence parts.sum parts).getD a 0 = k := fun a ha => by
    obtain ⟨k, hk, e⟩ := s3 a (by omega); exact ⟨k, by omega, e⟩
  have it := iter_eq (Q0 := (List.range parts.length).map (qW pence parts.sum parts)) (R0 := (List.range parts.length).map (remW pence parts.sum parts)) (order := orderW pence parts.sum parts) (n := parts.length) hl0 (by simp) (order_len _ _ _)
    (fun i hi => by rw [hrd i hi]; exact (quo_rem h hs hi).2.1)
    (fun a b hab hb => by
      obtain ⟨x, hx, ex⟩ := hin a (by omega)
      obtain ⟨y, hy, ey⟩ := hin b hb
      have := s1 a b hab (by omega)
      rw [show isortI (ltW pence parts.sum parts) (nats parts.length) (parts.length - 1) = orderW pence parts.sum parts from rfl, ex, ey] at this
      rw [ex, ey]
      simp only [Bef, Int.toNat_natCast] at this ⊢
      rw [hrd x hx, hrd y hy]; exact this)
    hin (fun k hk => by obtain ⟨a, ha, e⟩ := s4 k (by omega); exact ⟨a, by omega, e⟩)
    (leftN pence parts.sum parts parts.length).toNat (by omega)
  rw [shareR, hlm, it.1]; rfl

theorem any_pos : ∀ (l : List Int), (∀ p ∈ l, 0 ≤ p) → ((l.any fun p => decide (p > 0)) = true ↔ l.sum ≠ 0)
  | [], _ => by simp
  | p :: r, h => by
    have ih := any_pos r fun q hq => h q (List.mem_cons_of_mem _ hq)
    have h0 := h p (by simp)
    have h1 := sum_nonneg r fun q hq => h q (List.mem_cons_of_mem _ hq)
    rw [List.any_cons, Bool.or_eq_true, ih, List.sum_cons, decide_eq_true_eq]
    omega

theorem inR_iff (n a b : Int) : inR n a b = true ↔ a ≤ n ∧ n ≤ b := by simp [inR]

theorem within_iff (a b : Int) (l : List Int) : within a b l = true ↔ ∀ n ∈ l, a ≤ n ∧ n ≤ b := by
  constructor
  · exact within_all
  · intro h
    simp [within]
    intro x hx
    have := h x hx; omega

/-- What the program answers, in the reference's words. -/
theorem shareP_eq (pence : Int) (parts : List Int) : (shareP pence parts).2 = partsR pence parts ∧ (partsR pence parts ≠ 0 → (shareP pence parts).1 = []) ∧
    (partsR pence parts = 0 → PartsOk pence parts ∧ 0 < parts.sum ∧ (shareP pence parts).1 = shareR pence parts) := by
  by_cases h1 : 0 ≤ pence ∧ pence ≤ 100000
  · have w1 : within 0 100000 [pence] = true := (within_iff _ _ _).2 (by simpa using h1)
    have i1 : inR pence 0 100000 = true := (inR_iff _ _ _).2 h1
    by_cases h2 : ∀ p ∈ parts, 0 ≤ p ∧ p ≤ 1000
    · have w2 : within 0 1000 parts = true := (within_iff _ _ _).2 h2
      have i2 : parts.any (fun p => !inR p 0 1000) = false := by
        rw [List.any_eq_false]; intro p hp; simp [(inR_iff _ _ _).2 (h2 p hp)]
      by_cases h3 : parts.length ≤ 6
      · have ok : PartsOk pence parts := ⟨h1.1, h1.2, h3, h2⟩
        obtain ⟨e1, e2, e3⟩ := sumP_eq ok
        have ap := any_pos parts fun p hp => (h2 p hp).1
        by_cases h4 : parts.sum = 0
        · have a4 : (parts.any fun p => decide (p > 0)) = false := by rw [Bool.eq_false_iff]; intro h; exact ap.1 h h4
          simp [shareP, partsR, w1, i1, w2, i2, e1, h4, a4]
        · have a4 := ap.2 h4
          have hl0 : 0 < parts.length := by
            rcases parts with _ | _
            · simp at h4
            · simp
          have w3 : within 1 6 [(parts.length : Int)] = true := (within_iff _ _ _).2 (by simp; omega)
          have l6 : ¬ parts.length > 6 := by omega
          have hpr : partsR pence parts = 0 := by simp only [partsR, i1, i2, a4]; simp [l6]
          have hsp : shareP pence parts = (sharesW pence parts.sum parts, 0) := by simp [shareP, w1, w2, w3, e1, h4]
          rw [hpr, hsp]
          exact ⟨rfl, fun h => absurd rfl h, fun _ => ⟨ok, by omega, shares_eq ok (by omega)⟩⟩
      · have w3 : within 1 6 [(parts.length : Int)] = false := by
          rw [Bool.eq_false_iff]; intro h; have := (within_iff _ _ _).1 h (parts.length : Int) (by simp); omega
        have l6 : parts.length > 6 := by omega
        simp [shareP, partsR, w1, i1, w3, i2, l6]
    · have w2 : within 0 1000 parts = false := by rw [Bool.eq_false_iff]; intro h; exact h2 ((within_iff _ _ _).1 h)
      have i2 : parts.any (fun p => !inR p 0 1000) = true := by
        rw [← Bool.not_eq_false, List.any_eq_false]
        intro h; apply h2; intro p hp
        have := h p hp
        simp only [Bool.not_eq_true', Bool.not_eq_false] at this
        exact (inR_iff _ _ _).1 this
      simp [shareP, partsR, w1, i1, w2, i2]
  · have w1 : within 0 100000 [pence] = false := by rw [Bool.eq_false_iff]; intro h; exact h1 ((within_iff _ _ _).1 h pence (by simp))
    have i1 : inR pence 0 100000 = false := by rw [Bool.eq_false_iff]; intro h; exact h1 ((inR_iff _ _ _).1 h)
    simp [shareP, partsR, w1, i1]

theorem incLen (xs l : List Int) : (incL l xs).length = l.length := incL_len xs l

theorem c7 (pence : Int) (parts : List Int) : PC prog 7 [.d (.int .i64 pence), .d (.sl (parts.map (.int .i64)))] (.d (.bool true)) := by
  refine PC.run (fun _ => false) tt_ok (fn := f7) (rs := [.tmp 4]) rfl rfl rfl rfl rfl rfl rfl ?_
  simp only [go_sem, Nat.reduceBEq, Nat.reduceEqDiff, Nat.reduceLT, Nat.reduceLeDiff, Nat.reduceAdd, Nat.reduceSub, Nat.reduceMul, reduceCtorEq, Int.reduceToNat, Int.reduceEq, Int.reduceLT, Int.reduceLE, Int.reduceNe, Int.reduceNeg , or_self, or_false, false_or , List.length_map]
  refine Br_split (fun h1 => ?_) (fun h1 => ?_) <;> simp only [go_sem, Nat.reduceBEq, Nat.reduceEqDiff, Nat.reduceLT, Nat.reduceLeDiff, Nat.reduceAdd, Nat.reduceSub, Nat.reduceMul, reduceCtorEq, Int.reduceToNat, Int.reduceEq, Int.reduceLT, Int.reduceLE, Int.reduceNe, Int.reduceNeg , or_self, or_false, false_or , List.length_map, h1]
  · refine c14.call rfl rfl rfl ?_
    simp only [go_sem, Nat.reduceBEq, Nat.reduceEqDiff, Nat.reduceLT, Nat.reduceLeDiff, Nat.reduceAdd, Nat.reduceSub, Nat.reduceMul, reduceCtorEq, Int.reduceToNat, Int.reduceEq, Int.reduceLT, Int.reduceLE, Int.reduceNe, Int.reduceNeg , or_self, or_false, false_or , List.length_map]
  have hl : parts.length ≤ 20 := by simp at h1; omega
  have hl2 : parts.length ≤ 4294967296 := by omega
  obtain ⟨e1, e2, e3⟩ := shareP_eq pence parts
  have hsz : sized 1 (parts.map (D.int .i64)) = true := by simp [sized, dcells]
  simp only [go_sem, Nat.reduceBEq, Nat.reduceEqDiff, Nat.reduceLT, Nat.reduceLeDiff, Nat.reduceAdd, Nat.reduceSub, Nat.reduceMul, reduceCtorEq, Int.reduceToNat, Int.reduceEq, Int.reduceLT, Int.reduceLE, Int.reduceNe, Int.reduceNeg , or_self, or_false, false_or , List.length_map, hl2, hsz]
  refine (c42 pence parts hl2).call rfl rfl rfl ?_
  simp only [go_sem, Nat.reduceBEq, Nat.reduceEqDiff, Nat.reduceLT, Nat.reduceLeDiff, Nat.reduceAdd, Nat.reduceSub, Nat.reduceMul, reduceCtorEq, Int.reduceToNat, Int.reduceEq, Int.reduceLT, Int.reduceLE, Int.reduceNe, Int.reduceNeg , or_self, or_false, false_or , List.length_map]
  refine (c28 parts parts hl2 hl2).call rfl rfl rfl ?_
  simp only [go_sem, Nat.reduceBEq, Nat.reduceEqDiff, Nat.reduceLT, Nat.reduceLeDiff, Nat.reduceAdd, Nat.reduceSub, Nat.reduceMul, reduceCtorEq, Int.reduceToNat, Int.reduceEq, Int.reduceLT, Int.reduceLE, Int.reduceNe, Int.reduceNeg , or_self, or_false, false_or , List.length_map]
  refine (c43 pence parts hl2).call rfl rfl rfl ?_
  simp only [go_sem, Nat.reduceBEq, Nat.reduceEqDiff, Nat.reduceLT, Nat.reduceLeDiff, Nat.reduceAdd, Nat.reduceSub, Nat.reduceMul, reduceCtorEq, Int.reduceToNat, Int.reduceEq, Int.reduceLT, Int.reduceLE, Int.reduceNe, Int.reduceNeg , or_self, or_false, false_or , List.length_map]
  by_cases hz : partsR pence parts = 0
  · obtain ⟨ok, hs, f3⟩ := e3 hz
    have hle : (shareR pence parts).length ≤ 4294967296 := by
      rw [shareR, (iterR_len _ _).1]; simp; omega
    simp only [go_sem, Nat.reduceBEq, Nat.reduceEqDiff, Nat.reduceLT, Nat.reduceLeDiff, Nat.reduceAdd, Nat.reduceSub, Nat.reduceMul, reduceCtorEq, Int.reduceToNat, Int.reduceEq, Int.reduceLT, Int.reduceLE, Int.reduceNe, Int.reduceNeg , or_self, or_false, false_or , List.length_map, hz, e1, f3]
    refine (c44 ok hs).call rfl rfl rfl ?_
    simp only [go_sem, Nat.reduceBEq, Nat.reduceEqDiff, Nat.reduceLT, Nat.reduceLeDiff, Nat.reduceAdd, Nat.reduceSub, Nat.reduceMul, reduceCtorEq, Int.reduceToNat, Int.reduceEq, Int.reduceLT, Int.reduceLE, Int.reduceNe, Int.reduceNeg , or_self, or_false, false_or , List.length_map]
    refine (c28 (shareR pence parts) (shareR pence parts) hle hle).call rfl rfl rfl ?_
    simp only [go_sem, Nat.reduceBEq, Nat.reduceEqDiff, Nat.reduceLT, Nat.reduceLeDiff, Nat.reduceAdd, Nat.reduceSub, Nat.reduceMul, reduceCtorEq, Int.reduceToNat, Int.reduceEq, Int.reduceLT, Int.reduceLE, Int.reduceNe, Int.reduceNeg , or_self, or_false, false_or , List.length_map]
    refine c14.call rfl rfl rfl ?_
    simp only [go_sem, Nat.reduceBEq, Nat.reduceEqDiff, Nat.reduceLT, Nat.reduceLeDiff, Nat.reduceAdd, Nat.reduceSub, Nat.reduceMul, reduceCtorEq, Int.reduceToNat, Int.reduceEq, Int.reduceLT, Int.reduceLE, Int.reduceNe, Int.reduceNeg , or_self, or_false, false_or , List.length_map]
  · have f2 := e2 hz
    have z0 : ((0 : Nat) : Int) = 0 := rfl
    simp only [go_sem, Nat.reduceBEq, Nat.reduceEqDiff, Nat.reduceLT, Nat.reduceLeDiff, Nat.reduceAdd, Nat.reduceSub, Nat.reduceMul, reduceCtorEq, Int.reduceToNat, Int.reduceEq, Int.reduceLT, Int.reduceLE, Int.reduceNe, Int.reduceNeg , or_self, or_false, false_or , List.length_map, hz, e1, f2, z0]
    refine c14.call rfl rfl rfl ?_
    simp only [go_sem, Nat.reduceBEq, Nat.reduceEqDiff, Nat.reduceLT, Nat.reduceLeDiff, Nat.reduceAdd, Nat.reduceSub, Nat.reduceMul, reduceCtorEq, Int.reduceToNat, Int.reduceEq, Int.reduceLT, Int.reduceLE, Int.reduceNe, Int.reduceNeg , or_self, or_false, false_or , List.length_map]
end Go.Aw
end

section
namespace Go.Aw
open Go Go.Proofs Go.Proofs.Try

theorem c37w (n a b : Int) : PC prog 37 [.d (.int .i64 n), .d (.int .i64 a), .d (.int .i64 b)] (.d (.bool (within a b [n]))) := by
  have : within a b [n] = (decide (n ≥ a) && decide (n ≤ b)) := by
    rw [Bool.eq_iff_iff, within_iff]; simp
  rw [this]; exact c37 n a b

theorem c69w (s : Sp) : PC prog 69 [.d s.d, .d (.int .i64 0), .d (.int .i64 50)] (.d (.bool (within 0 50 [s.lo, s.hi] && decide (s.lo ≤ s.hi)))) := by
  have : (within 0 50 [s.lo, s.hi] && decide (s.lo ≤ s.hi)) = (decide (s.lo ≥ 0) && decide (s.lo ≤ s.hi) && decide (s.hi ≤ 50)) := by
    rw [Bool.eq_iff_iff]
    simp only [Bool.and_eq_true, within_iff, decide_eq_true_eq, List.mem_cons, List.not_mem_nil, or_false, forall_eq_or_imp, forall_eq]
    try omega
  rw [this]; exact c69 s 0 50

theorem any_take {α : Type} {l : List α} {i : Nat} (h : i < l.length) (f : α → Bool) : (l.take (i + 1)).any f = ((l.take i).any f || f l[i]) := by
  rw [List.take_succ_eq_append_getElem h, List.any_append]; simp

theorem any_at {α : Type} {l : List α} {i : Nat} (h : i < l.length) {f : α → Bool} (hf : f l[i] = true) : l.any f = true :=
  List.any_eq_true.2 ⟨l[i], List.getElem_mem h, hf⟩

theorem within_any (a b : Int) (l : List Int) : within a b l = !l.any (fun n => !within a b [n]) := by
  rw [Bool.eq_iff_iff, within_iff]
  simp [within_iff]

theorem c19 (b : Book) (hb : b.Fits) : PC prog 19 [.d b.d] (.d (.int .i64 (checkP b))) := by
  have hs := hb.stock
  refine PC.run (fun _ => false) tt_ok (fn := f19) (rs := [.tmp 2]) rfl rfl rfl rfl rfl rfl rfl ?_
  simp only [go_sem, Nat.reduceBEq, Nat.reduceEqDiff, Nat.reduceLT, Nat.reduceLeDiff, Nat.reduceAdd, Nat.reduceSub, Nat.reduceMul, reduceCtorEq, Int.reduceToNat, Int.reduceEq, Int.reduceLT, Int.reduceLE, Int.reduceNe, Int.reduceNeg , or_self, or_false, false_or , List.length_map, Book.d]
  refine (c37w (b.stock.length : Int) 1 4).call rfl rfl rfl ?_
  simp only [go_sem, Nat.reduceBEq, Nat.reduceEqDiff, Nat.reduceLT, Nat.reduceLeDiff, Nat.reduceAdd, Nat.reduceSub, Nat.reduceMul, reduceCtorEq, Int.reduceToNat, Int.reduceEq, Int.reduceLT, Int.reduceLE, Int.reduceNe, Int.reduceNeg , or_self, or_false, false_or , List.length_map]
  refine Br_split (fun h1 => ?_) (fun h1 => ?_) <;> simp only [go_sem, Nat.reduceBEq, Nat.reduceEqDiff, Nat.reduceLT, Nat.reduceLeDiff, Nat.reduceAdd, Nat.reduceSub, Nat.reduceMul, reduceCtorEq, Int.reduceToNat, Int.reduceEq, Int.reduceLT, Int.reduceLE, Int.reduceNe, Int.reduceNeg , or_self, or_false, false_or , List.length_map, h1]
  · have h1' : (!within 1 4 [(b.stock.length : Int)]) = true := h1
    simp [checkP, h1']
  have h1' : (!within 1 4 [(b.stock.length : Int)]) = false := h1
  have hb4 := within_one (by simpa using h1')
  refine ALoop.by (S := Nat) (fun i => [(4, .d (.int .i64 i)), (3, .d (.int .i64 b.stock.length)), (1, .ptr 0 0)]) (fun _ => [.cells (bookV b)]) (fun i => b.stock.length - i) (fun i => i ≤ b.stock.length ∧ (b.stock.take i).any (fun n => !within 0 10000 [n]) = false) 0 (by simp) (fun _ h => nomatch h) ⟨Nat.zero_le _, rfl⟩ ?_ ?_
  · exact ForgetTo.same' (by simp) (by simp [EWe, Env.look]) (by simp [bookV])
  rintro i ⟨hi, hx⟩ hn
  refine AWP.run (fun _ => false) tt_ok (fun _ h => nomatch h) (by simp) rfl ?_
  simp only [go_sem, Nat.reduceBEq, Nat.reduceEqDiff, Nat.reduceLT, Nat.reduceLeDiff, Nat.reduceAdd, Nat.reduceSub, Nat.reduceMul, reduceCtorEq, Int.reduceToNat, Int.reduceEq, Int.reduceLT, Int.reduceLE, Int.reduceNe, Int.reduceNeg , or_self, or_false, false_or , List.length_map, bookV]
  refine Br_split (fun hd => ?_) (fun hd => ?_) <;> simp only [go_sem, Nat.reduceBEq, Nat.reduceEqDiff, Nat.reduceLT, Nat.reduceLeDiff, Nat.reduceAdd, Nat.reduceSub, Nat.reduceMul, reduceCtorEq, Int.reduceToNat, Int.reduceEq, Int.reduceLT, Int.reduceLE, Int.reduceNe, Int.reduceNeg , or_self, or_false, false_or , List.length_map, hd]
  · have hlt : i < b.stock.length := by simpa using hd
    simp only [go_sem, Nat.reduceBEq, Nat.reduceEqDiff, Nat.reduceLT, Nat.reduceLeDiff, Nat.reduceAdd, Nat.reduceSub, Nat.reduceMul, reduceCtorEq, Int.reduceToNat, Int.reduceEq, Int.reduceLT, Int.reduceLE, Int.reduceNe, Int.reduceNeg , or_self, or_false, false_or , List.length_map, idx_nat, List.getElem?_map, List.getElem?_eq_getElem hlt]
    refine (c37w b.stock[i] 0 10000).call rfl rfl rfl ?_
    simp only [go_sem, Nat.reduceBEq, Nat.reduceEqDiff, Nat.reduceLT, Nat.reduceLeDiff, Nat.reduceAdd, Nat.reduceSub, Nat.reduceMul, reduceCtorEq, Int.reduceToNat, Int.reduceEq, Int.reduceLT, Int.reduceLE, Int.reduceNe, Int.reduceNeg , or_self, or_false, false_or , List.length_map]
    refine Br_split (fun he => ?_) (fun he => ?_) <;> simp only [go_sem, Nat.reduceBEq, Nat.reduceEqDiff, Nat.reduceLT, Nat.reduceLeDiff, Nat.reduceAdd, Nat.reduceSub, Nat.reduceMul, reduceCtorEq, Int.reduceToNat, Int.reduceEq, Int.reduceLT, Int.reduceLE, Int.reduceNe, Int.reduceNeg , or_self, or_false, false_or , List.length_map, he]
    · have he' : (!within 0 10000 [b.stock[i]]) = true := he
      have hbad : within 0 10000 b.stock = false := by rw [within_any, any_at hlt he']; rfl
      simp [checkP, hbad]
    · have he' : (!within 0 10000 [b.stock[i]]) = false := he
      refine ⟨i + 1, ⟨hlt, by rw [any_take hlt, hx, he']; rfl⟩, by omega, ?_⟩
      exact ForgetTo.same' (by simp) (by simp [EWe, Env.look, w64 (n := (i : Int) + 1) (by omega) (by omega)]) (by simp [bookV])
  have hnl : ¬ i < b.stock.length := by simpa using hd
  rw [List.take_of_length_le (by omega)] at hx
  have h2 : within 0 10000 b.stock = true := by rw [within_any, hx]; rfl
  clear hd hnl hx hn
  refine Br_split (fun h3 => ?_) (fun h3 => ?_) <;> simp only [go_sem, Nat.reduceBEq, Nat.reduceEqDiff, Nat.reduceLT, Nat.reduceLeDiff, Nat.reduceAdd, Nat.reduceSub, Nat.reduceMul, reduceCtorEq, Int.reduceToNat, Int.reduceEq, Int.reduceLT, Int.reduceLE, Int.reduceNe, Int.reduceNeg , or_self, or_false, false_or , List.length_map, h3]
  · have : b.ents.length > 12 := by simp at h3; omega
    simp [checkP, h1', h2, this]
  refine Br_split (fun h4 => ?_) (fun h4 => ?_) <;> simp only [go_sem, Nat.reduceBEq, Nat.reduceEqDiff, Nat.reduceLT, Nat.reduceLeDiff, Nat.reduceAdd, Nat.reduceSub, Nat.reduceMul, reduceCtorEq, Int.reduceToNat, Int.reduceEq, Int.reduceLT, Int.reduceLE, Int.reduceNe, Int.reduceNeg , or_self, or_false, false_or , List.length_map, h4]
  · have : b.recs.length > 3 := by simp at h4; omega
    simp [checkP, h1', h2, this]
  refine Br_split (fun h5 => ?_) (fun h5 => ?_) <;> simp only [go_sem, Nat.reduceBEq, Nat.reduceEqDiff, Nat.reduceLT, Nat.reduceLeDiff, Nat.reduceAdd, Nat.reduceSub, Nat.reduceMul, reduceCtorEq, Int.reduceToNat, Int.reduceEq, Int.reduceLT, Int.reduceLE, Int.reduceNe, Int.reduceNeg , or_self, or_false, false_or , List.length_map, h5]
  · have : b.made.length > 8 := by simp at h5; omega
    simp [checkP, h1', h2, this]
  have h3' : ¬ b.ents.length > 12 := by simp at h3; omega
  have h4' : ¬ b.recs.length > 3 := by simp at h4; omega
  have h5' : ¬ b.made.length > 8 := by simp at h5; omega
  have hch : checkP b = if (b.ents.any (badEnt b.stock.length) || (b.recs.any (badRec b.stock.length) || b.made.any (badMad b.recs.length))) = true then 2 else 0 := by
    unfold checkP
    rw [if_neg (by simp [h1', h2]), if_neg (by simp; omega)]
  rw [hch]
  clear hch
  refine ALoop.by (S := Nat) (fun i => [(5, .d (.int .i64 i)), (3, .d (.int .i64 b.stock.length)), (1, .ptr 0 0)]) (fun _ => [.cells (bookV b)]) (fun i => b.ents.length - i) (fun i => i ≤ b.ents.length ∧ (b.ents.take i).any (badEnt b.stock.length) = false) 0 (by simp) (fun _ h => nomatch h) ⟨Nat.zero_le _, rfl⟩ ?_ ?_
  · exact ForgetTo.same' (by simp) (by simp [EWe, Env.look]) (by simp [bookV])
  rintro i ⟨hi, hx⟩ hn
  refine AWP.run (fun _ => false) tt_ok (fun _ h => nomatch h) (by simp) rfl ?_
  simp only [go_sem, Nat.reduceBEq, Nat.reduceEqDiff, Nat.reduceLT, Nat.reduceLeDiff, Nat.reduceAdd, Nat.reduceSub, Nat.reduceMul, reduceCtorEq, Int.reduceToNat, Int.reduceEq, Int.reduceLT, Int.reduceLE, Int.reduceNe, Int.reduceNeg , or_self, or_false, false_or , List.length_map, bookV]
  refine Br_split (fun hd => ?_) (fun hd => ?_) <;> simp only [go_sem, Nat.reduceBEq, Nat.reduceEqDiff, Nat.reduceLT, Nat.reduceLeDiff, Nat.reduceAdd, Nat.reduceSub, Nat.reduceMul, reduceCtorEq, Int.reduceToNat, Int.reduceEq, Int.reduceLT, Int.reduceLE, Int.reduceNe, Int.reduceNeg , or_self, or_false, false_or , List.length_map, hd]
  · have hlt : i < b.ents.length := by simpa using hd
    simp only [go_sem, Nat.reduceBEq, Nat.reduceEqDiff, Nat.reduceLT, Nat.reduceLeDiff, Nat.reduceAdd, Nat.reduceSub, Nat.reduceMul, reduceCtorEq, Int.reduceToNat, Int.reduceEq, Int.reduceLT, Int.reduceLE, Int.reduceNe, Int.reduceNeg , or_self, or_false, false_or , List.length_map, idx_nat, List.getElem?_map, List.getElem?_eq_getElem hlt, Ent.d]
    have kb : badEnt b.stock.length b.ents[i] = true → b.ents.any (badEnt b.stock.length) = true := any_at hlt
    have kn : badEnt b.stock.length b.ents[i] = false → (b.ents.take (i + 1)).any (badEnt b.stock.length) = false := fun h => by rw [any_take hlt, hx, h]; rfl
    refine (c37w b.ents[i].day 0 365).call rfl rfl rfl ?_
    simp only [go_sem, Nat.reduceBEq, Nat.reduceEqDiff, Nat.reduceLT, Nat.reduceLeDiff, Nat.reduceAdd, Nat.reduceSub, Nat.reduceMul, reduceCtorEq, Int.reduceToNat, Int.reduceEq, Int.reduceLT, Int.reduceLE, Int.reduceNe, Int.reduceNeg , or_self, or_false, false_or , List.length_map]
    refine Br_split (fun e1 => ?_) (fun e1 => ?_) <;> simp only [go_sem, Nat.reduceBEq, Nat.reduceEqDiff, Nat.reduceLT, Nat.reduceLeDiff, Nat.reduceAdd, Nat.reduceSub, Nat.reduceMul, reduceCtorEq, Int.reduceToNat, Int.reduceEq, Int.reduceLT, Int.reduceLE, Int.reduceNe, Int.reduceNeg , or_self, or_false, false_or , List.length_map, e1]
    · have e1' : (!within 0 365 [b.ents[i].day]) = true := e1
      simp [kb (by simp only [badEnt, e1', Bool.true_or])]
    have e1' : (!within 0 365 [b.ents[i].day]) = false := e1
    refine (c37w b.ents[i].goods 0 (IntKind.i64.wrap ((b.stock.length : Int) - 1))).call rfl rfl rfl ?_
    simp only [go_sem, Nat.reduceBEq, Nat.reduceEqDiff, Nat.reduceLT, Nat.reduceLeDiff, Nat.reduceAdd, Nat.reduceSub, Nat.reduceMul, reduceCtorEq, Int.reduceToNat, Int.reduceEq, Int.reduceLT, Int.reduceLE, Int.reduceNe, Int.reduceNeg , or_self, or_false, false_or , List.length_map]
    refine Br_split (fun e2 => ?_) (fun e2 => ?_) <;> simp only [go_sem, Nat.reduceBEq, Nat.reduceEqDiff, Nat.reduceLT, Nat.reduceLeDiff, Nat.reduceAdd, Nat.reduceSub, Nat.reduceMul, reduceCtorEq, Int.reduceToNat, Int.reduceEq, Int.reduceLT, Int.reduceLE, Int.reduceNe, Int.reduceNeg , or_self, or_false, false_or , List.length_map, e2]
    · have e2' : (!within 0 (IntKind.i64.wrap ((b.stock.length : Int) - 1)) [b.ents[i].goods]) = true := e2
      simp [kb (by simp only [badEnt, e2', Bool.true_or, Bool.or_true])]
    have e2' : (!within 0 (IntKind.i64.wrap ((b.stock.length : Int) - 1)) [b.ents[i].goods]) = false := e2
    refine (c37w b.ents[i].amount (-1000) 1000).call rfl rfl rfl ?_
    simp only [go_sem, Nat.reduceBEq, Nat.reduceEqDiff, Nat.reduceLT, Nat.reduceLeDiff, Nat.reduceAdd, Nat.reduceSub, Nat.reduceMul, reduceCtorEq, Int.reduceToNat, Int.reduceEq, Int.reduceLT, Int.reduceLE, Int.reduceNe, Int.reduceNeg , or_self, or_false, false_or , List.length_map]
    refine Br_split (fun e3 => ?_) (fun e3 => ?_) <;> simp only [go_sem, Nat.reduceBEq, Nat.reduceEqDiff, Nat.reduceLT, Nat.reduceLeDiff, Nat.reduceAdd, Nat.reduceSub, Nat.reduceMul, reduceCtorEq, Int.reduceToNat, Int.reduceEq, Int.reduceLT, Int.reduceLE, Int.reduceNe, Int.reduceNeg , or_self, or_false, false_or , List.length_map, e3]
    · have e3' : (!within (-1000) 1000 [b.ents[i].amount]) = true := e3
      simp [kb (by simp only [badEnt, e3', Bool.true_or, Bool.or_true])]
    have e3' : (!within (-1000) 1000 [b.ents[i].amount]) = false := e3
    refine Br_split (fun e4 => ?_) (fun e4 => ?_) <;> simp only [go_sem, Nat.reduceBEq, Nat.reduceEqDiff, Nat.reduceLT, Nat.reduceLeDiff, Nat.reduceAdd, Nat.reduceSub, Nat.reduceMul, reduceCtorEq, Int.reduceToNat, Int.reduceEq, Int.reduceLT, Int.reduceLE, Int.reduceNe, Int.reduceNeg , or_self, or_false, false_or , List.length_map, e4]
    · have e4' : (b.ents[i].amount == 0) = true := by simpa using e4
      simp [kb (by simp only [badEnt, e4', Bool.true_or, Bool.or_true])]
    have e4' : (b.ents[i].amount == 0) = false := by simpa using e4
    refine ⟨i + 1, ⟨hlt, kn (by simp only [badEnt, e1', e2', e3', e4', Bool.or_false])⟩, by omega, ?_⟩
    simp [ForgetTo, EW, VW, BBq, BBs, BB, VBs, VB, Env.look, pubV, bookV, w64 (n := (i : Int) + 1) (by omega) (by omega)]
  have hnl : ¬ i < b.ents.length := by simpa using hd
  rw [List.take_of_length_le (by omega)] at hx
  rw [hx]
  simp only [Bool.false_or]
  clear hx
  refine ALoop.by (S := Nat) (fun i => [(7, .d (.int .i64 i)), (3, .d (.int .i64 b.stock.length)), (1, .ptr 0 0)]) (fun _ => [.cells (bookV b)]) (fun i => b.recs.length - i) (fun i => i ≤ b.recs.length ∧ (b.recs.take i).any (badRec b.stock.length) = false) 0 (by simp) (fun _ h => nomatch h) ⟨Nat.zero_le _, rfl⟩ ?_ ?_
  · exact ForgetTo.same' (by simp) (by simp [EWe, Env.look]) (by simp [bookV])
  rintro i ⟨hi, hx⟩ hn
  refine AWP.run (fun _ => false) tt_ok (fun _ h => nomatch h) (by simp) rfl ?_
  simp only [go_sem, Nat.reduceBEq, Nat.reduceEqDiff, Nat.reduceLT, Nat.reduceLeDiff, Nat.reduceAdd, Nat.reduceSub, Nat.reduceMul, reduceCtorEq, Int.reduceToNat, Int.reduceEq, Int.reduceLT, Int.reduceLE, Int.reduceNe, Int.reduceNeg , or_self, or_false, false_or , List.length_map, bookV]
  refine Br_split (fun hd => ?_) (fun hd => ?_) <;> simp only [go_sem, Nat.reduceBEq, Nat.reduceEqDiff, Nat.reduceLT, Nat.reduceLeDiff, Nat.reduceAdd, Nat.reduceSub, Nat.reduceMul, reduceCtorEq, Int.reduceToNat, Int.reduceEq, Int.reduceLT, Int.reduceLE, Int.reduceNe, Int.reduceNeg , or_self, or_false, false_or , List.length_map, hd]
  · have hlt : i < b.recs.length := by simpa using hd
    simp only [go_sem, Nat.reduceBEq, Nat.reduceEqDiff, Nat.reduceLT, Nat.reduceLeDiff, Nat.reduceAdd, Nat.reduceSub, Nat.reduceMul, reduceCtorEq, Int.reduceToNat, Int.reduceEq, Int.reduceLT, Int.reduceLE, Int.reduceNe, Int.reduceNeg , or_self, or_false, false_or , List.length_map, idx_nat, List.getElem?_map, List.getElem?_eq_getElem hlt, recD]
    have kb : badRec b.stock.length b.recs[i] = true → b.recs.any (badRec b.stock.length) = true := any_at hlt
    have kn : badRec b.stock.length b.recs[i] = false → (b.recs.take (i + 1)).any (badRec b.stock.length) = false := fun h => by rw [any_take hlt, hx, h]; rfl
    refine Br_split (fun e1 => ?_) (fun e1 => ?_) <;> simp only [go_sem, Nat.reduceBEq, Nat.reduceEqDiff, Nat.reduceLT, Nat.reduceLeDiff, Nat.reduceAdd, Nat.reduceSub, Nat.reduceMul, reduceCtorEq, Int.reduceToNat, Int.reduceEq, Int.reduceLT, Int.reduceLE, Int.reduceNe, Int.reduceNeg , or_self, or_false, false_or , List.length_map, e1]
    · simp [kb (by simp only [badRec, e1, Bool.true_or])]
    have hrl : b.recs[i].length = b.stock.length := by simp at e1; omega
    have hcat : ∀ j, j < b.recs[i].length → badSpan (b.recs[i].getD j ⟨0, 0⟩) = true → badRec b.stock.length b.recs[i] = true := by
      intro j hj h
      rw [getD_eq hj] at h
      simp only [badRec, any_at hj h, Bool.or_true]
    generalize b.recs[i] = r at *
    refine ALoop.by (S := Nat) (fun j => [(9, .d (.int .i64 j)), (8, .d (.sl (r.map Sp.d))), (7, .d (.int .i64 i)), (3, .d (.int .i64 b.stock.length)), (1, .ptr 0 0)]) (fun _ => [.cells (bookV b)]) (fun j => r.length - j) (fun j => j ≤ r.length ∧ (r.take j).any badSpan = false) 0 (by simp) (fun _ h => nomatch h) ⟨Nat.zero_le _, rfl⟩ ?_ ?_
    · exact ForgetTo.same' (by simp) (by simp [EWe, Env.look]) (by simp [bookV])
    rintro j ⟨hj, hy⟩ hn
    refine AWP.run (fun _ => false) tt_ok (fun _ h => nomatch h) (by simp) rfl ?_
    simp only [go_sem, Nat.reduceBEq, Nat.reduceEqDiff, Nat.reduceLT, Nat.reduceLeDiff, Nat.reduceAdd, Nat.reduceSub, Nat.reduceMul, reduceCtorEq, Int.reduceToNat, Int.reduceEq, Int.reduceLT, Int.reduceLE, Int.reduceNe, Int.reduceNeg , or_self, or_false, false_or , List.length_map, bookV]
    refine Br_split (fun hd => ?_) (fun hd => ?_) <;> simp only [go_sem, Nat.reduceBEq, Nat.reduceEqDiff, Nat.reduceLT, Nat.reduceLeDiff, Nat.reduceAdd, Nat.reduceSub, Nat.reduceMul, reduceCtorEq, Int.reduceToNat, Int.reduceEq, Int.reduceLT, Int.reduceLE, Int.reduceNe, Int.reduceNeg , or_self, or_false, false_or , List.length_map, hd]
    · have hjl : j < r.length := by have : j < b.stock.length := by simpa using hd
                                    omega
      have hc := hcat j hjl
      rw [getD_eq hjl] at hc
      refine ADrw.treeG (fun _ => false) tt_ok (by kernel_rfl) (fun _ => some .S) (.ones [0, 1, 2, 3, 4, 5, 6, 7, 8, 9, 10, 11, 12, 13, 14, 15, 16, 17, 18, 19] .done) (by simp) (fun _ h => nomatch h) rfl rfl (by kernel_rfl) ?_
      simp only [go_sem, Nat.reduceBEq, Nat.reduceEqDiff, Nat.reduceLT, Nat.reduceLeDiff, Nat.reduceAdd, Nat.reduceSub, Nat.reduceMul, reduceCtorEq, Int.reduceToNat, Int.reduceEq, Int.reduceLT, Int.reduceLE, Int.reduceNe, Int.reduceNeg , or_self, or_false, false_or , List.length_map, idx_nat, List.getElem?_map, List.getElem?_eq_getElem hjl, Sp.d]
      refine (c69w r[j]).callS rfl rfl rfl rfl rfl rfl ?_
      simp only [go_sem, Nat.reduceBEq, Nat.reduceEqDiff, Nat.reduceLT, Nat.reduceLeDiff, Nat.reduceAdd, Nat.reduceSub, Nat.reduceMul, reduceCtorEq, Int.reduceToNat, Int.reduceEq, Int.reduceLT, Int.reduceLE, Int.reduceNe, Int.reduceNeg , or_self, or_false, false_or , List.length_map]
      refine Br_split (fun f1 => ?_) (fun f1 => ?_) <;> simp only [go_sem, Nat.reduceBEq, Nat.reduceEqDiff, Nat.reduceLT, Nat.reduceLeDiff, Nat.reduceAdd, Nat.reduceSub, Nat.reduceMul, reduceCtorEq, Int.reduceToNat, Int.reduceEq, Int.reduceLT, Int.reduceLE, Int.reduceNe, Int.reduceNeg , or_self, or_false, false_or , List.length_map, f1]
      · have f1' : (!(within 0 50 [r[j].lo, r[j].hi] && decide (r[j].lo ≤ r[j].hi))) = true := f1
        simp [kb (hc (by simp only [badSpan, f1', Bool.true_or]))]
      have f1' : (!(within 0 50 [r[j].lo, r[j].hi] && decide (r[j].lo ≤ r[j].hi))) = false := f1
      simp only [go_sem, Nat.reduceBEq, Nat.reduceEqDiff, Nat.reduceLT, Nat.reduceLeDiff, Nat.reduceAdd, Nat.reduceSub, Nat.reduceMul, reduceCtorEq, Int.reduceToNat, Int.reduceEq, Int.reduceLT, Int.reduceLE, Int.reduceNe, Int.reduceNeg , or_self, or_false, false_or , List.length_map, idx_nat, List.getElem?_map, List.getElem?_eq_getElem hjl, Sp.d]
      refine Br_split (fun f2 => ?_) (fun f2 => ?_) <;> simp only [go_sem, Nat.reduceBEq, Nat.reduceEqDiff, Nat.reduceLT, Nat.reduceLeDiff, Nat.reduceAdd, Nat.reduceSub, Nat.reduceMul, reduceCtorEq, Int.reduceToNat, Int.reduceEq, Int.reduceLT, Int.reduceLE, Int.reduceNe, Int.reduceNeg , or_self, or_false, false_or , List.length_map, f2]
      · have f2' : IntKind.i64.wrap (r[j].hi - r[j].lo) ≥ 8 := by simp at f2; omega
        simp [kb (hc (by simp [badSpan, f2']))]
      have f2' : ¬ IntKind.i64.wrap (r[j].hi - r[j].lo) ≥ 8 := by simp at f2; omega
      refine ⟨j + 1, ⟨hjl, by rw [any_take hjl, hy, badSpan, f1']; simp; omega⟩, by omega, ?_⟩
      exact ForgetTo.same' (by simp) (by simp [EWe, Env.look, w64 (n := (j : Int) + 1) (by omega) (by omega)]) (by simp [bookV])
    have hnj : ¬ j < r.length := by have : ¬ j < b.stock.length := by simpa using hd
                                    omega
    rw [List.take_of_length_le (by omega)] at hy
    refine ⟨i + 1, ⟨hlt, kn (by simp only [badRec, e1, hy, Bool.or_false])⟩, by omega, ?_⟩
    exact ForgetTo.same' (by simp) (by simp [EWe, Env.look, w64 (n := (i : Int) + 1) (by omega) (by omega)]) (by simp [bookV])
  have hnl : ¬ i < b.recs.length := by simpa using hd
  rw [List.take_of_length_le (by omega)] at hx
  rw [hx]
  simp only [Bool.false_or]
  clear hx
  refine ALoop.by (S := Nat) (fun i => [(10, .d (.int .i64 i)), (1, .ptr 0 0)]) (fun _ => [.cells (bookV b)]) (fun i => b.made.length - i) (fun i => i ≤ b.made.length ∧ (b.made.take i).any (badMad b.recs.length) = false) 0 (by simp) (fun _ h => nomatch h) ⟨Nat.zero_le _, rfl⟩ ?_ ?_
  · exact ForgetTo.same' (by simp) (by simp [EWe, Env.look]) (by simp [bookV])
  rintro i ⟨hi, hx⟩ hn
  refine AWP.run (fun _ => false) tt_ok (fun _ h => nomatch h) (by simp) rfl ?_
  simp only [go_sem, Nat.reduceBEq, Nat.reduceEqDiff, Nat.reduceLT, Nat.reduceLeDiff, Nat.reduceAdd, Nat.reduceSub, Nat.reduceMul, reduceCtorEq, Int.reduceToNat, Int.reduceEq, Int.reduceLT, Int.reduceLE, Int.reduceNe, Int.reduceNeg , or_self, or_false, false_or , List.length_map, bookV]
  refine Br_split (fun hd => ?_) (fun hd => ?_) <;> simp only [go_sem, Nat.reduceBEq, Nat.reduceEqDiff, Nat.reduceLT, Nat.reduceLeDiff, Nat.reduceAdd, Nat.reduceSub, Nat.reduceMul, reduceCtorEq, Int.reduceToNat, Int.reduceEq, Int.reduceLT, Int.reduceLE, Int.reduceNe, Int.reduceNeg , or_self, or_false, false_or , List.length_map, hd]
  · have hlt : i < b.made.length := by simpa using hd
    simp only [go_sem, Nat.reduceBEq, Nat.reduceEqDiff, Nat.reduceLT, Nat.reduceLeDiff, Nat.reduceAdd, Nat.reduceSub, Nat.reduceMul, reduceCtorEq, Int.reduceToNat, Int.reduceEq, Int.reduceLT, Int.reduceLE, Int.reduceNe, Int.reduceNeg , or_self, or_false, false_or , List.length_map, idx_nat, List.getElem?_map, List.getElem?_eq_getElem hlt, Mad.d]
    have kb : badMad b.recs.length b.made[i] = true → b.made.any (badMad b.recs.length) = true := any_at hlt
    have kn : badMad b.recs.length b.made[i] = false → (b.made.take (i + 1)).any (badMad b.recs.length) = false := fun h => by rw [any_take hlt, hx, h]; rfl
    refine (c37w b.made[i].day 0 365).call rfl rfl rfl ?_
    simp only [go_sem, Nat.reduceBEq, Nat.reduceEqDiff, Nat.reduceLT, Nat.reduceLeDiff, Nat.reduceAdd, Nat.reduceSub, Nat.reduceMul, reduceCtorEq, Int.reduceToNat, Int.reduceEq, Int.reduceLT, Int.reduceLE, Int.reduceNe, Int.reduceNeg , or_self, or_false, false_or , List.length_map]
    refine Br_split (fun e1 => ?_) (fun e1 => ?_) <;> simp only [go_sem, Nat.reduceBEq, Nat.reduceEqDiff, Nat.reduceLT, Nat.reduceLeDiff, Nat.reduceAdd, Nat.reduceSub, Nat.reduceMul, reduceCtorEq, Int.reduceToNat, Int.reduceEq, Int.reduceLT, Int.reduceLE, Int.reduceNe, Int.reduceNeg , or_self, or_false, false_or , List.length_map, e1]
    · have e1' : (!within 0 365 [b.made[i].day]) = true := e1
      simp [kb (by simp only [badMad, e1', Bool.true_or])]
    have e1' : (!within 0 365 [b.made[i].day]) = false := e1
    refine (c37w b.made[i].kind 0 (IntKind.i64.wrap ((b.recs.length : Int) - 1))).call rfl rfl rfl ?_
    simp only [go_sem, Nat.reduceBEq, Nat.reduceEqDiff, Nat.reduceLT, Nat.reduceLeDiff, Nat.reduceAdd, Nat.reduceSub, Nat.reduceMul, reduceCtorEq, Int.reduceToNat, Int.reduceEq, Int.reduceLT, Int.reduceLE, Int.reduceNe, Int.reduceNeg , or_self, or_false, false_or , List.length_map]
    refine Br_split (fun e2 => ?_) (fun e2 => ?_) <;> simp only [go_sem, Nat.reduceBEq, Nat.reduceEqDiff, Nat.reduceLT, Nat.reduceLeDiff, Nat.reduceAdd, Nat.reduceSub, Nat.reduceMul, reduceCtorEq, Int.reduceToNat, Int.reduceEq, Int.reduceLT, Int.reduceLE, Int.reduceNe, Int.reduceNeg , or_self, or_false, false_or , List.length_map, e2]
    · have e2' : (!within 0 (IntKind.i64.wrap ((b.recs.length : Int) - 1)) [b.made[i].kind]) = true := e2
      simp [kb (by simp only [badMad, e2', Bool.true_or, Bool.or_true])]
    have e2' : (!within 0 (IntKind.i64.wrap ((b.recs.length : Int) - 1)) [b.made[i].kind]) = false := e2
    refine (c37w b.made[i].many 1 100).call rfl rfl rfl ?_
    simp only [go_sem, Nat.reduceBEq, Nat.reduceEqDiff, Nat.reduceLT, Nat.reduceLeDiff, Nat.reduceAdd, Nat.reduceSub, Nat.reduceMul, reduceCtorEq, Int.reduceToNat, Int.reduceEq, Int.reduceLT, Int.reduceLE, Int.reduceNe, Int.reduceNeg , or_self, or_false, false_or , List.length_map]
    refine Br_split (fun e3 => ?_) (fun e3 => ?_) <;> simp only [go_sem, Nat.reduceBEq, Nat.reduceEqDiff, Nat.reduceLT, Nat.reduceLeDiff, Nat.reduceAdd, Nat.reduceSub, Nat.reduceMul, reduceCtorEq, Int.reduceToNat, Int.reduceEq, Int.reduceLT, Int.reduceLE, Int.reduceNe, Int.reduceNeg , or_self, or_false, false_or , List.length_map, e3]
    · have e3' : (!within 1 100 [b.made[i].many]) = true := e3
      simp [kb (by simp only [badMad, e3', Bool.true_or, Bool.or_true])]
    have e3' : (!within 1 100 [b.made[i].many]) = false := e3
    refine ⟨i + 1, ⟨hlt, kn (by simp only [badMad, e1', e2', e3', Bool.or_false])⟩, by omega, ?_⟩
    simp [ForgetTo, EW, VW, BBq, BBs, BB, VBs, VB, Env.look, pubV, bookV, w64 (n := (i : Int) + 1) (by omega) (by omega)]
  have hnl : ¬ i < b.made.length := by simpa using hd
  rw [List.take_of_length_le (by omega)] at hx
  simp [hx]
end Go.Aw
end

section
namespace Go.Aw
open Go Go.Proofs Go.Proofs.Try

def largeL (b : Book) : Bool := (b.recs.take 21).any (fun r => decide (20 < r.length)) || (decide (20 < b.stock.length) || (decide (20 < b.ents.length) || (decide (20 < b.recs.length) || decide (20 < b.made.length))))

theorem dec_int (a : Nat) (n : Nat) : decide ((n : Int) < (a : Int)) = decide (n < a) := by simp [Int.ofNat_lt]

theorem c13 (b : Book) : PC prog 13 [.d b.d] (.d (.bool (largeL b))) := by
  refine PC.run (fun _ => false) tt_ok (fn := f13) (rs := [.tmp 2]) rfl rfl rfl rfl rfl rfl rfl ?_
  simp only [go_sem, Nat.reduceBEq, Nat.reduceEqDiff, Nat.reduceLT, Nat.reduceLeDiff, Nat.reduceAdd, Nat.reduceSub, Nat.reduceMul, reduceCtorEq, Int.reduceToNat, Int.reduceEq, Int.reduceLT, Int.reduceLE, Int.reduceNe, Int.reduceNeg , or_self, or_false, false_or , List.length_map, Book.d]
  refine ALoop.by (S := Nat) (fun i => [(3, .d (.int .i64 i)), (1, .ptr 0 0)]) (fun _ => [.cells (bookV b)]) (fun i => 21 - i) (fun i => i ≤ 21 ∧ i ≤ b.recs.length ∧ (b.recs.take i).any (fun r => decide (20 < r.length)) = false) 0 (by simp) (fun _ h => nomatch h) ⟨Nat.zero_le _, Nat.zero_le _, rfl⟩ ?_ ?_
  · exact ForgetTo.same' (by simp) (by simp [EWe, Env.look]) (by simp [bookV])
  rintro i ⟨hi, hi2, hx⟩ hn
  refine AWP.run (fun _ => false) tt_ok (fun _ h => nomatch h) (by simp) rfl ?_
  simp only [go_sem, Nat.reduceBEq, Nat.reduceEqDiff, Nat.reduceLT, Nat.reduceLeDiff, Nat.reduceAdd, Nat.reduceSub, Nat.reduceMul, reduceCtorEq, Int.reduceToNat, Int.reduceEq, Int.reduceLT, Int.reduceLE, Int.reduceNe, Int.reduceNeg , or_self, or_false, false_or , List.length_map, bookV]
  by_cases hd : i < b.recs.length ∧ i < 21
  · have d1 : ((i : Int) < (b.recs.length : Int)) := by omega
    have d2 : ((i : Int) < 21) := by omega
    have hlt := hd.1
    simp only [go_sem, Nat.reduceBEq, Nat.reduceEqDiff, Nat.reduceLT, Nat.reduceLeDiff, Nat.reduceAdd, Nat.reduceSub, Nat.reduceMul, reduceCtorEq, Int.reduceToNat, Int.reduceEq, Int.reduceLT, Int.reduceLE, Int.reduceNe, Int.reduceNeg , or_self, or_false, false_or , List.length_map, d1, d2, idx_nat, List.getElem?_map, List.getElem?_eq_getElem hlt, recD]
    have htk : i < (b.recs.take 21).length := by simp; omega
    refine Br_split (fun e1 => ?_) (fun e1 => ?_) <;> simp only [go_sem, Nat.reduceBEq, Nat.reduceEqDiff, Nat.reduceLT, Nat.reduceLeDiff, Nat.reduceAdd, Nat.reduceSub, Nat.reduceMul, reduceCtorEq, Int.reduceToNat, Int.reduceEq, Int.reduceLT, Int.reduceLE, Int.reduceNe, Int.reduceNeg , or_self, or_false, false_or , List.length_map, e1]
    · have e1' : 20 < b.recs[i].length := by simp at e1; omega
      have : (b.recs.take 21).any (fun r => decide (20 < r.length)) = true := any_at htk (by rw [List.getElem_take]; simpa using e1')
      simp [largeL, this]
    · have e1' : ¬ 20 < b.recs[i].length := by simp at e1; omega
      refine ⟨i + 1, ⟨hd.2, hlt, by rw [any_take hlt, hx]; simpa using e1'⟩, by omega, ?_⟩
      exact ForgetTo.same' (by simp) (by simp [EWe, Env.look, w64 (n := (i : Int) + 1) (by omega) (by omega)]) (by simp [bookV])
  · have hnx : (b.recs.take 21).any (fun r => decide (20 < r.length)) = false := by
      rcases Nat.lt_or_ge i b.recs.length with h | h
      · rw [show (21 : Nat) = i by omega]; exact hx
      · rw [List.take_of_length_le (by omega)] at hx ⊢
        · exact hx
    have hres : largeL b = (decide (20 < b.stock.length) || (decide (20 < b.ents.length) || (decide (20 < b.recs.length) || decide (20 < b.made.length)))) := by
      rw [largeL, hnx, Bool.false_or]
    rw [hres]
    have both : ((i : Int) < (b.recs.length : Int) ∧ ¬ (i : Int) < 21) ∨ ¬ (i : Int) < (b.recs.length : Int) := by omega
    have tail : ∀ {P : Bool}, P = (decide ((20 : Int) < b.stock.length) || (decide ((20 : Int) < b.ents.length) || (decide ((20 : Int) < b.recs.length) || decide ((20 : Int) < b.made.length)))) → (decide (20 < b.stock.length) || (decide (20 < b.ents.length) || (decide (20 < b.recs.length) || decide (20 < b.made.length)))) = P := by
      rintro P rfl
      rw [Bool.eq_iff_iff]
      simp only [Bool.or_eq_true, decide_eq_true_eq]
      omega
    rw [tail rfl]
    rcases both with ⟨d1, d2⟩ | d1
    · simp only [go_sem, Nat.reduceBEq, Nat.reduceEqDiff, Nat.reduceLT, Nat.reduceLeDiff, Nat.reduceAdd, Nat.reduceSub, Nat.reduceMul, reduceCtorEq, Int.reduceToNat, Int.reduceEq, Int.reduceLT, Int.reduceLE, Int.reduceNe, Int.reduceNeg , or_self, or_false, false_or , List.length_map, d1, d2]
      refine Br_split (fun f1 => ?_) (fun f1 => ?_) <;> simp only [go_sem, Nat.reduceBEq, Nat.reduceEqDiff, Nat.reduceLT, Nat.reduceLeDiff, Nat.reduceAdd, Nat.reduceSub, Nat.reduceMul, reduceCtorEq, Int.reduceToNat, Int.reduceEq, Int.reduceLT, Int.reduceLE, Int.reduceNe, Int.reduceNeg , or_self, or_false, false_or , List.length_map, f1, Bool.true_or, Bool.false_or]
      refine Br_split (fun f2 => ?_) (fun f2 => ?_) <;> simp only [go_sem, Nat.reduceBEq, Nat.reduceEqDiff, Nat.reduceLT, Nat.reduceLeDiff, Nat.reduceAdd, Nat.reduceSub, Nat.reduceMul, reduceCtorEq, Int.reduceToNat, Int.reduceEq, Int.reduceLT, Int.reduceLE, Int.reduceNe, Int.reduceNeg , or_self, or_false, false_or , List.length_map, f1, f2, Bool.true_or, Bool.false_or]
      refine Br_split (fun f3 => ?_) (fun f3 => ?_) <;> simp only [go_sem, Nat.reduceBEq, Nat.reduceEqDiff, Nat.reduceLT, Nat.reduceLeDiff, Nat.reduceAdd, Nat.reduceSub, Nat.reduceMul, reduceCtorEq, Int.reduceToNat, Int.reduceEq, Int.reduceLT, Int.reduceLE, Int.reduceNe, Int.reduceNeg , or_self, or_false, false_or , List.length_map, f1, f2, f3, Bool.true_or, Bool.false_or]
    · simp only [go_sem, Nat.reduceBEq, Nat.reduceEqDiff, Nat.reduceLT, Nat.reduceLeDiff, Nat.reduceAdd, Nat.reduceSub, Nat.reduceMul, reduceCtorEq, Int.reduceToNat, Int.reduceEq, Int.reduceLT, Int.reduceLE, Int.reduceNe, Int.reduceNeg , or_self, or_false, false_or , List.length_map, d1]
      refine Br_split (fun f1 => ?_) (fun f1 => ?_) <;> simp only [go_sem, Nat.reduceBEq, Nat.reduceEqDiff, Nat.reduceLT, Nat.reduceLeDiff, Nat.reduceAdd, Nat.reduceSub, Nat.reduceMul, reduceCtorEq, Int.reduceToNat, Int.reduceEq, Int.reduceLT, Int.reduceLE, Int.reduceNe, Int.reduceNeg , or_self, or_false, false_or , List.length_map, f1, Bool.true_or, Bool.false_or]
      refine Br_split (fun f2 => ?_) (fun f2 => ?_) <;> simp only [go_sem, Nat.reduceBEq, Nat.reduceEqDiff, Nat.reduceLT, Nat.reduceLeDiff, Nat.reduceAdd, Nat.reduceSub, Nat.reduceMul, reduceCtorEq, Int.reduceToNat, Int.reduceEq, Int.reduceLT, Int.reduceLE, Int.reduceNe, Int.reduceNeg , or_self, or_false, false_or , List.length_map, f1, f2, Bool.true_or, Bool.false_or]
      refine Br_split (fun f3 => ?_) (fun f3 => ?_) <;> simp only [go_sem, Nat.reduceBEq, Nat.reduceEqDiff, Nat.reduceLT, Nat.reduceLeDiff, Nat.reduceAdd, Nat.reduceSub, Nat.reduceMul, reduceCtorEq, Int.reduceToNat, Int.reduceEq, Int.reduceLT, Int.reduceLE, Int.reduceNe, Int.reduceNeg , or_self, or_false, false_or , List.length_map, f1, f2, f3, Bool.true_or, Bool.false_or]

/-- Books of which the law speaks. -/
theorem large_fits {b : Book} (h : largeL b = false) : (∀ r ∈ b.recs, r.length ≤ 20) ∧ b.stock.length ≤ 20 ∧ b.ents.length ≤ 20 ∧ b.recs.length ≤ 20 ∧ b.made.length ≤ 20 := by
  simp only [largeL, Bool.or_eq_false_iff, decide_eq_false_iff_not, Nat.not_lt] at h
  obtain ⟨h0, h1, h2, h3, h4⟩ := h
  refine ⟨fun r hr => ?_, h1, h2, h3, h4⟩
  rw [List.take_of_length_le (by omega)] at h0
  have := any_false h0 r hr
  simpa using this

theorem large_fits' {b : Book} (h : largeL b = false) : b.Fits := by
  obtain ⟨h0, h1, h2, h3, h4⟩ := large_fits h
  exact ⟨by omega, by omega, by omega, by omega, fun r hr => by have := h0 r hr; omega⟩
end Go.Aw
end

section
namespace Go.Aw
open Go Go.Proofs Go.Proofs.Try

theorem c20 (b : Book) (hb : b.Fits) : PC prog 20 [.d b.d, .d b.d] (.d (.bool true)) := by
  refine PC.run (fun _ => false) tt_ok (fn := f20) (rs := [.tmp 4]) rfl rfl rfl rfl rfl rfl rfl ?_
  simp only [go_sem, Nat.reduceBEq, Nat.reduceEqDiff, Nat.reduceLT, Nat.reduceLeDiff, Nat.reduceAdd, Nat.reduceSub, Nat.reduceMul, reduceCtorEq, Int.reduceToNat, Int.reduceEq, Int.reduceLT, Int.reduceLE, Int.reduceNe, Int.reduceNeg , or_self, or_false, false_or , List.length_map, Book.d]
  refine (c28 b.stock b.stock hb.stock hb.stock).call rfl rfl rfl ?_
  simp only [go_sem, Nat.reduceBEq, Nat.reduceEqDiff, Nat.reduceLT, Nat.reduceLeDiff, Nat.reduceAdd, Nat.reduceSub, Nat.reduceMul, reduceCtorEq, Int.reduceToNat, Int.reduceEq, Int.reduceLT, Int.reduceLE, Int.reduceNe, Int.reduceNeg , or_self, or_false, false_or , List.length_map]
  refine ALoop.by (S := Nat) (fun i => [(5, .d (.int .i64 i)), (2, .ptr 0 0), (3, .ptr 1 0)]) (fun _ => [.cells (bookV b), .cells (bookV b)]) (fun i => b.ents.length - i) (fun i => i ≤ b.ents.length) 0 (by simp) (fun _ h => nomatch h) (Nat.zero_le _) ?_ ?_
  · exact ForgetTo.same' (by simp) (by simp [EWe, Env.look]) (by simp [bookV])
  rintro i hi hn
  refine AWP.run (fun _ => false) tt_ok (fun _ h => nomatch h) (by simp) rfl ?_
  simp only [go_sem, Nat.reduceBEq, Nat.reduceEqDiff, Nat.reduceLT, Nat.reduceLeDiff, Nat.reduceAdd, Nat.reduceSub, Nat.reduceMul, reduceCtorEq, Int.reduceToNat, Int.reduceEq, Int.reduceLT, Int.reduceLE, Int.reduceNe, Int.reduceNeg , or_self, or_false, false_or , List.length_map, bookV]
  refine Br_split (fun hd => ?_) (fun hd => ?_) <;> simp only [go_sem, Nat.reduceBEq, Nat.reduceEqDiff, Nat.reduceLT, Nat.reduceLeDiff, Nat.reduceAdd, Nat.reduceSub, Nat.reduceMul, reduceCtorEq, Int.reduceToNat, Int.reduceEq, Int.reduceLT, Int.reduceLE, Int.reduceNe, Int.reduceNeg , or_self, or_false, false_or , List.length_map, hd]
  · have hlt : i < b.ents.length := by simpa using hd
    refine ADrw.treeG (fun _ => false) tt_ok (by kernel_rfl) (fun k => if k = 1 ∨ k = 6 then some .L else some .S) (.ones [0, 1, 2, 3, 4, 5, 6, 7, 8, 9, 10] .done) (by simp) (fun _ h => nomatch h) rfl rfl (by kernel_rfl) ?_
    simp only [go_sem, Nat.reduceBEq, Nat.reduceEqDiff, Nat.reduceLT, Nat.reduceLeDiff, Nat.reduceAdd, Nat.reduceSub, Nat.reduceMul, reduceCtorEq, Int.reduceToNat, Int.reduceEq, Int.reduceLT, Int.reduceLE, Int.reduceNe, Int.reduceNeg , or_self, or_false, false_or , List.length_map, idx_nat, List.getElem?_map, List.getElem?_eq_getElem hlt, Ent.d]
    refine ⟨i + 1, hlt, by omega, ?_⟩
    exact ForgetTo.same' (by simp) (by simp [EWe, Env.look, w64 (n := (i : Int) + 1) (by omega) (by have := hb.ents; have := hb.recs; have := hb.made; omega)]) (by simp [bookV])
  have hl2 : b.ents.length ≤ 4294967296 := hb.ents
  refine ALoop.by (S := Nat) (fun i => [(6, .d (.int .i64 i)), (2, .ptr 0 0), (3, .ptr 1 0)]) (fun _ => [.cells (bookV b), .cells (bookV b)]) (fun i => b.recs.length - i) (fun i => i ≤ b.recs.length) 0 (by simp) (fun _ h => nomatch h) (Nat.zero_le _) ?_ ?_
  · exact ForgetTo.same' (by simp) (by simp [EWe, Env.look]) (by simp [bookV])
  rintro i hi hn
  refine AWP.run (fun _ => false) tt_ok (fun _ h => nomatch h) (by simp) rfl ?_
  simp only [go_sem, Nat.reduceBEq, Nat.reduceEqDiff, Nat.reduceLT, Nat.reduceLeDiff, Nat.reduceAdd, Nat.reduceSub, Nat.reduceMul, reduceCtorEq, Int.reduceToNat, Int.reduceEq, Int.reduceLT, Int.reduceLE, Int.reduceNe, Int.reduceNeg , or_self, or_false, false_or , List.length_map, bookV]
  refine Br_split (fun hd => ?_) (fun hd => ?_) <;> simp only [go_sem, Nat.reduceBEq, Nat.reduceEqDiff, Nat.reduceLT, Nat.reduceLeDiff, Nat.reduceAdd, Nat.reduceSub, Nat.reduceMul, reduceCtorEq, Int.reduceToNat, Int.reduceEq, Int.reduceLT, Int.reduceLE, Int.reduceNe, Int.reduceNeg , or_self, or_false, false_or , List.length_map, hd]
  · have hlt : i < b.recs.length := by simpa using hd
    have hr := hb.takes _ (List.getElem_mem hlt)
    refine ADrw.treeG (fun _ => false) tt_ok (by kernel_rfl) (fun k => if k = 1 ∨ k = 7 then some .L else some .S) (.ones [0, 1, 2, 3, 4, 5, 6, 7, 8, 9, 10, 11, 12, 13] .done) (by simp) (fun _ h => nomatch h) rfl rfl (by kernel_rfl) ?_
    simp only [go_sem, Nat.reduceBEq, Nat.reduceEqDiff, Nat.reduceLT, Nat.reduceLeDiff, Nat.reduceAdd, Nat.reduceSub, Nat.reduceMul, reduceCtorEq, Int.reduceToNat, Int.reduceEq, Int.reduceLT, Int.reduceLE, Int.reduceNe, Int.reduceNeg , or_self, or_false, false_or , List.length_map, idx_nat, List.getElem?_map, List.getElem?_eq_getElem hlt, recD]
    refine (c21 b.recs[i] b.recs[i] hr hr).callS rfl rfl rfl rfl rfl rfl ?_
    simp only [go_sem, Nat.reduceBEq, Nat.reduceEqDiff, Nat.reduceLT, Nat.reduceLeDiff, Nat.reduceAdd, Nat.reduceSub, Nat.reduceMul, reduceCtorEq, Int.reduceToNat, Int.reduceEq, Int.reduceLT, Int.reduceLE, Int.reduceNe, Int.reduceNeg , or_self, or_false, false_or , List.length_map]
    refine ⟨i + 1, hlt, by omega, ?_⟩
    exact ForgetTo.same' (by simp) (by simp [EWe, Env.look, w64 (n := (i : Int) + 1) (by omega) (by have := hb.ents; have := hb.recs; have := hb.made; omega)]) (by simp [bookV])
  refine ALoop.by (S := Nat) (fun i => [(7, .d (.int .i64 i)), (2, .ptr 0 0), (3, .ptr 1 0)]) (fun _ => [.cells (bookV b), .cells (bookV b)]) (fun i => b.made.length - i) (fun i => i ≤ b.made.length) 0 (by simp) (fun _ h => nomatch h) (Nat.zero_le _) ?_ ?_
  · exact ForgetTo.same' (by simp) (by simp [EWe, Env.look]) (by simp [bookV])
  rintro i hi hn
  refine AWP.run (fun _ => false) tt_ok (fun _ h => nomatch h) (by simp) rfl ?_
  simp only [go_sem, Nat.reduceBEq, Nat.reduceEqDiff, Nat.reduceLT, Nat.reduceLeDiff, Nat.reduceAdd, Nat.reduceSub, Nat.reduceMul, reduceCtorEq, Int.reduceToNat, Int.reduceEq, Int.reduceLT, Int.reduceLE, Int.reduceNe, Int.reduceNeg , or_self, or_false, false_or , List.length_map, bookV]
  refine Br_split (fun hd => ?_) (fun hd => ?_) <;> simp only [go_sem, Nat.reduceBEq, Nat.reduceEqDiff, Nat.reduceLT, Nat.reduceLeDiff, Nat.reduceAdd, Nat.reduceSub, Nat.reduceMul, reduceCtorEq, Int.reduceToNat, Int.reduceEq, Int.reduceLT, Int.reduceLE, Int.reduceNe, Int.reduceNeg , or_self, or_false, false_or , List.length_map, hd]
  · have hlt : i < b.made.length := by simpa using hd
    refine ADrw.treeG (fun _ => false) tt_ok (by kernel_rfl) (fun k => if k = 1 ∨ k = 6 then some .L else some .S) (.ones [0, 1, 2, 3, 4, 5, 6, 7, 8, 9, 10] .done) (by simp) (fun _ h => nomatch h) rfl rfl (by kernel_rfl) ?_
    simp only [go_sem, Nat.reduceBEq, Nat.reduceEqDiff, Nat.reduceLT, Nat.reduceLeDiff, Nat.reduceAdd, Nat.reduceSub, Nat.reduceMul, reduceCtorEq, Int.reduceToNat, Int.reduceEq, Int.reduceLT, Int.reduceLE, Int.reduceNe, Int.reduceNeg , or_self, or_false, false_or , List.length_map, idx_nat, List.getElem?_map, List.getElem?_eq_getElem hlt, Mad.d]
    refine ⟨i + 1, hlt, by omega, ?_⟩
    exact ForgetTo.same' (by simp) (by simp [EWe, Env.look, w64 (n := (i : Int) + 1) (by omega) (by have := hb.ents; have := hb.recs; have := hb.made; omega)]) (by simp [bookV])
end Go.Aw
end

section
namespace Go.Aw
open Go Go.Proofs Go.Proofs.Try

theorem c15 (b : Book) (hb : b.Fits) : PC prog 15 [.d b.d] (.d b.d) := by
  have h1 := hb.stock
  have h2 := hb.ents
  have h3 := hb.made
  have h4 := hb.recs
  have z1 : sized 1 (b.stock.map (D.int .i64)) = true := by simp [sized, dcells]
  have z2 : sized 3 (b.ents.map Ent.d) = true := by simp [sized, Ent.d, dcells]
  have z3 : sized 3 (b.made.map Mad.d) = true := by simp [sized, Mad.d, dcells]
  refine PC.run (fun k => k == 17 || k == 37) tt_ok (fn := f15) (rs := [.cell 2 27]) rfl rfl rfl rfl rfl rfl rfl ?_
  simp only [go_sem, Nat.reduceBEq, Nat.reduceEqDiff, Nat.reduceLT, Nat.reduceLeDiff, Nat.reduceAdd, Nat.reduceSub, Nat.reduceMul, reduceCtorEq, Int.reduceToNat, Int.reduceEq, Int.reduceLT, Int.reduceLE, Int.reduceNe, Int.reduceNeg , or_self, or_false, false_or , List.length_map, Book.d, Bool.or_true, Bool.true_or, Bool.or_false, Bool.false_or]
  refine ADrw.treeG (fun k => k == 17 || k == 37) tt_ok (by kernel_rfl) (fun k => if k = 2 ∨ k = 6 ∨ k = 10 then some .L else if k = 13 then some .A else if k = 14 then some .W else some .S) (.ones [0, 1, 2, 3, 4, 5, 6, 7, 8, 9, 10, 11, 12, 13, 14] .done) (by simp) (fun _ h => nomatch h) rfl rfl (by kernel_rfl) ?_
  simp only [go_sem, Nat.reduceBEq, Nat.reduceEqDiff, Nat.reduceLT, Nat.reduceLeDiff, Nat.reduceAdd, Nat.reduceSub, Nat.reduceMul, reduceCtorEq, Int.reduceToNat, Int.reduceEq, Int.reduceLT, Int.reduceLE, Int.reduceNe, Int.reduceNeg , or_self, or_false, false_or , List.length_map, Bool.or_true, Bool.true_or, Bool.or_false, Bool.false_or, z1, z2, z3, h1, h2, h3]
  refine ALoop.by (S := Nat) (fun i => [(4, .d (.int .i64 i)), (3, .ptr 2 0), (2, .ptr 1 0), (1, .ptr 0 0)])
    (fun i => match i with
      | 0 => [.cells (bookV b), .cells [.d (.sl []), .d (.sl []), .d (.sl []), .d (.sl [])], .cells [.d (.sl (b.stock.map (.int .i64))), .d (.sl (b.ents.map Ent.d)), .slx (some true) [], .d (.sl (b.made.map Mad.d))]]
      | i + 1 => [.cells (bookV b), .cells [.d (.sl []), .d (.sl []), .d (.sl []), .d (.sl [])], .cells [.d (.sl (b.stock.map (.int .i64))), .d (.sl (b.ents.map Ent.d)), .ref 3 (i + 1) 0 (i + 1), .d (.sl (b.made.map Mad.d))], .arr 1 false ((b.recs.take (i + 1)).map recD)]) (fun i => b.recs.length - i) (fun i => i ≤ b.recs.length) 0 (by simp) (fun _ h => nomatch h) (Nat.zero_le _) ?_ ?_
  · exact ForgetTo.same' (by simp) (by simp [EWe, Env.look]) (by simp [bookV])
  rintro i hi hn
  rcases i with _ | i
  · refine AWP.run (fun k => k == 17 || k == 37) tt_ok (fun _ h => nomatch h) (by simp) rfl ?_
    simp only [go_sem, Nat.reduceBEq, Nat.reduceEqDiff, Nat.reduceLT, Nat.reduceLeDiff, Nat.reduceAdd, Nat.reduceSub, Nat.reduceMul, reduceCtorEq, Int.reduceToNat, Int.reduceEq, Int.reduceLT, Int.reduceLE, Int.reduceNe, Int.reduceNeg , or_self, or_false, false_or , List.length_map, bookV, Bool.or_true, Bool.true_or, Bool.or_false, Bool.false_or]
    refine Br_split (fun hd => ?_) (fun hd => ?_) <;> simp only [go_sem, Nat.reduceBEq, Nat.reduceEqDiff, Nat.reduceLT, Nat.reduceLeDiff, Nat.reduceAdd, Nat.reduceSub, Nat.reduceMul, reduceCtorEq, Int.reduceToNat, Int.reduceEq, Int.reduceLT, Int.reduceLE, Int.reduceNe, Int.reduceNeg , or_self, or_false, false_or , List.length_map, hd, Bool.or_true, Bool.true_or, Bool.or_false, Bool.false_or]
    · have hlt : 0 < b.recs.length := by simpa using hd
      refine ADrw.treeG (fun k => k == 17 || k == 37) tt_ok (by kernel_rfl) (fun k => if k = 1 ∨ k = 4 then some .L else if k = 12 ∨ k = 14 then some .W else some .S) (.ones [0, 1, 2, 3, 4, 5, 6, 7, 8, 9, 10, 11, 12, 13, 14] .done) (by simp) (fun _ h => nomatch h) rfl rfl (by kernel_rfl) ?_
      have hr := hb.takes _ (List.getElem_mem hlt)
      have zr : sized 2 (b.recs[0].map Sp.d) = true := by simp [sized, Sp.d, dcells]
      have z0 : ((0 : Nat) : Int) = 0 := rfl
      have ix : idx? (b.recs.map recD) 0 = some (recD b.recs[0]) := by
        have := idx_nat (l := b.recs.map recD) 0
        simpa [hlt] using this
      simp only [go_sem, Nat.reduceBEq, Nat.reduceEqDiff, Nat.reduceLT, Nat.reduceLeDiff, Nat.reduceAdd, Nat.reduceSub, Nat.reduceMul, reduceCtorEq, Int.reduceToNat, Int.reduceEq, Int.reduceLT, Int.reduceLE, Int.reduceNe, Int.reduceNeg , or_self, or_false, false_or , List.length_map, Bool.or_true, Bool.true_or, Bool.or_false, Bool.false_or, z0, ix, recD, zr, hr]
      refine ⟨1, hlt, by omega, ?_⟩
      have tk : (b.recs.take 1) = [b.recs[0]] := by rw [List.take_succ_eq_append_getElem hlt]; rfl
      exact ForgetTo.same' (by simp) (by simp [EWe, Env.look, w64 (n := (1 : Int)) (by omega) (by omega)]) (by simp [bookV, tk, recD])
    · have hl0 : b.recs = [] := by
        have : ¬ 0 < b.recs.length := by simpa using hd
        exact List.length_eq_zero_iff.1 (by omega)
      simp only [go_sem, Nat.reduceBEq, Nat.reduceEqDiff, Nat.reduceLT, Nat.reduceLeDiff, Nat.reduceAdd, Nat.reduceSub, Nat.reduceMul, reduceCtorEq, Int.reduceToNat, Int.reduceEq, Int.reduceLT, Int.reduceLE, Int.reduceNe, Int.reduceNeg , or_self, or_false, false_or , List.length_map, Bool.or_true, Bool.true_or, Bool.or_false, Bool.false_or, hl0]
  · refine AWP.run (fun k => k == 17 || k == 37) tt_ok (fun _ h => nomatch h) (by simp) rfl ?_
    simp only [go_sem, Nat.reduceBEq, Nat.reduceEqDiff, Nat.reduceLT, Nat.reduceLeDiff, Nat.reduceAdd, Nat.reduceSub, Nat.reduceMul, reduceCtorEq, Int.reduceToNat, Int.reduceEq, Int.reduceLT, Int.reduceLE, Int.reduceNe, Int.reduceNeg , or_self, or_false, false_or , List.length_map, bookV, Bool.or_true, Bool.true_or, Bool.or_false, Bool.false_or]
    refine Br_split (fun hd => ?_) (fun hd => ?_) <;> simp only [go_sem, Nat.reduceBEq, Nat.reduceEqDiff, Nat.reduceLT, Nat.reduceLeDiff, Nat.reduceAdd, Nat.reduceSub, Nat.reduceMul, reduceCtorEq, Int.reduceToNat, Int.reduceEq, Int.reduceLT, Int.reduceLE, Int.reduceNe, Int.reduceNeg , or_self, or_false, false_or , List.length_map, hd, Bool.or_true, Bool.true_or, Bool.or_false, Bool.false_or]
    · have hlt : i + 1 < b.recs.length := by simp at hd; omega
      refine ADrw.treeG (fun k => k == 17 || k == 37) tt_ok (by kernel_rfl) (fun k => if k = 1 ∨ k = 4 then some .L else if k = 12 ∨ k = 14 then some .W else some .S) (.ones [0, 1, 2, 3, 4, 5, 6, 7, 8, 9, 10, 11, 12, 13, 14] .done) (by simp) (fun _ h => nomatch h) rfl rfl (by kernel_rfl) ?_
      have hr := hb.takes _ (List.getElem_mem hlt)
      have zr : sized 2 (b.recs[i + 1].map Sp.d) = true := by simp [sized, Sp.d, dcells]
      have hle : i + 1 + 1 ≤ 4294967296 := by omega
      have hmin : min (i + 1) b.recs.length = i + 1 := by omega
      simp only [go_sem, Nat.reduceBEq, Nat.reduceEqDiff, Nat.reduceLT, Nat.reduceLeDiff, Nat.reduceAdd, Nat.reduceSub, Nat.reduceMul, reduceCtorEq, Int.reduceToNat, Int.reduceEq, Int.reduceLT, Int.reduceLE, Int.reduceNe, Int.reduceNeg , or_self, or_false, false_or , List.length_map, Bool.or_true, Bool.true_or, Bool.or_false, Bool.false_or, idx_nat, List.getElem?_map, List.getElem?_eq_getElem hlt, recD, zr, hr, List.length_map, List.length_take, hmin, hle]
      refine ⟨i + 1 + 1, hlt, by omega, ?_⟩
      exact ForgetTo.same' (by simp) (by simp [EWe, Env.look, w64 (n := (i : Int) + 1 + 1) (by omega) (by omega)]) (by
        have tk := List.take_succ_eq_append_getElem hlt
        simp only [bookV, tk, List.map_append, List.map_cons, List.map_nil, recD])
    · have hnl : ¬ i + 1 < b.recs.length := by simp at hd; omega
      have htk : b.recs.take (i + 1) = b.recs := List.take_of_length_le (by omega)
      have hle : b.recs.length = i + 1 := by omega
      rw [htk]
      have ht : (b.recs.map recD).take (i + 1) = b.recs.map recD := List.take_of_length_le (by simp; omega)
      simp only [go_sem, Nat.reduceBEq, Nat.reduceEqDiff, Nat.reduceLT, Nat.reduceLeDiff, Nat.reduceAdd, Nat.reduceSub, Nat.reduceMul, reduceCtorEq, Int.reduceToNat, Int.reduceEq, Int.reduceLT, Int.reduceLE, Int.reduceNe, Int.reduceNeg , or_self, or_false, false_or , List.length_map, Bool.or_true, Bool.true_or, Bool.or_false, Bool.false_or, List.length_map, hle, ht]
end Go.Aw
end

section
namespace Go.Aw
open Go Go.Proofs Go.Proofs.Try

def upTo (s : Sp) : List Int := (List.range (s.hi - s.lo + 1).toNat).map fun k : Nat => s.lo + k

/-- All truths that begin so. -/
def truthsL : List Sp → List Int → List (List Int)
  | [], t => [t]
  | s :: r, t => (upTo s).flatMap fun n => truthsL r (t ++ [n])

def spansB (b : Book) (g : Nat) : List Sp := b.recs.map fun r => r.getD g ⟨0, 0⟩

def intsD (l : List Int) : D := .sl (l.map (.int .i64))

theorem upTo_len {s : Sp} (h : s.hi - s.lo < 8) : (upTo s).length ≤ 8 := by simp [upTo]; omega

theorem truthsL_len : ∀ (l : List Sp) (t : List Int), (∀ s ∈ l, s.hi - s.lo < 8) → (truthsL l t).length ≤ 8 ^ l.length
  | [], _, _ => by simp [truthsL]
  | s :: r, t, h => by
    simp only [truthsL, List.length_flatMap, List.length_cons, Nat.pow_succ]
    have h8 := upTo_len (h s (by simp))
    have : ∀ l : List Int, (l.map fun n => (truthsL r (t ++ [n])).length).sum ≤ 8 ^ r.length * l.length := by
      intro l
      induction l with
      | nil => simp
      | cons n l ih =>
        have := truthsL_len r (t ++ [n]) fun s hs => h s (List.mem_cons_of_mem _ hs)
        simp only [List.map_cons, List.sum_cons, List.length_cons, Nat.mul_add, Nat.mul_one]
        omega
    exact Nat.le_trans (this _) (Nat.mul_le_mul_left _ h8)

theorem c70 (b : Book) (hb : b.Ok) (g : Nat) (hg : g < b.stock.length) : ∀ (m : Nat) (t : List Int), t.length + m = b.recs.length → PC prog 70 [.d b.d, .d (.int .i64 g), .d (.sl (t.map (.int .i64)))] (.d (.sl ((truthsL ((spansB b g).drop t.length) t).map intsD))) := by
  have hr3 := hb.r3
  intro m
  induction m with
  | zero =>
    intro t ht
    refine PC.run (fun k => k == 17 || k == 42 || k == 47) tt_ok (fn := f70) (rs := [.tmp 6]) rfl rfl rfl rfl rfl rfl rfl ?_
    have htt : (t.length : Int) = (b.recs.length : Int) := by omega
    have hd : (spansB b g).drop t.length = [] := List.drop_of_length_le (by simp [spansB]; omega)
    simp only [go_sem, Nat.reduceBEq, Nat.reduceEqDiff, Nat.reduceLT, Nat.reduceLeDiff, Nat.reduceAdd, Nat.reduceSub, Nat.reduceMul, reduceCtorEq, Int.reduceToNat, Int.reduceEq, Int.reduceLT, Int.reduceLE, Int.reduceNe, Int.reduceNeg , or_self, or_false, false_or , List.length_map, Book.d, Bool.or_true, Bool.true_or, Bool.or_false, Bool.false_or, htt, hd, truthsL, intsD]
  | succ m ih =>
    intro t ht
    have hlt : t.length < b.recs.length := by omega
    refine PC.run (fun k => k == 17 || k == 42 || k == 47) tt_ok (fn := f70) (rs := [.tmp 6]) rfl rfl rfl rfl rfl rfl rfl ?_
    have htt : ¬ (t.length : Int) = (b.recs.length : Int) := by omega
    simp only [go_sem, Nat.reduceBEq, Nat.reduceEqDiff, Nat.reduceLT, Nat.reduceLeDiff, Nat.reduceAdd, Nat.reduceSub, Nat.reduceMul, reduceCtorEq, Int.reduceToNat, Int.reduceEq, Int.reduceLT, Int.reduceLE, Int.reduceNe, Int.reduceNeg , or_self, or_false, false_or , List.length_map, Book.d, Bool.or_true, Bool.true_or, Bool.or_false, Bool.false_or, htt]
    refine ADrw.treeG (fun k => k == 17 || k == 42 || k == 47) tt_ok (by kernel_rfl) (fun k => if k = 2 then some .L else if k = 11 then some .A else if k = 13 then some .W else some .S) (.ones [0, 1, 2, 3, 4, 5, 6, 7, 8, 9, 10, 11, 12, 13] .done) (by simp) (fun _ h => nomatch h) rfl rfl (by kernel_rfl) ?_
    have hrl := (hb.rv _ (List.getElem_mem hlt)).1
    have hgl : g < b.recs[t.length].length := by omega
    simp only [go_sem, Nat.reduceBEq, Nat.reduceEqDiff, Nat.reduceLT, Nat.reduceLeDiff, Nat.reduceAdd, Nat.reduceSub, Nat.reduceMul, reduceCtorEq, Int.reduceToNat, Int.reduceEq, Int.reduceLT, Int.reduceLE, Int.reduceNe, Int.reduceNeg , or_self, or_false, false_or , List.length_map, Bool.or_true, Bool.true_or, Bool.or_false, Bool.false_or, idx_nat, List.getElem?_map, List.getElem?_eq_getElem hlt, recD, List.getElem?_eq_getElem hgl, Sp.d]
    have hsp : b.recs[t.length][g] ∈ b.recs[t.length] := List.getElem_mem hgl
    have hsv := (hb.rv _ (List.getElem_mem hlt)).2 _ hsp
    have hdr : (spansB b g).drop t.length = b.recs[t.length][g] :: (spansB b g).drop (t.length + 1) := by
      rw [List.drop_eq_getElem_cons (by simp [spansB]; omega)]
      simp [spansB, hgl]
    have hall : ∀ s ∈ (spansB b g).drop (t.length + 1), s.hi - s.lo < 8 := by
      intro s hs
      obtain ⟨r, hr, rfl⟩ := List.mem_map.1 (List.mem_of_mem_drop hs)
      have := (hb.rv r hr).1
      rw [getD_eq (by omega)]
      exact ((hb.rv r hr).2 _ (List.getElem_mem _)).2.2.2
    have hln := truthsL_len ((spansB b g).drop (t.length + 1))
    rw [hdr, truthsL]
    generalize (spansB b g).drop (t.length + 1) = tl at *
    generalize b.recs[t.length][g] = s at *
    have ulen : (upTo s).length = (s.hi - s.lo + 1).toNat := by simp [upTo]
    have tlm : tl.length = m := by
      have := congrArg List.length hdr
      simp [spansB] at this; omega
    obtain ⟨L, hL⟩ : ∃ L : Nat → List (List Int), ∀ i, L i = ((upTo s).take i).flatMap fun n => truthsL tl (t ++ [n]) := ⟨_, fun _ => rfl⟩
    have hbd : ∀ i, (L i).length ≤ 512 := by
      intro i
      have h1 := truthsL_len (s :: tl) t (by intro x hx; rcases List.mem_cons.1 hx with rfl | hx; exact hsv.2.2.2; exact hall x hx)
      have h2 : (truthsL (s :: tl) t) = L i ++ ((upTo s).drop i).flatMap fun n => truthsL tl (t ++ [n]) := by
        rw [hL, ← List.flatMap_append, List.take_append_drop]; rfl
      have h3 : 8 ^ (s :: tl).length ≤ 8 ^ 3 := Nat.pow_le_pow_right (by omega) (by simp; omega)
      rw [h2, List.length_append] at h1
      omega
    have hstep : ∀ i (h : i < (upTo s).length), L (i + 1) = L i ++ truthsL tl (t ++ [s.lo + (i : Int)]) := by
      intro i h
      rw [hL, hL, List.take_succ_eq_append_getElem h, List.flatMap_append]
      simp [upTo]
    have hend : ((upTo s).flatMap fun n => truthsL tl (t ++ [n])) = L (s.hi - s.lo + 1).toNat := by rw [hL, ← ulen, List.take_length]
    have hz : L 0 = [] := by rw [hL]; rfl
    have tl1 : ∀ x : Int, (spansB b g).drop (t ++ [x]).length = tl := by
      intro x
      have := List.drop_drop (i := 1) (j := t.length) (l := spansB b g)
      rw [hdr] at this
      simpa using this.symm
    have t1 : sized 1 (t.map (D.int .i64)) = true := by simp [sized, dcells]
    have t2 : t.length ≤ 4294967296 := by omega
    have t3 : t.length + 1 ≤ 4294967296 := by omega
    have sz : ∀ l : List (List Int), sized 1 (l.map intsD) = true := fun l => by simp [sized, intsD, dcells]
    have fz : ∀ x : Int, ((t.map (D.int .i64) ++ [D.int .i64 x]).take (t.length + 1)) = (t ++ [x]).map (D.int .i64) := fun x => by
      rw [List.take_of_length_le (by simp)]; simp
    rw [hend]
    clear hend
    refine ALoop.by (S := Nat) (fun i => match i with
      | 0 => [(9, .d (.int .i64 s.lo)), (7, .slx (some false) []), (8, .ptr 1 0), (3, .ptr 0 0), (1, .d (.int .i64 g)), (2, .d (.sl (t.map (.int .i64))))]
      | i + 1 => [(9, .d (.int .i64 (s.lo + (i + 1 : Nat)))), (7, .ref 3 (L (i + 1)).length 0 (L (i + 1)).length), (8, .ptr 1 0), (3, .ptr 0 0), (1, .d (.int .i64 g)), (2, .d (.sl (t.map (.int .i64))))])
      (fun i => match i with
        | 0 => [.cells (bookV b), .cells [.d (.int .i64 s.lo), .d (.int .i64 s.hi)]]
        | i + 1 => [.cells (bookV b), .cells [.d (.int .i64 s.lo), .d (.int .i64 s.hi)], .arr 1 false (t.map (D.int .i64) ++ [D.int .i64 s.lo] ++ [.nilp]), .arr 1 false ((L (i + 1)).map intsD)]) (fun i => (s.hi - s.lo + 1).toNat - i) (fun i => i ≤ (s.hi - s.lo + 1).toNat) 0 (by simp) (fun _ h => nomatch h) (Nat.zero_le _) ?_ ?_
    · exact ForgetTo.same' (by simp) (by simp [EWe, Env.look]) (by simp [bookV])
    rintro i hi hn
    rcases i with _ | i
    · refine AWP.run (fun k => k == 17 || k == 42 || k == 47) tt_ok (fun _ h => nomatch h) (by simp) rfl ?_
      have hle : s.lo ≤ s.hi := hsv.2.1
      have hu : 0 < (upTo s).length := by omega
      have hL1 : L 1 = truthsL tl (t ++ [s.lo]) := by rw [hstep 0 hu, hz]; simp
      have hb1 := hbd 1
      rw [hL1] at hb1
      have hb2 : (truthsL tl (t ++ [s.lo])).length ≤ 4294967296 := by omega
      simp only [go_sem, Nat.reduceBEq, Nat.reduceEqDiff, Nat.reduceLT, Nat.reduceLeDiff, Nat.reduceAdd, Nat.reduceSub, Nat.reduceMul, reduceCtorEq, Int.reduceToNat, Int.reduceEq, Int.reduceLT, Int.reduceLE, Int.reduceNe, Int.reduceNeg , or_self, or_false, false_or , List.length_map, Bool.or_true, Bool.true_or, Bool.or_false, Bool.false_or, bookV, hle]
      refine ADrw.treeG (fun k => k == 17 || k == 42 || k == 47) tt_ok (by kernel_rfl) (fun k => if k = 1 then some .L else if k = 5 ∨ k = 8 ∨ k = 9 ∨ k = 10 then some .W else some .S) (.ones [0, 2, 3, 4, 6, 7] (.two 1 (.ones [5, 8, 9, 10, 11] .done) 5 (.two 1 (.ones [8, 9, 10, 11] .done) 8 (.ones [1, 9, 10, 11] .done)))) (by simp) (fun _ h => nomatch h) rfl rfl (by kernel_rfl) ?_
      simp only [go_sem, Nat.reduceBEq, Nat.reduceEqDiff, Nat.reduceLT, Nat.reduceLeDiff, Nat.reduceAdd, Nat.reduceSub, Nat.reduceMul, reduceCtorEq, Int.reduceToNat, Int.reduceEq, Int.reduceLT, Int.reduceLE, Int.reduceNe, Int.reduceNeg , or_self, or_false, false_or , List.length_map, Bool.or_true, Bool.true_or, Bool.or_false, Bool.false_or, t1, t2, t3]
      have ih1 := ih (t ++ [s.lo]) (by simp; omega)
      rw [tl1] at ih1
      refine ⟨?_, ?_, ?_⟩
      all_goals
        refine PC.callF 2 ih1 rfl rfl (by simp [frzVs, frzV, fz, Book.d, dz]) rfl rfl ?_
        simp only [go_sem, Nat.reduceBEq, Nat.reduceEqDiff, Nat.reduceLT, Nat.reduceLeDiff, Nat.reduceAdd, Nat.reduceSub, Nat.reduceMul, reduceCtorEq, Int.reduceToNat, Int.reduceEq, Int.reduceLT, Int.reduceLE, Int.reduceNe, Int.reduceNeg , or_self, or_false, false_or , List.length_map, Bool.or_true, Bool.true_or, Bool.or_false, Bool.false_or, sz, hb2]
        refine ⟨1, by omega, by omega, ?_⟩
        exact ForgetTo.same' (by simp) (by simp [EWe, Env.look, hL1, w64 (n := s.lo + 1) (by omega) (by omega)]) (by simp [bookV, hL1])
    · refine AWP.run (fun k => k == 17 || k == 42 || k == 47) tt_ok (fun _ h => nomatch h) (by simp) rfl ?_
      simp only [go_sem, Nat.reduceBEq, Nat.reduceEqDiff, Nat.reduceLT, Nat.reduceLeDiff, Nat.reduceAdd, Nat.reduceSub, Nat.reduceMul, reduceCtorEq, Int.reduceToNat, Int.reduceEq, Int.reduceLT, Int.reduceLE, Int.reduceNe, Int.reduceNeg , or_self, or_false, false_or , List.length_map, Bool.or_true, Bool.true_or, Bool.or_false, Bool.false_or, bookV]
      have hb1 := hbd (i + 1)
      refine Br_split (fun hd => ?_) (fun hd => ?_) <;> simp only [go_sem, Nat.reduceBEq, Nat.reduceEqDiff, Nat.reduceLT, Nat.reduceLeDiff, Nat.reduceAdd, Nat.reduceSub, Nat.reduceMul, reduceCtorEq, Int.reduceToNat, Int.reduceEq, Int.reduceLT, Int.reduceLE, Int.reduceNe, Int.reduceNeg , or_self, or_false, false_or , List.length_map, Bool.or_true, Bool.true_or, Bool.or_false, Bool.false_or, hd]
      · have hlt2 : i + 1 < (upTo s).length := by simp at hd; omega
        have hL1 := hstep (i + 1) hlt2
        have hb2 := hbd (i + 1 + 1)
        have hb3 : (L (i + 1)).length + (truthsL tl (t ++ [s.lo + ((i + 1 : Nat) : Int)])).length ≤ 4294967296 := by
          rw [hL1, List.length_append] at hb2; omega
        refine ADrw.treeG (fun k => k == 17 || k == 42 || k == 47) tt_ok (by kernel_rfl) (fun k => if k = 1 then some .L else if k = 5 ∨ k = 8 ∨ k = 9 ∨ k = 10 then some .W else some .S) (.ones [0, 2, 3, 4, 6, 7] (.two 1 (.ones [5, 8, 9, 10, 11] .done) 5 (.two 1 (.ones [8, 9, 10, 11] .done) 8 (.ones [1, 9, 10, 11] .done)))) (by simp) (fun _ h => nomatch h) rfl rfl (by kernel_rfl) ?_
        simp only [go_sem, Nat.reduceBEq, Nat.reduceEqDiff, Nat.reduceLT, Nat.reduceLeDiff, Nat.reduceAdd, Nat.reduceSub, Nat.reduceMul, reduceCtorEq, Int.reduceToNat, Int.reduceEq, Int.reduceLT, Int.reduceLE, Int.reduceNe, Int.reduceNeg , or_self, or_false, false_or , List.length_map, Bool.or_true, Bool.true_or, Bool.or_false, Bool.false_or, t1, t2, t3]
        have ih1 := ih (t ++ [s.lo + ((i + 1 : Nat) : Int)]) (by simp; omega)
        rw [tl1] at ih1
        refine ⟨?_, ?_, ?_⟩
        all_goals
          refine PC.callF 4 ih1 rfl rfl (by simp [frzVs, frzV, fz, Book.d, dz]) rfl rfl ?_
          simp only [go_sem, Nat.reduceBEq, Nat.reduceEqDiff, Nat.reduceLT, Nat.reduceLeDiff, Nat.reduceAdd, Nat.reduceSub, Nat.reduceMul, reduceCtorEq, Int.reduceToNat, Int.reduceEq, Int.reduceLT, Int.reduceLE, Int.reduceNe, Int.reduceNeg , or_self, or_false, false_or , List.length_map, Bool.or_true, Bool.true_or, Bool.or_false, Bool.false_or, sz, hb3]
          refine ⟨i + 1 + 1, by omega, by omega, ?_⟩
          simp [ForgetTo, EW, VW, BBq, BBs, BB, VBs, VB, Env.look, pubV, bookV, hL1, w64 (n := s.lo + ((i : Int) + 1) + 1) (by omega) (by omega)]
          try omega
      · have hend : i + 1 = (s.hi - s.lo + 1).toNat := by simp at hd; omega
        rw [← hend]
        have ht1 : ((L (i + 1)).map intsD).take (L (i + 1)).length = (L (i + 1)).map intsD := List.take_of_length_le (by simp)
        simp only [go_sem, Nat.reduceBEq, Nat.reduceEqDiff, Nat.reduceLT, Nat.reduceLeDiff, Nat.reduceAdd, Nat.reduceSub, Nat.reduceMul, reduceCtorEq, Int.reduceToNat, Int.reduceEq, Int.reduceLT, Int.reduceLE, Int.reduceNe, Int.reduceNeg , or_self, or_false, false_or , List.length_map, Bool.or_true, Bool.true_or, Bool.or_false, Bool.false_or, ht1]
end Go.Aw
end

section
namespace Go.Aw
open Go Go.Proofs Go.Proofs.Try

def lessW (day : Int) (t : List Int) (n : Int) (m : Mad) : Int := if m.day ≤ day then wr (n - wr (m.many * t.getD m.kind.toNat 0)) else n

def restR (b : Book) (g : Nat) (day : Int) (t : List Int) : Int := b.made.foldl (lessW day t) (b.ents.foldl (sumW g day) (b.stock.getD g 0))

theorem foldl_at {α β : Type} {f : β → α → β} {l : List α} {i : Nat} (h : i < l.length) (a : β) : (l.take (i + 1)).foldl f a = f ((l.take i).foldl f a) l[i] := by
  rw [List.take_succ_eq_append_getElem h, List.foldl_append]; rfl

theorem c71 (b : Book) (hb : b.Fits) (g : Nat) (hg : g < b.stock.length) (day : Int) (t : List Int) (hk : ∀ m ∈ b.made, 0 ≤ m.kind ∧ m.kind < t.length) : PC prog 71 [.d b.d, .d (.int .i64 g), .d (.int .i64 day), .d (.sl (t.map (.int .i64)))] (.d (.int .i64 (restR b g day t))) := by
  have h1 := hb.stock
  have h2 := hb.ents
  have h3 := hb.made
  refine PC.run (fun _ => false) tt_ok (fn := f71) (rs := [.tmp 8]) rfl rfl rfl rfl rfl rfl rfl ?_
  simp only [go_sem, Nat.reduceBEq, Nat.reduceEqDiff, Nat.reduceLT, Nat.reduceLeDiff, Nat.reduceAdd, Nat.reduceSub, Nat.reduceMul, reduceCtorEq, Int.reduceToNat, Int.reduceEq, Int.reduceLT, Int.reduceLE, Int.reduceNe, Int.reduceNeg , or_self, or_false, false_or , List.length_map, Book.d, idx_nat, List.getElem?_map, List.getElem?_eq_getElem hg]
  refine ALoop.by (S := Nat) (fun i => [(10, .d (.int .i64 i)), (9, .d (.int .i64 ((b.ents.take i).foldl (sumW g day) (b.stock.getD g 0)))), (4, .ptr 0 0), (1, .d (.int .i64 g)), (2, .d (.int .i64 day)), (3, .d (.sl (t.map (.int .i64))))]) (fun _ => [.cells (bookV b)]) (fun i => b.ents.length - i) (fun i => i ≤ b.ents.length) 0 (by simp) (fun _ h => nomatch h) (Nat.zero_le _) ?_ ?_
  · exact ForgetTo.same' (by simp) (by simp [EWe, Env.look, hg]) (by simp [bookV])
  rintro i hi hn
  refine AWP.run (fun _ => false) tt_ok (fun _ h => nomatch h) (by simp) rfl ?_
  simp only [go_sem, Nat.reduceBEq, Nat.reduceEqDiff, Nat.reduceLT, Nat.reduceLeDiff, Nat.reduceAdd, Nat.reduceSub, Nat.reduceMul, reduceCtorEq, Int.reduceToNat, Int.reduceEq, Int.reduceLT, Int.reduceLE, Int.reduceNe, Int.reduceNeg , or_self, or_false, false_or , List.length_map, bookV]
  refine Br_split (fun hd => ?_) (fun hd => ?_) <;> simp only [go_sem, Nat.reduceBEq, Nat.reduceEqDiff, Nat.reduceLT, Nat.reduceLeDiff, Nat.reduceAdd, Nat.reduceSub, Nat.reduceMul, reduceCtorEq, Int.reduceToNat, Int.reduceEq, Int.reduceLT, Int.reduceLE, Int.reduceNe, Int.reduceNeg , or_self, or_false, false_or , List.length_map, hd]
  · have hlt : i < b.ents.length := by simpa using hd
    have hf := foldl_at (f := sumW g day) hlt (b.stock.getD g 0)
    simp only [go_sem, Nat.reduceBEq, Nat.reduceEqDiff, Nat.reduceLT, Nat.reduceLeDiff, Nat.reduceAdd, Nat.reduceSub, Nat.reduceMul, reduceCtorEq, Int.reduceToNat, Int.reduceEq, Int.reduceLT, Int.reduceLE, Int.reduceNe, Int.reduceNeg , or_self, or_false, false_or , List.length_map, idx_nat, List.getElem?_map, List.getElem?_eq_getElem hlt, Ent.d]
    refine Br_split (fun e1 => ?_) (fun e1 => ?_) <;> simp only [go_sem, Nat.reduceBEq, Nat.reduceEqDiff, Nat.reduceLT, Nat.reduceLeDiff, Nat.reduceAdd, Nat.reduceSub, Nat.reduceMul, reduceCtorEq, Int.reduceToNat, Int.reduceEq, Int.reduceLT, Int.reduceLE, Int.reduceNe, Int.reduceNeg , or_self, or_false, false_or , List.length_map, e1]
    · have e1' : b.ents[i].goods = g := by simpa using e1
      refine Br_split (fun e2 => ?_) (fun e2 => ?_) <;> simp only [go_sem, Nat.reduceBEq, Nat.reduceEqDiff, Nat.reduceLT, Nat.reduceLeDiff, Nat.reduceAdd, Nat.reduceSub, Nat.reduceMul, reduceCtorEq, Int.reduceToNat, Int.reduceEq, Int.reduceLT, Int.reduceLE, Int.reduceNe, Int.reduceNeg , or_self, or_false, false_or , List.length_map, e2]
      · have e2' : b.ents[i].day ≤ day := by simpa using e2
        refine ⟨i + 1, hlt, by omega, ?_⟩
        rw [hf]
        simp [ForgetTo, EW, VW, BBq, BBs, BB, VBs, VB, Env.look, pubV, bookV, sumW, e1', e2', w64 (n := (i : Int) + 1) (by omega) (by omega)]
      · have e2' : ¬ b.ents[i].day ≤ day := by simpa using e2
        refine ⟨i + 1, hlt, by omega, ?_⟩
        rw [hf]
        simp [ForgetTo, EW, VW, BBq, BBs, BB, VBs, VB, Env.look, pubV, bookV, sumW, e1', e2', w64 (n := (i : Int) + 1) (by omega) (by omega)]
    · have e1' : ¬ b.ents[i].goods = g := by simpa using e1
      refine ⟨i + 1, hlt, by omega, ?_⟩
      rw [hf]
      simp [ForgetTo, EW, VW, BBq, BBs, BB, VBs, VB, Env.look, pubV, bookV, sumW, e1', w64 (n := (i : Int) + 1) (by omega) (by omega)]
  have hnl : ¬ i < b.ents.length := by simpa using hd
  rw [show b.ents.take i = b.ents from List.take_of_length_le (by omega), restR]
  generalize b.ents.foldl (sumW g day) (b.stock.getD g 0) = n0
  refine ALoop.by (S := Nat) (fun i => [(12, .d (.int .i64 i)), (9, .d (.int .i64 ((b.made.take i).foldl (lessW day t) n0))), (4, .ptr 0 0), (2, .d (.int .i64 day)), (3, .d (.sl (t.map (.int .i64))))]) (fun _ => [.cells (bookV b)]) (fun i => b.made.length - i) (fun i => i ≤ b.made.length) 0 (by simp) (fun _ h => nomatch h) (Nat.zero_le _) ?_ ?_
  · exact ForgetTo.same' (by simp) (by simp [EWe, Env.look]) (by simp [bookV])
  clear hi hn hd hnl
  rintro i hi hn
  refine AWP.run (fun _ => false) tt_ok (fun _ h => nomatch h) (by simp) rfl ?_
  simp only [go_sem, Nat.reduceBEq, Nat.reduceEqDiff, Nat.reduceLT, Nat.reduceLeDiff, Nat.reduceAdd, Nat.reduceSub, Nat.reduceMul, reduceCtorEq, Int.reduceToNat, Int.reduceEq, Int.reduceLT, Int.reduceLE, Int.reduceNe, Int.reduceNeg , or_self, or_false, false_or , List.length_map, bookV]
  refine Br_split (fun hd => ?_) (fun hd => ?_) <;> simp only [go_sem, Nat.reduceBEq, Nat.reduceEqDiff, Nat.reduceLT, Nat.reduceLeDiff, Nat.reduceAdd, Nat.reduceSub, Nat.reduceMul, reduceCtorEq, Int.reduceToNat, Int.reduceEq, Int.reduceLT, Int.reduceLE, Int.reduceNe, Int.reduceNeg , or_self, or_false, false_or , List.length_map, hd]
  · have hlt : i < b.made.length := by simpa using hd
    have hf := foldl_at (f := lessW day t) hlt n0
    obtain ⟨k1, k2⟩ := hk _ (List.getElem_mem hlt)
    simp only [go_sem, Nat.reduceBEq, Nat.reduceEqDiff, Nat.reduceLT, Nat.reduceLeDiff, Nat.reduceAdd, Nat.reduceSub, Nat.reduceMul, reduceCtorEq, Int.reduceToNat, Int.reduceEq, Int.reduceLT, Int.reduceLE, Int.reduceNe, Int.reduceNeg , or_self, or_false, false_or , List.length_map, idx_nat, List.getElem?_map, List.getElem?_eq_getElem hlt, Mad.d]
    refine Br_split (fun e1 => ?_) (fun e1 => ?_) <;> simp only [go_sem, Nat.reduceBEq, Nat.reduceEqDiff, Nat.reduceLT, Nat.reduceLeDiff, Nat.reduceAdd, Nat.reduceSub, Nat.reduceMul, reduceCtorEq, Int.reduceToNat, Int.reduceEq, Int.reduceLT, Int.reduceLE, Int.reduceNe, Int.reduceNeg , or_self, or_false, false_or , List.length_map, e1]
    · have e1' : b.made[i].day ≤ day := by simpa using e1
      obtain ⟨k, hke⟩ : ∃ k : Nat, b.made[i].kind = k := ⟨b.made[i].kind.toNat, by omega⟩
      have hkt : k < t.length := by omega
      refine ADrw.treeG (fun _ => false) tt_ok (by kernel_rfl) (fun k => if k = 2 ∨ k = 5 then some .L else some .S) (.ones [0, 1, 2, 3, 4, 5, 6, 7, 8, 9, 10] .done) (by simp) (fun _ h => nomatch h) rfl rfl (by kernel_rfl) ?_
      simp only [go_sem, Nat.reduceBEq, Nat.reduceEqDiff, Nat.reduceLT, Nat.reduceLeDiff, Nat.reduceAdd, Nat.reduceSub, Nat.reduceMul, reduceCtorEq, Int.reduceToNat, Int.reduceEq, Int.reduceLT, Int.reduceLE, Int.reduceNe, Int.reduceNeg , or_self, or_false, false_or , List.length_map, hke, idx_nat, List.getElem?_map, List.getElem?_eq_getElem hkt]
      refine ⟨i + 1, hlt, by omega, ?_⟩
      rw [hf]
      simp [ForgetTo, EW, VW, BBq, BBs, BB, VBs, VB, Env.look, pubV, bookV, lessW, e1', hke, hkt, w64 (n := (i : Int) + 1) (by omega) (by omega)]
    · have e1' : ¬ b.made[i].day ≤ day := by simpa using e1
      refine ⟨i + 1, hlt, by omega, ?_⟩
      rw [hf]
      simp [ForgetTo, EW, VW, BBq, BBs, BB, VBs, VB, Env.look, pubV, bookV, lessW, e1', w64 (n := (i : Int) + 1) (by omega) (by omega)]
  have hnl : ¬ i < b.made.length := by simpa using hd
  rw [show b.made.take i = b.made from List.take_of_length_le (by omega)]
end Go.Aw
end

section
namespace Go.Aw
open Go Go.Proofs Go.Proofs.Try

def wide (r : Int) (s : Sp) : Sp := ⟨min s.lo r, max s.hi r⟩

def truthsB (b : Book) (g : Nat) : List (List Int) := truthsL (spansB b g) []

def leftsR (b : Book) (g : Nat) (day : Int) (T : List (List Int)) : Sp :=
  (T.drop 1).foldl (fun s x => wide (restR b g day x) s) ⟨restR b g day (T.getD 0 []), restR b g day (T.getD 0 [])⟩

def leftR (b : Book) (g : Nat) (day : Int) : Sp := leftsR b g day (truthsB b g)

theorem truthsL_each : ∀ (l : List Sp) (t : List Int), ∀ x ∈ truthsL l t, x.length = t.length + l.length
  | [], t, x, h => by simp [truthsL] at h; subst h; rfl
  | s :: r, t, x, h => by
    obtain ⟨n, _, h⟩ := List.mem_flatMap.1 h
    have := truthsL_each r (t ++ [n]) x h
    simp at this ⊢; omega

theorem truthsL_some : ∀ (l : List Sp) (t : List Int), (∀ s ∈ l, s.lo ≤ s.hi) → 0 < (truthsL l t).length
  | [], t, _ => by simp [truthsL]
  | s :: r, t, h => by
    have h0 := h s (by simp)
    have hu : 0 < (upTo s).length := by simp [upTo]; omega
    have := truthsL_some r (t ++ [(upTo s)[0]]) fun s hs => h s (List.mem_cons_of_mem _ hs)
    obtain ⟨x, hx⟩ := List.exists_mem_of_length_pos this
    exact List.length_pos_of_mem (List.mem_flatMap.2 ⟨_, List.getElem_mem hu, hx⟩)

theorem Book.Ok.spansB {b : Book} (hb : b.Ok) {g : Nat} (hg : g < b.stock.length) : ∀ s ∈ spansB b g, 0 ≤ s.lo ∧ s.lo ≤ s.hi ∧ s.hi ≤ 50 ∧ s.hi - s.lo < 8 := by
  intro s hs
  obtain ⟨r, hr, rfl⟩ := List.mem_map.1 hs
  have := (hb.rv r hr).1
  rw [getD_eq (by omega)]
  exact (hb.rv r hr).2 _ (List.getElem_mem _)

theorem c22 (b : Book) (hb : b.Ok) (g : Nat) (hg : g < b.stock.length) (day : Int) : PC prog 22 [.d b.d, .d (.int .i64 g), .d (.int .i64 day)] (.d (leftR b g day).d) := by
  have hsp := hb.spansB hg
  have hT0 := truthsL_some (spansB b g) [] fun s hs => (hsp s hs).2.1
  have hTl := truthsL_each (spansB b g) []
  have hTn := truthsL_len (spansB b g) [] fun s hs => (hsp s hs).2.2.2
  have hsl : (spansB b g).length = b.recs.length := by simp [Go.Aw.spansB]
  have hTn2 : 8 ^ (spansB b g).length ≤ 8 ^ 3 := Nat.pow_le_pow_right (by omega) (by have := hb.r3; omega)
  have ht := c70 b hb g hg b.recs.length [] (by simp)
  simp only [List.length_nil, List.drop_zero] at ht
  rw [leftR, truthsB]
  generalize truthsL (spansB b g) [] = T at *
  have hr : ∀ x ∈ T, PC prog 71 [.d b.d, .d (.int .i64 g), .d (.int .i64 day), .d (.sl (x.map (.int .i64)))] (.d (.int .i64 (restR b g day x))) := fun x hx =>
    c71 b hb.fits g hg day x fun m hm => by
      have := hTl x hx
      have := (hb.mv m hm).2.1
      simp at *; omega
  refine PC.run (fun _ => false) tt_ok (fn := f22) (rs := [.cell 6 40]) rfl rfl rfl rfl rfl rfl rfl ?_
  simp only [go_sem, Nat.reduceBEq, Nat.reduceEqDiff, Nat.reduceLT, Nat.reduceLeDiff, Nat.reduceAdd, Nat.reduceSub, Nat.reduceMul, reduceCtorEq, Int.reduceToNat, Int.reduceEq, Int.reduceLT, Int.reduceLE, Int.reduceNe, Int.reduceNeg , or_self, or_false, false_or , List.length_map, Book.d]
  refine ht.call rfl rfl rfl ?_
  simp only [go_sem, Nat.reduceBEq, Nat.reduceEqDiff, Nat.reduceLT, Nat.reduceLeDiff, Nat.reduceAdd, Nat.reduceSub, Nat.reduceMul, reduceCtorEq, Int.reduceToNat, Int.reduceEq, Int.reduceLT, Int.reduceLE, Int.reduceNe, Int.reduceNeg , or_self, or_false, false_or , List.length_map]
  have ix : idx? (T.map intsD) 0 = some (intsD T[0]) := by
    have := idx_nat (T.map intsD) 0
    simpa [hT0] using this
  refine ADrw.treeG (fun _ => false) tt_ok (by kernel_rfl) (fun k => if k = 0 ∨ k = 7 then some .L else if k = 15 then some .A else if k = 16 then some .W else some .S) (.ones [0, 1, 2, 3, 4, 5, 6, 7, 8, 9, 10, 11, 12, 13, 14, 15, 16] .done) (by simp) (fun _ h => nomatch h) rfl rfl (by kernel_rfl) ?_
  simp only [go_sem, Nat.reduceBEq, Nat.reduceEqDiff, Nat.reduceLT, Nat.reduceLeDiff, Nat.reduceAdd, Nat.reduceSub, Nat.reduceMul, reduceCtorEq, Int.reduceToNat, Int.reduceEq, Int.reduceLT, Int.reduceLE, Int.reduceNe, Int.reduceNeg , or_self, or_false, false_or , List.length_map, ix, intsD]
  refine (hr T[0] (List.getElem_mem hT0)).callS rfl rfl rfl rfl rfl rfl ?_
  simp only [go_sem, Nat.reduceBEq, Nat.reduceEqDiff, Nat.reduceLT, Nat.reduceLeDiff, Nat.reduceAdd, Nat.reduceSub, Nat.reduceMul, reduceCtorEq, Int.reduceToNat, Int.reduceEq, Int.reduceLT, Int.reduceLE, Int.reduceNe, Int.reduceNeg , or_self, or_false, false_or , List.length_map, ix, intsD]
  refine (hr T[0] (List.getElem_mem hT0)).callS rfl rfl rfl rfl rfl rfl ?_
  simp only [go_sem, Nat.reduceBEq, Nat.reduceEqDiff, Nat.reduceLT, Nat.reduceLeDiff, Nat.reduceAdd, Nat.reduceSub, Nat.reduceMul, reduceCtorEq, Int.reduceToNat, Int.reduceEq, Int.reduceLT, Int.reduceLE, Int.reduceNe, Int.reduceNeg , or_self, or_false, false_or , List.length_map]
  have st0 : leftsR b g day (T.take 1) = ⟨restR b g day T[0], restR b g day T[0]⟩ := by
    rw [List.take_succ_eq_append_getElem hT0]; simp [leftsR]
  have stn : ∀ i (h : i + 1 < T.length), leftsR b g day (T.take (i + 1 + 1)) = wide (restR b g day T[i + 1]) (leftsR b g day (T.take (i + 1))) := by
    intro i h
    have e : ∀ k, (T.take (k + 1)).getD 0 [] = T.getD 0 [] := fun k => by simp [List.getElem?_take]
    simp only [leftsR, e, List.drop_take]
    rw [show i + 1 + 1 - 1 = i + 1 from rfl, show i + 1 - 1 = i from rfl, foldl_at (by simp; omega)]
    simp [Nat.add_comm]
  refine ALoop.by (S := Nat) (fun i => [(9, .d (.int .i64 (i + 1 : Nat))), (8, .ptr 2 0), (7, .d (.sl (T.map intsD))), (6, .ptr 1 0), (3, .ptr 0 0), (1, .d (.int .i64 g)), (2, .d (.int .i64 day))])
    (fun i => [.cells (bookV b), .cells [.d (.int .i64 0), .d (.int .i64 0)], .cells [.d (.int .i64 (leftsR b g day (T.take (i + 1))).lo), .d (.int .i64 (leftsR b g day (T.take (i + 1))).hi)]]) (fun i => T.length - i) (fun i => i + 1 ≤ T.length) 0 (by simp) (fun _ h => nomatch h) hT0 ?_ ?_
  · exact ForgetTo.same' (by simp) (by simp [EWe, Env.look]) (by simp [bookV, st0])
  rintro i hi hn
  refine AWP.run (fun _ => false) tt_ok (fun _ h => nomatch h) (by simp) rfl ?_
  simp only [go_sem, Nat.reduceBEq, Nat.reduceEqDiff, Nat.reduceLT, Nat.reduceLeDiff, Nat.reduceAdd, Nat.reduceSub, Nat.reduceMul, reduceCtorEq, Int.reduceToNat, Int.reduceEq, Int.reduceLT, Int.reduceLE, Int.reduceNe, Int.reduceNeg , or_self, or_false, false_or , List.length_map, bookV]
  refine Br_split (fun hd => ?_) (fun hd => ?_) <;> simp only [go_sem, Nat.reduceBEq, Nat.reduceEqDiff, Nat.reduceLT, Nat.reduceLeDiff, Nat.reduceAdd, Nat.reduceSub, Nat.reduceMul, reduceCtorEq, Int.reduceToNat, Int.reduceEq, Int.reduceLT, Int.reduceLE, Int.reduceNe, Int.reduceNeg , or_self, or_false, false_or , List.length_map, hd]
  · have hlt : i + 1 < T.length := by simp at hd; omega
    have hs := stn i hlt
    refine ADrw.treeG (fun _ => false) tt_ok (by kernel_rfl) (fun k => if k = 0 then some .L else some .S) (.ones [0, 1, 2, 3, 4, 5, 6, 7, 8] .done) (by simp) (fun _ h => nomatch h) rfl rfl (by kernel_rfl) ?_
    simp only [go_sem, Nat.reduceBEq, Nat.reduceEqDiff, Nat.reduceLT, Nat.reduceLeDiff, Nat.reduceAdd, Nat.reduceSub, Nat.reduceMul, reduceCtorEq, Int.reduceToNat, Int.reduceEq, Int.reduceLT, Int.reduceLE, Int.reduceNe, Int.reduceNeg , or_self, or_false, false_or , List.length_map, idx_nat, List.getElem?_map, List.getElem?_eq_getElem hlt, intsD]
    refine (hr T[i + 1] (List.getElem_mem hlt)).callS rfl rfl rfl rfl rfl rfl ?_
    simp only [go_sem, Nat.reduceBEq, Nat.reduceEqDiff, Nat.reduceLT, Nat.reduceLeDiff, Nat.reduceAdd, Nat.reduceSub, Nat.reduceMul, reduceCtorEq, Int.reduceToNat, Int.reduceEq, Int.reduceLT, Int.reduceLE, Int.reduceNe, Int.reduceNeg , or_self, or_false, false_or , List.length_map]
    refine ⟨i + 1, hlt, by omega, ?_⟩
    exact ForgetTo.same' (by simp) (by simp [EWe, Env.look, w64 (n := (i : Int) + 1 + 1) (by omega) (by omega)]) (by simp only [hs, bookV, wide])
  have hnl : T.length = i + 1 := by simp at hd; omega
  rw [show T.take (i + 1) = T from List.take_of_length_le (by omega)]
  simp only [go_sem, Nat.reduceBEq, Nat.reduceEqDiff, Nat.reduceLT, Nat.reduceLeDiff, Nat.reduceAdd, Nat.reduceSub, Nat.reduceMul, reduceCtorEq, Int.reduceToNat, Int.reduceEq, Int.reduceLT, Int.reduceLE, Int.reduceNe, Int.reduceNeg , or_self, or_false, false_or , List.length_map, Sp.d]

def countedR (b : Book) (cs : List Sp) : Bool := !cs.any (fun s => !(decide (s.lo ≥ 0) && decide (s.lo ≤ s.hi) && decide (s.hi ≤ 100000))) && decide (cs.length = b.stock.length)

theorem c23 (b : Book) (cs : List Sp) (hc : cs.length ≤ 4294967296) : PC prog 23 [.d b.d, .d (.sl (cs.map Sp.d))] (.d (.bool (countedR b cs))) := by
  refine PC.run (fun _ => false) tt_ok (fn := f23) (rs := [.tmp 4]) rfl rfl rfl rfl rfl rfl rfl ?_
  simp only [go_sem, Nat.reduceBEq, Nat.reduceEqDiff, Nat.reduceLT, Nat.reduceLeDiff, Nat.reduceAdd, Nat.reduceSub, Nat.reduceMul, reduceCtorEq, Int.reduceToNat, Int.reduceEq, Int.reduceLT, Int.reduceLE, Int.reduceNe, Int.reduceNeg , or_self, or_false, false_or , List.length_map, Book.d]
  refine ALoop.by (S := Nat) (fun i => [(5, .d (.int .i64 i)), (2, .ptr 0 0), (1, .d (.sl (cs.map Sp.d)))]) (fun _ => [.cells (bookV b)]) (fun i => cs.length - i) (fun i => i ≤ cs.length ∧ (cs.take i).any (fun s => !(decide (s.lo ≥ 0) && decide (s.lo ≤ s.hi) && decide (s.hi ≤ 100000))) = false) 0 (by simp) (fun _ h => nomatch h) ⟨Nat.zero_le _, rfl⟩ ?_ ?_
  · exact ForgetTo.same' (by simp) (by simp [EWe, Env.look]) (by simp [bookV])
  rintro i ⟨hi, hx⟩ hn
  refine AWP.run (fun _ => false) tt_ok (fun _ h => nomatch h) (by simp) rfl ?_
  simp only [go_sem, Nat.reduceBEq, Nat.reduceEqDiff, Nat.reduceLT, Nat.reduceLeDiff, Nat.reduceAdd, Nat.reduceSub, Nat.reduceMul, reduceCtorEq, Int.reduceToNat, Int.reduceEq, Int.reduceLT, Int.reduceLE, Int.reduceNe, Int.reduceNeg , or_self, or_false, false_or , List.length_map, bookV]
  refine Br_split (fun hd => ?_) (fun hd => ?_) <;> simp only [go_sem, Nat.reduceBEq, Nat.reduceEqDiff, Nat.reduceLT, Nat.reduceLeDiff, Nat.reduceAdd, Nat.reduceSub, Nat.reduceMul, reduceCtorEq, Int.reduceToNat, Int.reduceEq, Int.reduceLT, Int.reduceLE, Int.reduceNe, Int.reduceNeg , or_self, or_false, false_or , List.length_map, hd]
  · have hlt : i < cs.length := by simpa using hd
    simp only [go_sem, Nat.reduceBEq, Nat.reduceEqDiff, Nat.reduceLT, Nat.reduceLeDiff, Nat.reduceAdd, Nat.reduceSub, Nat.reduceMul, reduceCtorEq, Int.reduceToNat, Int.reduceEq, Int.reduceLT, Int.reduceLE, Int.reduceNe, Int.reduceNeg , or_self, or_false, false_or , List.length_map, idx_nat, List.getElem?_map, List.getElem?_eq_getElem hlt, Sp.d]
    refine (c69 cs[i] 0 100000).call rfl rfl rfl ?_
    simp only [go_sem, Nat.reduceBEq, Nat.reduceEqDiff, Nat.reduceLT, Nat.reduceLeDiff, Nat.reduceAdd, Nat.reduceSub, Nat.reduceMul, reduceCtorEq, Int.reduceToNat, Int.reduceEq, Int.reduceLT, Int.reduceLE, Int.reduceNe, Int.reduceNeg , or_self, or_false, false_or , List.length_map]
    refine Br_split (fun he => ?_) (fun he => ?_) <;> simp only [go_sem, Nat.reduceBEq, Nat.reduceEqDiff, Nat.reduceLT, Nat.reduceLeDiff, Nat.reduceAdd, Nat.reduceSub, Nat.reduceMul, reduceCtorEq, Int.reduceToNat, Int.reduceEq, Int.reduceLT, Int.reduceLE, Int.reduceNe, Int.reduceNeg , or_self, or_false, false_or , List.length_map, he]
    · have : cs.any (fun s => !(decide (s.lo ≥ 0) && decide (s.lo ≤ s.hi) && decide (s.hi ≤ 100000))) = true := any_at hlt he
      simp only [countedR, this, Bool.not_true, Bool.false_and]
    · refine ⟨i + 1, ⟨hlt, by rw [any_take hlt, hx]; simpa using he⟩, by omega, ?_⟩
      exact ForgetTo.same' (by simp) (by simp [EWe, Env.look, w64 (n := (i : Int) + 1) (by omega) (by omega)]) (by simp [bookV])
  have hnl : ¬ i < cs.length := by simpa using hd
  rw [List.take_of_length_le (by omega)] at hx
  simp only [countedR, hx, Bool.not_false, Bool.true_and]
  simp
  omega
end Go.Aw
end

section
set_option maxRecDepth 100000
namespace Go.Aw
open Go Go.Proofs Go.Proofs.Try

/-- Numbers of signs of a kind, up to a day. -/
def sgn (day : Int) (k : Nat) : List Mad → Int
  | [] => 0
  | m :: r => (if m.day ≤ day ∧ m.kind = k then m.many else 0) + sgn day k r

def Mads (l : List Mad) : Prop := ∀ m ∈ l, (0 ≤ m.kind ∧ m.kind < 3) ∧ 1 ≤ m.many ∧ m.many ≤ 100

theorem Mads.tail {m : Mad} {r : List Mad} (h : Mads (m :: r)) : Mads r := fun x hx => h x (List.mem_cons_of_mem _ hx)

theorem sgn_pos (day : Int) (k : Nat) : ∀ (l : List Mad), Mads l → 0 ≤ sgn day k l ∧ sgn day k l ≤ 100 * l.length
  | [], _ => by simp [sgn]
  | m :: r, h => by
    have ih := sgn_pos day k r h.tail
    have hm := h m (by simp)
    simp only [sgn, List.length_cons]
    split <;> omega

theorem signW_eq (day : Int) (k : Nat) : ∀ (l : List Mad) (a : Int), Mads l → 0 ≤ a → a + 100 * l.length ≤ 1000000 → l.foldl (signW day k) a = a + sgn day k l
  | [], a, _, _, _ => by simp [sgn]
  | m :: r, a, h, h0, h1 => by
    have hm := h m (by simp)
    simp only [List.length_cons] at h1
    simp only [List.foldl_cons, sgn]
    by_cases hc : m.day ≤ day ∧ m.kind = k
    · rw [if_pos hc, show signW day k a m = a + m.many by
        simp only [signW, hc.1, hc.2]; simp; exact w64 (by omega) (by omega)]
      rw [signW_eq day k r (a + m.many) h.tail (by omega) (by omega)]; omega
    · rw [if_neg hc, show signW day k a m = a by simp only [signW]; rw [if_neg (by simpa using hc)]]
      rw [signW_eq day k r a h.tail h0 (by omega)]; omega

theorem mul_le {a b c d : Int} (h0 : 0 ≤ a) (h1 : a ≤ c) (h2 : 0 ≤ b) (h3 : b ≤ d) : 0 ≤ a * b ∧ a * b ≤ c * d :=
  ⟨Int.mul_nonneg h0 h2, Int.mul_le_mul h1 h3 h2 (by omega)⟩

theorem lessW_eq (day : Int) (t : List Int) (ht : ∀ k, 0 ≤ t.getD k 0 ∧ t.getD k 0 ≤ 50) : ∀ (l : List Mad) (n : Int), Mads l → n ≤ 1000000 → 5000 * l.length - 1000000 ≤ n →
    l.foldl (lessW day t) n = n - (sgn day 0 l * t.getD 0 0 + sgn day 1 l * t.getD 1 0 + sgn day 2 l * t.getD 2 0)
  | [], n, _, _, _ => by simp [sgn]
  | m :: r, n, h, h0, h1 => by
    have hm := h m (by simp)
    simp only [List.length_cons] at h1
    simp only [List.foldl_cons, sgn]
    by_cases hc : m.day ≤ day
    · obtain ⟨p1, p2⟩ := mul_le (a := m.many) (b := t.getD m.kind.toNat 0) (c := 100) (d := 50) (by omega) hm.2.2 (ht _).1 (ht _).2
      have e : lessW day t n m = n - m.many * t.getD m.kind.toNat 0 := by
        simp only [lessW, if_pos hc]
        rw [show wr (m.many * t.getD m.kind.toNat 0) = m.many * t.getD m.kind.toNat 0 from w64 (by omega) (by omega)]
        exact w64 (by omega) (by omega)
      rw [e, lessW_eq day t ht r _ h.tail (by omega) (by omega)]
      have hk : m.kind = 0 ∨ m.kind = 1 ∨ m.kind = 2 := by omega
      rcases hk with hk | hk | hk <;> simp only [hk, hc, true_and, Int.toNat_zero, Int.add_mul] <;> simp [Int.add_mul] <;> omega
    · have e : lessW day t n m = n := by simp only [lessW, if_neg hc]
      rw [e, lessW_eq day t ht r n h.tail h0 (by omega)]
      simp [hc]

theorem sumW_bound (g : Nat) (day : Int) (l : List Ent) : ∀ (n : Int), (∀ x ∈ l, -1000 ≤ x.amount ∧ x.amount ≤ 1000) → -1000000 + 1000 * l.length ≤ n → n ≤ 1000000 - 1000 * l.length → n - 1000 * l.length ≤ l.foldl (sumW g day) n ∧ l.foldl (sumW g day) n ≤ n + 1000 * l.length := by
  induction l with
  | nil => intro n _ _ _; simp
  | cons x r ih =>
    intro n h h0 h1
    have hx := h x (by simp)
    simp only [List.length_cons] at h0 h1 ⊢
    simp only [List.foldl_cons]
    have e : sumW g day n x = n ∨ sumW g day n x = n + x.amount := by
      unfold sumW
      split
      · right; exact w64 (by omega) (by omega)
      · left; rfl
    have ih := ih (sumW g day n x) (fun y hy => h y (List.mem_cons_of_mem _ hy)) (by omega) (by omega)
    omega

/-- Amounts that lie in their spans. -/
def Wthn : List Sp → List Int → Prop
  | [], [] => True
  | s :: r, n :: y => (s.lo ≤ n ∧ n ≤ s.hi) ∧ Wthn r y
  | _, _ => False

theorem mem_upTo {s : Sp} {n : Int} : n ∈ upTo s ↔ s.lo ≤ n ∧ n ≤ s.hi := by
  simp only [upTo, List.mem_map, List.mem_range]
  constructor
  · rintro ⟨k, hk, rfl⟩; omega
  · rintro ⟨h0, h1⟩; exact ⟨(n - s.lo).toNat, by omega, by omega⟩

theorem mem_truthsL : ∀ (l : List Sp) (t x : List Int), x ∈ truthsL l t ↔ ∃ y, Wthn l y ∧ x = t ++ y
  | [], t, x => by
    simp only [truthsL, List.mem_singleton]
    constructor
    · rintro rfl; exact ⟨[], trivial, by simp⟩
    · rintro ⟨y, hy, rfl⟩
      cases y with
      | nil => simp
      | cons _ _ => exact hy.elim
  | s :: r, t, x => by
    simp only [truthsL, List.mem_flatMap]
    constructor
    · rintro ⟨n, hn, hx⟩
      obtain ⟨y, hy, rfl⟩ := (mem_truthsL r (t ++ [n]) x).1 hx
      exact ⟨n :: y, ⟨mem_upTo.1 hn, hy⟩, by simp⟩
    · rintro ⟨y, hy, rfl⟩
      cases y with
      | nil => exact hy.elim
      | cons n y => exact ⟨n, mem_upTo.2 hy.1, (mem_truthsL r (t ++ [n]) _).2 ⟨y, hy.2, by simp⟩⟩

theorem Wthn.get : ∀ (l : List Sp) (y : List Int), Wthn l y → ∀ k, (l.getD k ⟨0, 0⟩).lo ≤ y.getD k 0 ∧ y.getD k 0 ≤ (l.getD k ⟨0, 0⟩).hi
  | [], [], _, k => by simp
  | s :: r, n :: y, h, k => by
    cases k with
    | zero => simpa using h.1
    | succ k => simpa using Wthn.get r y h.2 k
  | [], _ :: _, h, _ => h.elim
  | _ :: _, [], h, _ => h.elim

theorem Wthn.ends : ∀ (l : List Sp), (∀ s ∈ l, s.lo ≤ s.hi) → Wthn l (l.map Sp.lo) ∧ Wthn l (l.map Sp.hi)
  | [], _ => ⟨trivial, trivial⟩
  | s :: r, h => by
    have h0 := h s (by simp)
    obtain ⟨h1, h2⟩ := Wthn.ends r fun s hs => h s (List.mem_cons_of_mem _ hs)
    exact ⟨⟨⟨Int.le_refl _, h0⟩, h1⟩, ⟨⟨h0, Int.le_refl _⟩, h2⟩⟩

theorem getD_map' {α : Type} (f : α → Int) (l : List α) (k : Nat) (d : α) (h : f d = 0) : (l.map f).getD k 0 = f (l.getD k d) := by
  simp only [List.getD_eq_getElem?_getD, List.getElem?_map]
  cases l[k]? <;> simp [h]

theorem spansB_get (b : Book) (g k : Nat) : (spansB b g).getD k ⟨0, 0⟩ = spanB b g k := by
  simp only [spansB, spanB, List.getD_eq_getElem?_getD, List.getElem?_map]
  cases b.recs[k]? <;> simp

theorem wide_fold {α : Type} (f : α → Int) : ∀ (l : List α) (s : Sp), (l.foldl (fun s x => wide (f x) s) s).lo ≤ s.lo ∧ s.hi ≤ (l.foldl (fun s x => wide (f x) s) s).hi ∧
    (∀ x ∈ l, (l.foldl (fun s x => wide (f x) s) s).lo ≤ f x ∧ f x ≤ (l.foldl (fun s x => wide (f x) s) s).hi) ∧
    ((l.foldl (fun s x => wide (f x) s) s).lo = s.lo ∨ ∃ x ∈ l, (l.foldl (fun s x => wide (f x) s) s).lo = f x) ∧
    ((l.foldl (fun s x => wide (f x) s) s).hi = s.hi ∨ ∃ x ∈ l, (l.foldl (fun s x => wide (f x) s) s).hi = f x)
  | [], s => by simp
  | x :: r, s => by
    obtain ⟨h1, h2, h3, h4, h5⟩ := wide_fold f r (wide (f x) s)
    simp only [List.foldl_cons]
    generalize r.foldl (fun s x => wide (f x) s) (wide (f x) s) = z at *
    simp only [wide] at h1 h2 h4 h5
    refine ⟨by clear h3 h4 h5; omega, by clear h3 h4 h5; omega, ?_, ?_, ?_⟩
    · intro y hy
      rcases List.mem_cons.1 hy with rfl | hy
      · clear h3 h4 h5; omega
      · exact h3 y hy
    · clear h3 h5
      rcases h4 with h4 | ⟨y, hy, h4⟩
      · rcases Int.le_total s.lo (f x) with hm | hm
        · left; omega
        · right; exact ⟨x, by simp, by omega⟩
      · right; exact ⟨y, List.mem_cons_of_mem _ hy, h4⟩
    · clear h3 h4
      rcases h5 with h5 | ⟨y, hy, h5⟩
      · rcases Int.le_total (f x) s.hi with hm | hm
        · left; omega
        · right; exact ⟨x, by simp, by omega⟩
      · right; exact ⟨y, List.mem_cons_of_mem _ hy, h5⟩

/-- The span of all truths, told by its ends. -/
theorem leftsR_eq {b : Book} {g : Nat} {day : Int} {T : List (List Int)} {lo hi : Int} (h0 : ∀ x ∈ T, lo ≤ restR b g day x ∧ restR b g day x ≤ hi) (hl : ∃ x ∈ T, restR b g day x = lo) (hh : ∃ x ∈ T, restR b g day x = hi) : leftsR b g day T = ⟨lo, hi⟩ := by
  cases T with
  | nil => obtain ⟨x, hx, _⟩ := hl; cases hx
  | cons t r =>
    obtain ⟨k1, k2, k3, k4, k5⟩ := wide_fold (restR b g day) r ⟨restR b g day t, restR b g day t⟩
    have e : leftsR b g day (t :: r) = r.foldl (fun s x => wide (restR b g day x) s) ⟨restR b g day t, restR b g day t⟩ := rfl
    rw [e]
    generalize r.foldl (fun s x => wide (restR b g day x) s) ⟨restR b g day t, restR b g day t⟩ = z at *
    obtain ⟨x, hx, ex⟩ := hl
    obtain ⟨y, hy, ey⟩ := hh
    have ht := h0 t (by simp)
    have hr : ∀ x ∈ r, _ := fun x hx => h0 x (List.mem_cons_of_mem _ hx)
    obtain ⟨zl, zh⟩ := z
    simp only at k1 k2 k3 k4 k5
    have a1 : zl ≤ lo := by
      rcases List.mem_cons.1 hx with rfl | hx
      · omega
      · have := (k3 x hx).1; omega
    have a2 : hi ≤ zh := by
      rcases List.mem_cons.1 hy with rfl | hy
      · omega
      · have := (k3 y hy).2; omega
    have a3 : lo ≤ zl := by
      rcases k4 with k4 | ⟨u, hu, k4⟩
      · omega
      · have := (hr u hu).1; omega
    have a4 : zh ≤ hi := by
      rcases k5 with k5 | ⟨u, hu, k5⟩
      · omega
      · have := (hr u hu).2; omega
    rw [show zl = lo by omega, show zh = hi by omega]

theorem Book.Ok.mads {b : Book} (h : b.Ok) : Mads b.made := fun m hm => by
  have := h.mv m hm; have := h.r3; omega

/-- What is left of goods in a truth. -/
theorem rest_eq {b : Book} (h : b.Ok) {g : Nat} (hg : g < b.stock.length) (day : Int) {t : List Int} (ht : Wthn (spansB b g) t) :
    restR b g day t = (acctW b g day).sum - ((acctW b g day).s0 * t.getD 0 0 + (acctW b g day).s1 * t.getD 1 0 + (acctW b g day).s2 * t.getD 2 0) := by
  have h1 := h.sv _ (List.getElem_mem hg)
  have hs := sumW_bound g day b.ents (b.stock.getD g 0) (fun x hx => (h.ev x hx).2.2.1) (by rw [getD_eq hg]; have := h.e12; omega) (by rw [getD_eq hg]; have := h.e12; omega)
  rw [getD_eq hg] at hs
  have he := h.e12
  have hm := h.m8
  have htk : ∀ k, 0 ≤ t.getD k 0 ∧ t.getD k 0 ≤ 50 := fun k => by
    have := ht.get _ _ k
    rw [spansB_get] at this
    have := h.span g k
    omega
  rw [restR, lessW_eq day t htk b.made _ h.mads (by rw [getD_eq hg]; omega) (by rw [getD_eq hg]; omega)]
  simp only [acctW]
  rw [signW_eq day 0 b.made 0 h.mads (by omega) (by omega), signW_eq day 1 b.made 0 h.mads (by omega) (by omega), signW_eq day 2 b.made 0 h.mads (by omega) (by omega)]
  simp only [Int.zero_add]

theorem acct_bounds {b : Book} (h : b.Ok) {g : Nat} (hg : g < b.stock.length) (day : Int) : (-12000 ≤ (acctW b g day).sum ∧ (acctW b g day).sum ≤ 22000) ∧ (0 ≤ (acctW b g day).s0 ∧ (acctW b g day).s0 ≤ 800) ∧ (0 ≤ (acctW b g day).s1 ∧ (acctW b g day).s1 ≤ 800) ∧ (0 ≤ (acctW b g day).s2 ∧ (acctW b g day).s2 ≤ 800) := by
  have h1 := h.sv _ (List.getElem_mem hg)
  have hs := sumW_bound g day b.ents (b.stock.getD g 0) (fun x hx => (h.ev x hx).2.2.1) (by rw [getD_eq hg]; have := h.e12; omega) (by rw [getD_eq hg]; have := h.e12; omega)
  rw [getD_eq hg] at hs
  have he := h.e12
  have hm := h.m8
  simp only [acctW]
  rw [signW_eq day 0 b.made 0 h.mads (by omega) (by omega), signW_eq day 1 b.made 0 h.mads (by omega) (by omega), signW_eq day 2 b.made 0 h.mads (by omega) (by omega), getD_eq hg]
  have q0 := sgn_pos day 0 b.made h.mads
  have q1 := sgn_pos day 1 b.made h.mads
  have q2 := sgn_pos day 2 b.made h.mads
  omega

/-- The ends of what is left. -/
theorem leftW_ends {b : Book} (h : b.Ok) {g : Nat} (hg : g < b.stock.length) (day : Int) : leftW (acctW b g day) =
    ⟨(acctW b g day).sum - ((acctW b g day).s0 * (spanB b g 0).hi + (acctW b g day).s1 * (spanB b g 1).hi + (acctW b g day).s2 * (spanB b g 2).hi), (acctW b g day).sum - ((acctW b g day).s0 * (spanB b g 0).lo + (acctW b g day).s1 * (spanB b g 1).lo + (acctW b g day).s2 * (spanB b g 2).lo)⟩ := by
  obtain ⟨k0, k1, k2, k3⟩ := acct_bounds h hg day
  have p0 := h.span g 0
  have p1 := h.span g 1
  have p2 := h.span g 2
  have e0 : (acctW b g day).p0 = spanB b g 0 := rfl
  have e1 : (acctW b g day).p1 = spanB b g 1 := rfl
  have e2 : (acctW b g day).p2 = spanB b g 2 := rfl
  simp only [leftW, left2, left1, left0, leftStep, e0, e1, e2]
  generalize (acctW b g day).sum = S at *
  generalize (acctW b g day).s0 = a0 at *
  generalize (acctW b g day).s1 = a1 at *
  generalize (acctW b g day).s2 = a2 at *
  have m := fun {a b : Int} (h0 : 0 ≤ a) (h1 : a ≤ 800) (h2 : 0 ≤ b) (h3 : b ≤ 50) => mul_le h0 h1 h2 h3
  have q0 := m k1.1 k1.2 (b := (spanB b g 0).hi) (by omega) (by omega)
  have q1 := m k2.1 k2.2 (b := (spanB b g 1).hi) (by omega) (by omega)
  have q2 := m k3.1 k3.2 (b := (spanB b g 2).hi) (by omega) (by omega)
  have r0 := m k1.1 k1.2 (b := (spanB b g 0).lo) (by omega) (by omega)
  have r1 := m k2.1 k2.2 (b := (spanB b g 1).lo) (by omega) (by omega)
  have r2 := m k3.1 k3.2 (b := (spanB b g 2).lo) (by omega) (by omega)
  generalize a0 * (spanB b g 0).hi = x0 at *
  generalize a1 * (spanB b g 1).hi = x1 at *
  generalize a2 * (spanB b g 2).hi = x2 at *
  generalize a0 * (spanB b g 0).lo = y0 at *
  generalize a1 * (spanB b g 1).lo = y1 at *
  generalize a2 * (spanB b g 2).lo = y2 at *
  have w : ∀ n : Int, -1000000 ≤ n → n ≤ 1000000 → wr n = n := fun n h0 h1 => w64 (by omega) (by omega)
  rw [w x0 (by omega) (by omega), w x1 (by omega) (by omega), w x2 (by omega) (by omega), w y0 (by omega) (by omega), w y1 (by omega) (by omega), w y2 (by omega) (by omega)]
  rw [w (S - x0) (by omega) (by omega), w (S - y0) (by omega) (by omega), w (S - x0 - x1) (by omega) (by omega), w (S - y0 - y1) (by omega) (by omega), w (S - x0 - x1 - x2) (by omega) (by omega), w (S - y0 - y1 - y2) (by omega) (by omega)]
  rw [show S - x0 - x1 - x2 = S - (x0 + x1 + x2) by omega, show S - y0 - y1 - y2 = S - (y0 + y1 + y2) by omega]

theorem left_eq {b : Book} (h : b.Ok) {g : Nat} (hg : g < b.stock.length) (day : Int) : leftW (acctW b g day) = leftR b g day := by
  have hsp := h.spansB hg
  obtain ⟨wl, wh⟩ := Wthn.ends (spansB b g) fun s hs => (hsp s hs).2.1
  obtain ⟨k0, k1, k2, k3⟩ := acct_bounds h hg day
  rw [leftW_ends h hg, leftR]
  symm
  have mem : ∀ x, x ∈ truthsB b g ↔ Wthn (spansB b g) x := fun x => by
    rw [truthsB, mem_truthsL]
    constructor
    · rintro ⟨y, hy, rfl⟩; simpa using hy
    · intro hx; exact ⟨x, hx, by simp⟩
  have gl : ∀ k, ((spansB b g).map Sp.lo).getD k 0 = (spanB b g k).lo := fun k => by rw [getD_map' Sp.lo _ _ ⟨0, 0⟩ rfl, spansB_get]
  have gh : ∀ k, ((spansB b g).map Sp.hi).getD k 0 = (spanB b g k).hi := fun k => by rw [getD_map' Sp.hi _ _ ⟨0, 0⟩ rfl, spansB_get]
  refine leftsR_eq ?_ ⟨_, (mem _).2 wh, by rw [rest_eq h hg day wh, gh, gh, gh]⟩ ⟨_, (mem _).2 wl, by rw [rest_eq h hg day wl, gl, gl, gl]⟩
  intro x hx
  have hx' := (mem x).1 hx
  rw [rest_eq h hg day hx']
  have b0 := hx'.get _ _ 0
  have b1 := hx'.get _ _ 1
  have b2 := hx'.get _ _ 2
  rw [spansB_get] at b0 b1 b2
  have c0 := Int.mul_le_mul_of_nonneg_left b0.1 k1.1
  have c1 := Int.mul_le_mul_of_nonneg_left b1.1 k2.1
  have c2 := Int.mul_le_mul_of_nonneg_left b2.1 k3.1
  have d0 := Int.mul_le_mul_of_nonneg_left b0.2 k1.1
  have d1 := Int.mul_le_mul_of_nonneg_left b1.2 k2.1
  have d2 := Int.mul_le_mul_of_nonneg_left b2.2 k3.1
  constructor <;> omega
end Go.Aw
end

section
namespace Go.Aw
open Go Go.Proofs Go.Proofs.Try

theorem counted_eq (b : Book) (cs : List Sp) : countedR b cs = !badList b.stock.length cs := by
  have e : (fun s : Sp => !(decide (s.lo ≥ 0) && decide (s.lo ≤ s.hi) && decide (s.hi ≤ 100000))) = badCount := by
    funext s
    simp only [badCount]
    rw [Bool.eq_iff_iff]
    simp only [Bool.not_eq_true', Bool.and_eq_false_iff, decide_eq_false_iff_not]
    rw [show (within 0 100000 [s.lo, s.hi] = false) ↔ ¬ ((0 ≤ s.lo ∧ s.lo ≤ 100000) ∧ (0 ≤ s.hi ∧ s.hi ≤ 100000)) by
      rw [← Bool.not_eq_true, within_iff]; simp]
    omega
  have e2 : decide ((cs.length : Int) = b.stock.length) = decide (cs.length = b.stock.length) := by
    rw [Bool.eq_iff_iff]; simp; omega
  rw [countedR, e, badList, e2]
  cases cs.any badCount <;> cases decide (cs.length = b.stock.length) <;> rfl

theorem left_err (b : Book) : (leftP b).2 = checkP b := by
  unfold leftP; split
  · rfl
  · omega

theorem miss_bad {b : Book} {cs : List Sp} (h : checkP b ≠ 0) : missP b cs = ([], checkP b) := by
  simp [missP, openP, h]

theorem miss_uncounted {b : Book} {cs : List Sp} (h : checkP b = 0) (hc : countedR b cs = false) : missP b cs = ([], 3) := by
  rw [counted_eq] at hc
  have : badList b.stock.length cs = true := by simpa using hc
  simp [missP, openP, h, this]

theorem miss_good {b : Book} {cs : List Sp} (h : checkP b = 0) (hc : countedR b cs = true) : missP b cs = (missW b cs, 0) ∧ cs.length = b.stock.length := by
  rw [counted_eq] at hc
  have hb : badList b.stock.length cs = false := by simpa using hc
  have hl : cs.length = b.stock.length := by
    simp [badList] at hb; omega
  exact ⟨by simp [missP, openP, h, hb], hl⟩

/-- The law's row, halfway. -/
def rowM (b : Book) (cs : List Sp) (i : Nat) : List Sp := (List.range b.stock.length).map fun j => if j < i then missOne b j (cs.getD j ⟨0, 0⟩) else leftW (acctW b j 365)

theorem rowM_len (b : Book) (cs : List Sp) (i : Nat) : (rowM b cs i).length = b.stock.length := by simp [rowM]

theorem rowM_zero (b : Book) (cs : List Sp) : rowM b cs 0 = leftsW b := by simp [rowM, leftsW]

theorem rowM_get (b : Book) (cs : List Sp) {i : Nat} (h : i < (rowM b cs i).length) : (rowM b cs i)[i] = leftW (acctW b i 365) := by simp [rowM]

theorem rowM_set (b : Book) (cs : List Sp) {i : Nat} (h : i < b.stock.length) (hc : i < cs.length) : (rowM b cs i).set i (missOne b i cs[i]) = rowM b cs (i + 1) := by
  apply List.ext_getElem
  · simp [rowM]
  · intro j h1 h2
    simp only [rowM, List.length_map, List.length_range] at h2
    rw [List.getElem_set]
    simp only [rowM, List.getElem_map, List.getElem_range]
    by_cases hij : i = j
    · subst hij; simp [hc]
    · rw [if_neg hij]
      by_cases hj : j < i
      · rw [if_pos hj, if_pos (by omega)]
      · rw [if_neg hj, if_neg (by omega)]

theorem rowM_end (b : Book) (cs : List Sp) (h : cs.length = b.stock.length) : rowM b cs b.stock.length = missW b cs := by
  apply List.ext_getElem
  · simp [rowM, missW, h]
  · intro j h1 h2
    simp only [rowM, List.length_map, List.length_range] at h1
    simp only [rowM, missW, List.getElem_map, List.getElem_range, List.getElem_mapIdx]
    rw [if_pos h1, getD_eq (by omega)]

theorem c3 (b : Book) (cs : List Sp) : PC prog 3 [.d b.d, .d (.sl (cs.map Sp.d))] (.d (.bool true)) := by
  refine PC.run (fun k => k == 13) tt_ok (fn := f3) (rs := [.tmp 4]) rfl rfl rfl rfl rfl rfl rfl ?_
  simp only [go_sem, Nat.reduceBEq, Nat.reduceEqDiff, Nat.reduceLT, Nat.reduceLeDiff, Nat.reduceAdd, Nat.reduceSub, Nat.reduceMul, reduceCtorEq, Int.reduceToNat, Int.reduceEq, Int.reduceLT, Int.reduceLE, Int.reduceNe, Int.reduceNeg , or_self, or_false, false_or , List.length_map, Book.d]
  refine (c13 b).call rfl rfl rfl ?_
  simp only [go_sem, Nat.reduceBEq, Nat.reduceEqDiff, Nat.reduceLT, Nat.reduceLeDiff, Nat.reduceAdd, Nat.reduceSub, Nat.reduceMul, reduceCtorEq, Int.reduceToNat, Int.reduceEq, Int.reduceLT, Int.reduceLE, Int.reduceNe, Int.reduceNeg , or_self, or_false, false_or , List.length_map]
  refine Br_split (fun h1 => ?_) (fun h1 => ?_) <;> simp only [go_sem, Nat.reduceBEq, Nat.reduceEqDiff, Nat.reduceLT, Nat.reduceLeDiff, Nat.reduceAdd, Nat.reduceSub, Nat.reduceMul, reduceCtorEq, Int.reduceToNat, Int.reduceEq, Int.reduceLT, Int.reduceLE, Int.reduceNe, Int.reduceNeg , or_self, or_false, false_or , List.length_map, h1]
  · refine c14.call rfl rfl rfl ?_
    simp only [go_sem, Nat.reduceBEq, Nat.reduceEqDiff, Nat.reduceLT, Nat.reduceLeDiff, Nat.reduceAdd, Nat.reduceSub, Nat.reduceMul, reduceCtorEq, Int.reduceToNat, Int.reduceEq, Int.reduceLT, Int.reduceLE, Int.reduceNe, Int.reduceNeg , or_self, or_false, false_or , List.length_map]
  refine Br_split (fun h2 => ?_) (fun h2 => ?_) <;> simp only [go_sem, Nat.reduceBEq, Nat.reduceEqDiff, Nat.reduceLT, Nat.reduceLeDiff, Nat.reduceAdd, Nat.reduceSub, Nat.reduceMul, reduceCtorEq, Int.reduceToNat, Int.reduceEq, Int.reduceLT, Int.reduceLE, Int.reduceNe, Int.reduceNeg , or_self, or_false, false_or , List.length_map, h1, h2]
  · refine c14.call rfl rfl rfl ?_
    simp only [go_sem, Nat.reduceBEq, Nat.reduceEqDiff, Nat.reduceLT, Nat.reduceLeDiff, Nat.reduceAdd, Nat.reduceSub, Nat.reduceMul, reduceCtorEq, Int.reduceToNat, Int.reduceEq, Int.reduceLT, Int.reduceLE, Int.reduceNe, Int.reduceNeg , or_self, or_false, false_or , List.length_map]
  have hb := large_fits' h1
  obtain ⟨z0, z1, z2, z3, z4⟩ := large_fits h1
  have hcl : cs.length ≤ 20 := by simp at h2; omega
  have hcl2 : cs.length ≤ 4294967296 := by omega
  have hacc : checkP b = 0 → ∀ g, g < b.stock.length → b.Acc g := fun h => checkP_acc h
  refine (c15 b hb).call rfl rfl rfl ?_
  have zc : sized 2 (cs.map Sp.d) = true := by simp [sized, Sp.d, dcells]
  simp only [go_sem, Nat.reduceBEq, Nat.reduceEqDiff, Nat.reduceLT, Nat.reduceLeDiff, Nat.reduceAdd, Nat.reduceSub, Nat.reduceMul, reduceCtorEq, Int.reduceToNat, Int.reduceEq, Int.reduceLT, Int.reduceLE, Int.reduceNe, Int.reduceNeg , or_self, or_false, false_or , List.length_map, Book.d, zc, hcl2]
  refine (c16 b hb).call rfl rfl rfl ?_
  simp only [go_sem, Nat.reduceBEq, Nat.reduceEqDiff, Nat.reduceLT, Nat.reduceLeDiff, Nat.reduceAdd, Nat.reduceSub, Nat.reduceMul, reduceCtorEq, Int.reduceToNat, Int.reduceEq, Int.reduceLT, Int.reduceLE, Int.reduceNe, Int.reduceNeg , or_self, or_false, false_or , List.length_map]
  refine (c17 b hb hacc).call rfl rfl rfl ?_
  simp only [go_sem, Nat.reduceBEq, Nat.reduceEqDiff, Nat.reduceLT, Nat.reduceLeDiff, Nat.reduceAdd, Nat.reduceSub, Nat.reduceMul, reduceCtorEq, Int.reduceToNat, Int.reduceEq, Int.reduceLT, Int.reduceLE, Int.reduceNe, Int.reduceNeg , or_self, or_false, false_or , List.length_map]
  refine (c18 b cs hb hcl2 hacc).call rfl rfl rfl ?_
  simp only [go_sem, Nat.reduceBEq, Nat.reduceEqDiff, Nat.reduceLT, Nat.reduceLeDiff, Nat.reduceAdd, Nat.reduceSub, Nat.reduceMul, reduceCtorEq, Int.reduceToNat, Int.reduceEq, Int.reduceLT, Int.reduceLE, Int.reduceNe, Int.reduceNeg , or_self, or_false, false_or , List.length_map]
  refine (c19 b hb).call rfl rfl rfl ?_
  simp only [go_sem, Nat.reduceBEq, Nat.reduceEqDiff, Nat.reduceLT, Nat.reduceLeDiff, Nat.reduceAdd, Nat.reduceSub, Nat.reduceMul, reduceCtorEq, Int.reduceToNat, Int.reduceEq, Int.reduceLT, Int.reduceLE, Int.reduceNe, Int.reduceNeg , or_self, or_false, false_or , List.length_map]
  refine (c20 b hb).call rfl rfl rfl ?_
  simp only [go_sem, Nat.reduceBEq, Nat.reduceEqDiff, Nat.reduceLT, Nat.reduceLeDiff, Nat.reduceAdd, Nat.reduceSub, Nat.reduceMul, reduceCtorEq, Int.reduceToNat, Int.reduceEq, Int.reduceLT, Int.reduceLE, Int.reduceNe, Int.reduceNeg , or_self, or_false, false_or , List.length_map]
  refine (c21 cs cs hcl2 hcl2).call rfl rfl rfl ?_
  simp only [go_sem, Nat.reduceBEq, Nat.reduceEqDiff, Nat.reduceLT, Nat.reduceLeDiff, Nat.reduceAdd, Nat.reduceSub, Nat.reduceMul, reduceCtorEq, Int.reduceToNat, Int.reduceEq, Int.reduceLT, Int.reduceLE, Int.reduceNe, Int.reduceNeg , or_self, or_false, false_or , List.length_map, left_err]
  refine Br_split (fun h3 => ?_) (fun h3 => ?_) <;> simp only [go_sem, Nat.reduceBEq, Nat.reduceEqDiff, Nat.reduceLT, Nat.reduceLeDiff, Nat.reduceAdd, Nat.reduceSub, Nat.reduceMul, reduceCtorEq, Int.reduceToNat, Int.reduceEq, Int.reduceLT, Int.reduceLE, Int.reduceNe, Int.reduceNeg , or_self, or_false, false_or , List.length_map, h3]
  · have hk : checkP b ≠ 0 := by simpa using h3
    have hl : (leftP b).1 = [] := by simp [leftP, hk]
    have z00 : IntKind.i64.wrap (((0 : Nat) : Int) + ((0 : Nat) : Int)) = 0 := w64 (n := 0) (by omega) (by omega)
    simp only [go_sem, Nat.reduceBEq, Nat.reduceEqDiff, Nat.reduceLT, Nat.reduceLeDiff, Nat.reduceAdd, Nat.reduceSub, Nat.reduceMul, reduceCtorEq, Int.reduceToNat, Int.reduceEq, Int.reduceLT, Int.reduceLE, Int.reduceNe, Int.reduceNeg , or_self, or_false, false_or , List.length_map, miss_bad hk, hl, z00]
    refine c14.call rfl rfl rfl ?_
    simp only [go_sem, Nat.reduceBEq, Nat.reduceEqDiff, Nat.reduceLT, Nat.reduceLeDiff, Nat.reduceAdd, Nat.reduceSub, Nat.reduceMul, reduceCtorEq, Int.reduceToNat, Int.reduceEq, Int.reduceLT, Int.reduceLE, Int.reduceNe, Int.reduceNeg , or_self, or_false, false_or , List.length_map]
  have hk : checkP b = 0 := by simpa using h3
  have hok := checkP_ok hk
  have hl : (leftP b).1 = leftsW b := by simp [leftP, hk]
  have hsl := hok.s4
  rw [hl]
  refine ALoop.by (S := Nat) (fun i => [(14, .d (.int .i64 i)), (13, .ref 2 i 0 i), (2, .ptr 0 0), (1, .d (.sl (cs.map Sp.d))), (8, .d (.sl ((leftsW b).map Sp.d))), (10, .d (.sl ((missP b cs).1.map Sp.d))), (11, .d (.int .i64 (missP b cs).2))])
    (fun i => [.cells (bookV b), .cells (bookV b), .arr 2 false (((leftsW b).take i).map Sp.d)]) (fun i => b.stock.length - i) (fun i => i ≤ b.stock.length) 0 (by simp) (fun _ h => nomatch h) (Nat.zero_le _) ?_ ?_
  · exact ForgetTo.same' (by simp) (by simp [EWe, Env.look]) (by simp [bookV])
  rintro i hi hn
  have hll : (leftsW b).length = b.stock.length := by simp [leftsW]
  refine AWP.run (fun k => k == 13) tt_ok (fun _ h => nomatch h) (by simp) rfl ?_
  simp only [go_sem, Nat.reduceBEq, Nat.reduceEqDiff, Nat.reduceLT, Nat.reduceLeDiff, Nat.reduceAdd, Nat.reduceSub, Nat.reduceMul, reduceCtorEq, Int.reduceToNat, Int.reduceEq, Int.reduceLT, Int.reduceLE, Int.reduceNe, Int.reduceNeg , or_self, or_false, false_or , List.length_map, bookV]
  refine Br_split (fun hd => ?_) (fun hd => ?_) <;> simp only [go_sem, Nat.reduceBEq, Nat.reduceEqDiff, Nat.reduceLT, Nat.reduceLeDiff, Nat.reduceAdd, Nat.reduceSub, Nat.reduceMul, reduceCtorEq, Int.reduceToNat, Int.reduceEq, Int.reduceLT, Int.reduceLE, Int.reduceNe, Int.reduceNeg , or_self, or_false, false_or , List.length_map, hd]
  · have hlt : i < b.stock.length := by simpa using hd
    have hlt2 : i < (leftsW b).length := by omega
    have hle : i + 1 ≤ 4294967296 := by omega
    have hmin : min i (leftsW b).length = i := by omega
    refine (c22 b hok i hlt 365).call rfl rfl rfl ?_
    simp only [go_sem, Nat.reduceBEq, Nat.reduceEqDiff, Nat.reduceLT, Nat.reduceLeDiff, Nat.reduceAdd, Nat.reduceSub, Nat.reduceMul, reduceCtorEq, Int.reduceToNat, Int.reduceEq, Int.reduceLT, Int.reduceLE, Int.reduceNe, Int.reduceNeg , or_self, or_false, false_or , List.length_map, Sp.d, List.length_map, List.length_take, hmin, hle]
    refine ⟨i + 1, hlt, by omega, ?_⟩
    have e : (leftsW b)[i] = leftR b i 365 := by rw [← left_eq hok hlt]; simp [leftsW]
    exact ForgetTo.same' (by simp) (by simp [EWe, Env.look, w64 (n := (i : Int) + 1) (by omega) (by omega)]) (by rw [List.take_succ_eq_append_getElem hlt2, e]; simp [bookV, Sp.d])
  have hni : i = b.stock.length := by have : ¬ i < b.stock.length := by simpa using hd
                                      omega
  rw [hni, show (leftsW b).take b.stock.length = leftsW b from List.take_of_length_le (by omega)]
  simp only [go_sem, Nat.reduceBEq, Nat.reduceEqDiff, Nat.reduceLT, Nat.reduceLeDiff, Nat.reduceAdd, Nat.reduceSub, Nat.reduceMul, reduceCtorEq, Int.reduceToNat, Int.reduceEq, Int.reduceLT, Int.reduceLE, Int.reduceNe, Int.reduceNeg , or_self, or_false, false_or , List.length_map]
  have hll2 : (leftsW b).length ≤ 4294967296 := by omega
  have tkl : ((leftsW b).map Sp.d).take b.stock.length = (leftsW b).map Sp.d := List.take_of_length_le (by simp; omega)
  refine (c21 (leftsW b) (leftsW b) hll2 hll2).callL rfl (by simp [pubVs, pubV, dz, hll, tkl]) rfl ?_
  simp only [go_sem, Nat.reduceBEq, Nat.reduceEqDiff, Nat.reduceLT, Nat.reduceLeDiff, Nat.reduceAdd, Nat.reduceSub, Nat.reduceMul, reduceCtorEq, Int.reduceToNat, Int.reduceEq, Int.reduceLT, Int.reduceLE, Int.reduceNe, Int.reduceNeg , or_self, or_false, false_or , List.length_map]
  refine (c23 b cs hcl2).call rfl rfl rfl ?_
  simp only [go_sem, Nat.reduceBEq, Nat.reduceEqDiff, Nat.reduceLT, Nat.reduceLeDiff, Nat.reduceAdd, Nat.reduceSub, Nat.reduceMul, reduceCtorEq, Int.reduceToNat, Int.reduceEq, Int.reduceLT, Int.reduceLE, Int.reduceNe, Int.reduceNeg , or_self, or_false, false_or , List.length_map]
  refine Br_split (fun h4 => ?_) (fun h4 => ?_) <;> simp only [go_sem, Nat.reduceBEq, Nat.reduceEqDiff, Nat.reduceLT, Nat.reduceLeDiff, Nat.reduceAdd, Nat.reduceSub, Nat.reduceMul, reduceCtorEq, Int.reduceToNat, Int.reduceEq, Int.reduceLT, Int.reduceLE, Int.reduceNe, Int.reduceNeg , or_self, or_false, false_or , List.length_map, h4]
  · have hc : countedR b cs = false := by simpa using h4
    have z30 : ((0 : Nat) : Int) = 0 := rfl
    simp only [go_sem, Nat.reduceBEq, Nat.reduceEqDiff, Nat.reduceLT, Nat.reduceLeDiff, Nat.reduceAdd, Nat.reduceSub, Nat.reduceMul, reduceCtorEq, Int.reduceToNat, Int.reduceEq, Int.reduceLT, Int.reduceLE, Int.reduceNe, Int.reduceNeg , or_self, or_false, false_or , List.length_map, miss_uncounted hk hc, z30]
    refine c14.call rfl rfl rfl ?_
    simp only [go_sem, Nat.reduceBEq, Nat.reduceEqDiff, Nat.reduceLT, Nat.reduceLeDiff, Nat.reduceAdd, Nat.reduceSub, Nat.reduceMul, reduceCtorEq, Int.reduceToNat, Int.reduceEq, Int.reduceLT, Int.reduceLE, Int.reduceNe, Int.reduceNeg , or_self, or_false, false_or , List.length_map]
  have hc : countedR b cs = true := by simpa using h4
  obtain ⟨hm, hcs⟩ := miss_good hk hc
  rw [hm]
  refine ALoop.by (S := Nat) (fun i => [(15, .d (.int .i64 i)), (13, .ref 2 b.stock.length 0 b.stock.length), (1, .d (.sl (cs.map Sp.d))), (10, .d (.sl ((missW b cs).map Sp.d))), (11, .d (.int .i64 0))])
    (fun i => [.cells (bookV b), .cells (bookV b), .arr 2 false ((rowM b cs i).map Sp.d)]) (fun i => b.stock.length - i) (fun i => i ≤ b.stock.length) 0 (by simp) (fun _ h => nomatch h) (Nat.zero_le _) ?_ ?_
  · exact ForgetTo.same' (by simp) (by simp [EWe, Env.look]) (by simp [bookV, rowM_zero])
  clear hi hn hd
  rintro j hj hn
  have hrl := rowM_len b cs j
  refine AWP.run (fun k => k == 13) tt_ok (fun _ h => nomatch h) (by simp) rfl ?_
  simp only [go_sem, Nat.reduceBEq, Nat.reduceEqDiff, Nat.reduceLT, Nat.reduceLeDiff, Nat.reduceAdd, Nat.reduceSub, Nat.reduceMul, reduceCtorEq, Int.reduceToNat, Int.reduceEq, Int.reduceLT, Int.reduceLE, Int.reduceNe, Int.reduceNeg , or_self, or_false, false_or , List.length_map, bookV, hrl]
  refine Br_split (fun hd => ?_) (fun hd => ?_) <;> simp only [go_sem, Nat.reduceBEq, Nat.reduceEqDiff, Nat.reduceLT, Nat.reduceLeDiff, Nat.reduceAdd, Nat.reduceSub, Nat.reduceMul, reduceCtorEq, Int.reduceToNat, Int.reduceEq, Int.reduceLT, Int.reduceLE, Int.reduceNe, Int.reduceNeg , or_self, or_false, false_or , List.length_map, hd]
  · have hlt : j < b.stock.length := by simpa using hd
    have hjc : j < cs.length := by omega
    have hjr : j < (rowM b cs j).length := by omega
    have y0 : (0 : Int) ≤ (j : Int) := by omega
    have y1 : (j : Int) < (b.stock.length : Int) := by omega
    refine ADrw.treeG (fun k => k == 13) tt_ok (by kernel_rfl) (fun k => if k = 4 ∨ k = 6 ∨ k = 15 ∨ k = 17 ∨ k = 25 then some .L else if k = 26 then some .W else some .S) (.ones [0, 1, 2, 3, 4, 5, 6, 7, 8, 9, 10, 11, 12, 13, 14, 15, 16, 17, 18, 19, 20, 21, 22, 23, 24, 25, 26] .done) (by simp) (fun _ h => nomatch h) rfl rfl (by kernel_rfl) ?_
    simp only [go_sem, Nat.reduceBEq, Nat.reduceEqDiff, Nat.reduceLT, Nat.reduceLeDiff, Nat.reduceAdd, Nat.reduceSub, Nat.reduceMul, reduceCtorEq, Int.reduceToNat, Int.reduceEq, Int.reduceLT, Int.reduceLE, Int.reduceNe, Int.reduceNeg , or_self, or_false, false_or , List.length_map, hrl, y0, y1, Int.toNat_natCast, idx_nat, List.getElem?_map, List.getElem?_eq_getElem hjc, List.getElem?_eq_getElem hjr, rowM_get b cs hjr, Sp.d]
    refine (c24 _ _).callS rfl rfl rfl rfl rfl rfl ?_
    simp only [go_sem, Nat.reduceBEq, Nat.reduceEqDiff, Nat.reduceLT, Nat.reduceLeDiff, Nat.reduceAdd, Nat.reduceSub, Nat.reduceMul, reduceCtorEq, Int.reduceToNat, Int.reduceEq, Int.reduceLT, Int.reduceLE, Int.reduceNe, Int.reduceNeg , or_self, or_false, false_or , List.length_map, hrl, y0, y1, Int.toNat_natCast, List.getElem?_map, List.getElem?_eq_getElem hjr, Sp.d]
    refine ⟨j + 1, hlt, by omega, ?_⟩
    have e := rowM_set b cs hlt hjc
    exact ForgetTo.same' (by simp) (by simp [EWe, Env.look, w64 (n := (j : Int) + 1) (by omega) (by omega)]) (by rw [← e]; simp [bookV, Sp.d, List.map_set, missOne])
  · have hjn : j = b.stock.length := by have : ¬ j < b.stock.length := by simpa using hd
                                        omega
    rw [hjn, rowM_end b cs hcs]
    have hml : (missW b cs).length = b.stock.length := by simp [missW, hcs]
    have hml2 : (missW b cs).length ≤ 4294967296 := by omega
    have tkm : ((missW b cs).map Sp.d).take b.stock.length = (missW b cs).map Sp.d := List.take_of_length_le (by simp; omega)
    simp only [go_sem, Nat.reduceBEq, Nat.reduceEqDiff, Nat.reduceLT, Nat.reduceLeDiff, Nat.reduceAdd, Nat.reduceSub, Nat.reduceMul, reduceCtorEq, Int.reduceToNat, Int.reduceEq, Int.reduceLT, Int.reduceLE, Int.reduceNe, Int.reduceNeg , or_self, or_false, false_or , List.length_map]
    refine (c21 (missW b cs) (missW b cs) hml2 hml2).callL rfl (by simp [pubVs, pubV, dz, hml, tkm]) rfl ?_
    simp only [go_sem, Nat.reduceBEq, Nat.reduceEqDiff, Nat.reduceLT, Nat.reduceLeDiff, Nat.reduceAdd, Nat.reduceSub, Nat.reduceMul, reduceCtorEq, Int.reduceToNat, Int.reduceEq, Int.reduceLT, Int.reduceLE, Int.reduceNe, Int.reduceNeg , or_self, or_false, false_or , List.length_map]
    refine c14.call rfl rfl rfl ?_
    simp only [go_sem, Nat.reduceBEq, Nat.reduceEqDiff, Nat.reduceLT, Nat.reduceLeDiff, Nat.reduceAdd, Nat.reduceSub, Nat.reduceMul, reduceCtorEq, Int.reduceToNat, Int.reduceEq, Int.reduceLT, Int.reduceLE, Int.reduceNe, Int.reduceNeg , or_self, or_false, false_or , List.length_map]
end Go.Aw
end

section
set_option maxRecDepth 100000
namespace Go.Aw
open Go Go.Proofs

theorem has_spans {f : Nat} {y : D} (h : HasT Try.prog (f + 3) 28 y) : ∃ l : List Sp, y = .sl (l.map Sp.d) := by
  unfold HasT at h
  rw [Try.underlying28] at h
  obtain ⟨l, rfl, _, hl⟩ := h
  obtain ⟨ss, rfl⟩ := has_list (fun y hy => has_sp (f := f) hy) l hl
  exact ⟨ss, rfl⟩

theorem has_ent {f : Nat} {y : D} (h : HasT Try.prog (f + 2) 103 y) : ∃ s : Ent, y = s.d := by
  unfold HasT at h
  rw [Try.underlying103] at h
  obtain ⟨l, rfl, h⟩ := h
  simp only [HasFs] at h
  obtain ⟨y1, r1, rfl, h1, y2, r2, rfl, h2, y3, r3, rfl, h3, rfl⟩ := h
  obtain ⟨n1, rfl, _⟩ := has_int h1
  obtain ⟨n2, rfl, _⟩ := has_int h2
  obtain ⟨n3, rfl, _⟩ := has_int h3
  exact ⟨⟨n1, n2, n3⟩, rfl⟩

theorem has_mad {f : Nat} {y : D} (h : HasT Try.prog (f + 2) 123 y) : ∃ s : Mad, y = s.d := by
  unfold HasT at h
  rw [Try.underlying123] at h
  obtain ⟨l, rfl, h⟩ := h
  simp only [HasFs] at h
  obtain ⟨y1, r1, rfl, h1, y2, r2, rfl, h2, y3, r3, rfl, h3, rfl⟩ := h
  obtain ⟨n1, rfl, _⟩ := has_int h1
  obtain ⟨n2, rfl, _⟩ := has_int h2
  obtain ⟨n3, rfl, _⟩ := has_int h3
  exact ⟨⟨n1, n2, n3⟩, rfl⟩

theorem has_rec {f : Nat} {y : D} (h : HasT Try.prog (f + 4) 100 y) : ∃ s : List Sp, y = recD s := by
  unfold HasT at h
  rw [Try.underlying100] at h
  obtain ⟨l, rfl, h⟩ := h
  simp only [HasFs] at h
  obtain ⟨y1, r1, rfl, h1, rfl⟩ := h
  obtain ⟨l, rfl⟩ := has_spans h1
  exact ⟨l, rfl⟩

theorem has_book {f : Nat} {y : D} (h : HasT Try.prog (f + 6) 27 y) : ∃ b : Book, y = b.d := by
  unfold HasT at h
  rw [Try.underlying27] at h
  obtain ⟨l, rfl, h⟩ := h
  simp only [HasFs] at h
  obtain ⟨y1, r1, rfl, h1, y2, r2, rfl, h2, y3, r3, rfl, h3, y4, r4, rfl, h4, rfl⟩ := h
  obtain ⟨st, rfl, _, _⟩ := has_ints h1
  unfold HasT at h2 h3 h4
  rw [Try.underlying23] at h2
  rw [Try.underlying24] at h3
  rw [Try.underlying25] at h4
  obtain ⟨l2, rfl, _, k2⟩ := h2
  obtain ⟨l3, rfl, _, k3⟩ := h3
  obtain ⟨l4, rfl, _, k4⟩ := h4
  obtain ⟨es, rfl⟩ := has_list (fun y hy => has_ent hy) l2 k2
  obtain ⟨rs, rfl⟩ := has_list (fun y hy => has_rec hy) l3 k3
  obtain ⟨ms, rfl⟩ := has_list (fun y hy => has_mad hy) l4 k4
  exact ⟨⟨st, es, rs, ms⟩, rfl⟩

end Go.Aw
end

section
namespace Go.Aw
open Go Go.Proofs Go.Proofs.Try

/-- The first of so many days from d on. -/
def firstF (p : Nat → Bool) : Nat → Nat → Int
  | 0, _ => -1
  | k + 1, d => if p d = true then (d : Int) else firstF p k (d + 1)

def daysL (f : Nat → Sp) : List Sp := (List.range 366).map f

theorem c38 (f : Nat → Sp) : PC prog 38 [.d (.sl ((daysL f).map Sp.d))] (.tup [.d (.int .i64 (firstF (fun d => decide ((f d).hi < 0)) 366 0)), .d (.int .i64 (firstF (fun d => decide ((f d).lo < 0)) 366 0))]) := by
  have hl : (daysL f).length = 366 := by simp [daysL]
  refine PC.run (fun _ => false) tt_ok (fn := f38) (rs := [.tmp 2, .tmp 3]) rfl rfl rfl rfl rfl rfl rfl ?_
  simp only [go_sem, Nat.reduceBEq, Nat.reduceEqDiff, Nat.reduceLT, Nat.reduceLeDiff, Nat.reduceAdd, Nat.reduceSub, Nat.reduceMul, reduceCtorEq, Int.reduceToNat, Int.reduceEq, Int.reduceLT, Int.reduceLE, Int.reduceNe, Int.reduceNeg , or_self, or_false, false_or , List.length_map]
  refine ALoop.by (S := Nat) (fun k => [(6, .d (.int .i64 (365 - (k : Int)))), (4, .d (.int .i64 (firstF (fun d => decide ((f d).hi < 0)) k (366 - k)))), (5, .d (.int .i64 (firstF (fun d => decide ((f d).lo < 0)) k (366 - k)))), (0, .d (.sl ((daysL f).map Sp.d)))])
    (fun _ => []) (fun k => 366 - k) (fun k => k ≤ 366) 0 (by simp) (fun _ h => nomatch h) (Nat.zero_le _) ?_ ?_
  · exact ForgetTo.same' (by simp) (by simp [EWe, Env.look, firstF]) (by simp)
  rintro k hk hn
  refine AWP.run (fun _ => false) tt_ok (fun _ h => nomatch h) (by simp) rfl ?_
  simp only [go_sem, Nat.reduceBEq, Nat.reduceEqDiff, Nat.reduceLT, Nat.reduceLeDiff, Nat.reduceAdd, Nat.reduceSub, Nat.reduceMul, reduceCtorEq, Int.reduceToNat, Int.reduceEq, Int.reduceLT, Int.reduceLE, Int.reduceNe, Int.reduceNeg , or_self, or_false, false_or , List.length_map]
  refine Br_split (fun hd => ?_) (fun hd => ?_) <;> simp only [go_sem, Nat.reduceBEq, Nat.reduceEqDiff, Nat.reduceLT, Nat.reduceLeDiff, Nat.reduceAdd, Nat.reduceSub, Nat.reduceMul, reduceCtorEq, Int.reduceToNat, Int.reduceEq, Int.reduceLT, Int.reduceLE, Int.reduceNe, Int.reduceNeg , or_self, or_false, false_or , List.length_map, hd]
  · have hlt : k < 366 := by simp at hd; omega
    obtain ⟨d, hde⟩ : ∃ d : Nat, d = 365 - k := ⟨_, rfl⟩
    have hdi : (365 - (k : Int)) = (d : Int) := by omega
    have hdl : d < (daysL f).length := by omega
    have hget : (daysL f)[d] = f d := by simp [daysL]
    have e1 : 366 - (k + 1) = d := by omega
    have e2 : 366 - k = d + 1 := by omega
    have s1 : firstF (fun d => decide ((f d).hi < 0)) (k + 1) d = if decide ((f d).hi < 0) = true then (d : Int) else firstF (fun d => decide ((f d).hi < 0)) k (d + 1) := rfl
    have s2 : firstF (fun d => decide ((f d).lo < 0)) (k + 1) d = if decide ((f d).lo < 0) = true then (d : Int) else firstF (fun d => decide ((f d).lo < 0)) k (d + 1) := rfl
    have hw : IntKind.i64.wrap ((d : Int) - 1) = 365 - ((k + 1 : Nat) : Int) := by rw [w64 (by omega) (by omega)]; omega
    simp only [go_sem, Nat.reduceBEq, Nat.reduceEqDiff, Nat.reduceLT, Nat.reduceLeDiff, Nat.reduceAdd, Nat.reduceSub, Nat.reduceMul, reduceCtorEq, Int.reduceToNat, Int.reduceEq, Int.reduceLT, Int.reduceLE, Int.reduceNe, Int.reduceNeg , or_self, or_false, false_or , List.length_map, hdi, idx_nat, List.getElem?_map, List.getElem?_eq_getElem hdl, hget, Sp.d]
    refine Br_split (fun h1 => ?_) (fun h1 => ?_) <;> simp only [go_sem, Nat.reduceBEq, Nat.reduceEqDiff, Nat.reduceLT, Nat.reduceLeDiff, Nat.reduceAdd, Nat.reduceSub, Nat.reduceMul, reduceCtorEq, Int.reduceToNat, Int.reduceEq, Int.reduceLT, Int.reduceLE, Int.reduceNe, Int.reduceNeg , or_self, or_false, false_or , List.length_map, h1]
    · simp only [go_sem, Nat.reduceBEq, Nat.reduceEqDiff, Nat.reduceLT, Nat.reduceLeDiff, Nat.reduceAdd, Nat.reduceSub, Nat.reduceMul, reduceCtorEq, Int.reduceToNat, Int.reduceEq, Int.reduceLT, Int.reduceLE, Int.reduceNe, Int.reduceNeg , or_self, or_false, false_or , List.length_map, idx_nat, List.getElem?_map, List.getElem?_eq_getElem hdl, hget, Sp.d]
      refine Br_split (fun h2 => ?_) (fun h2 => ?_) <;> simp only [go_sem, Nat.reduceBEq, Nat.reduceEqDiff, Nat.reduceLT, Nat.reduceLeDiff, Nat.reduceAdd, Nat.reduceSub, Nat.reduceMul, reduceCtorEq, Int.reduceToNat, Int.reduceEq, Int.reduceLT, Int.reduceLE, Int.reduceNe, Int.reduceNeg , or_self, or_false, false_or , List.length_map, h2]
      all_goals
        refine ⟨k + 1, hlt, by omega, ?_⟩
        rw [e1, s1, s2, e2, hw]
        simp only [h1, h2]
        exact ForgetTo.same' (by simp) (by simp [EWe, Env.look]) rfl
    · simp only [go_sem, Nat.reduceBEq, Nat.reduceEqDiff, Nat.reduceLT, Nat.reduceLeDiff, Nat.reduceAdd, Nat.reduceSub, Nat.reduceMul, reduceCtorEq, Int.reduceToNat, Int.reduceEq, Int.reduceLT, Int.reduceLE, Int.reduceNe, Int.reduceNeg , or_self, or_false, false_or , List.length_map, idx_nat, List.getElem?_map, List.getElem?_eq_getElem hdl, hget, Sp.d]
      refine Br_split (fun h2 => ?_) (fun h2 => ?_) <;> simp only [go_sem, Nat.reduceBEq, Nat.reduceEqDiff, Nat.reduceLT, Nat.reduceLeDiff, Nat.reduceAdd, Nat.reduceSub, Nat.reduceMul, reduceCtorEq, Int.reduceToNat, Int.reduceEq, Int.reduceLT, Int.reduceLE, Int.reduceNe, Int.reduceNeg , or_self, or_false, false_or , List.length_map, h2]
      all_goals
        refine ⟨k + 1, hlt, by omega, ?_⟩
        rw [e1, s1, s2, e2, hw]
        simp only [h1, h2]
        exact ForgetTo.same' (by simp) (by simp [EWe, Env.look]) rfl
  have hke : k = 366 := by simp at hd; omega
  subst hke
  rfl

/-- A day on which something was written. -/
def evtB (b : Book) (d : Nat) : Bool := d == 0 || b.ents.any (fun x => decide (x.day = d)) || b.made.any (fun m => decide (m.day = d))

theorem same_day {b : Book} {g e : Nat} (h : evtB b (e + 1) = false) : acctW b g ((e + 1 : Nat) : Int) = acctW b g (e : Int) := by
  simp only [evtB, Bool.or_eq_false_iff] at h
  obtain ⟨⟨_, h1⟩, h2⟩ := h
  have k1 : ∀ (l : List Ent) (n : Int), (∀ x ∈ l, x.day ≠ ((e + 1 : Nat) : Int)) → l.foldl (sumW g ((e + 1 : Nat) : Int)) n = l.foldl (sumW g (e : Int)) n := by
    intro l
    induction l with
    | nil => intros; rfl
    | cons x r ih =>
      intro n h
      have hx := h x (by simp)
      have : sumW g ((e + 1 : Nat) : Int) n x = sumW g (e : Int) n x := by
        unfold sumW
        have : decide (x.day ≤ ((e + 1 : Nat) : Int)) = decide (x.day ≤ (e : Int)) := by rw [Bool.eq_iff_iff]; simp only [decide_eq_true_eq]; omega
        rw [this]
      rw [List.foldl_cons, List.foldl_cons, this]
      exact ih _ fun y hy => h y (List.mem_cons_of_mem _ hy)
  have k2 : ∀ (k : Nat) (l : List Mad) (n : Int), (∀ x ∈ l, x.day ≠ ((e + 1 : Nat) : Int)) → l.foldl (signW ((e + 1 : Nat) : Int) k) n = l.foldl (signW (e : Int) k) n := by
    intro k l
    induction l with
    | nil => intros; rfl
    | cons x r ih =>
      intro n h
      have hx := h x (by simp)
      have : signW ((e + 1 : Nat) : Int) k n x = signW (e : Int) k n x := by
        unfold signW
        have : decide (x.day ≤ ((e + 1 : Nat) : Int)) = decide (x.day ≤ (e : Int)) := by rw [Bool.eq_iff_iff]; simp only [decide_eq_true_eq]; omega
        rw [this]
      rw [List.foldl_cons, List.foldl_cons, this]
      exact ih _ fun y hy => h y (List.mem_cons_of_mem _ hy)
  have a1 : ∀ x ∈ b.ents, x.day ≠ ((e + 1 : Nat) : Int) := fun x hx => by simpa using any_false h1 x hx
  have a2 : ∀ x ∈ b.made, x.day ≠ ((e + 1 : Nat) : Int) := fun x hx => by simpa using any_false h2 x hx
  simp only [acctW, k1 _ _ a1, k2 _ _ _ a2]

def dayF (b : Book) (g : Nat) (d : Nat) : Sp := leftW (acctW b g (d : Int))

def daysW (b : Book) (g : Nat) (d : Nat) : List Sp := (List.range d).map (dayF b g)

theorem daysW_len (b : Book) (g d : Nat) : (daysW b g d).length = d := by simp [daysW]
theorem daysW_succ (b : Book) (g d : Nat) : daysW b g (d + 1) = daysW b g d ++ [dayF b g d] := by simp [daysW, List.range_succ]
theorem daysW_get (b : Book) (g : Nat) {d e : Nat} (h : e < (daysW b g d).length) : (daysW b g d)[e] = dayF b g e := by simp [daysW]

theorem c39 (b : Book) (hb : b.Ok) (g : Nat) (hg : g < b.stock.length) : PC prog 39 [.d b.d, .d (.int .i64 g)] (.d (.sl ((daysL (dayF b g)).map Sp.d))) := by
  have h2 := hb.fits.ents
  have h3 := hb.fits.made
  refine PC.run (fun k => k == 5) tt_ok (fn := f39) (rs := [.tmp 4]) rfl rfl rfl rfl rfl rfl rfl ?_
  simp only [go_sem, Nat.reduceBEq, Nat.reduceEqDiff, Nat.reduceLT, Nat.reduceLeDiff, Nat.reduceAdd, Nat.reduceSub, Nat.reduceMul, reduceCtorEq, Int.reduceToNat, Int.reduceEq, Int.reduceLT, Int.reduceLE, Int.reduceNe, Int.reduceNeg , or_self, or_false, false_or , List.length_map, Book.d]
  refine ALoop.by (S := Nat) (fun d => [(6, .d (.int .i64 d)), (5, .ref 1 d 0 d), (2, .ptr 0 0), (1, .d (.int .i64 g))])
    (fun d => [.cells (bookV b), .arr 2 false ((daysW b g d).map Sp.d)]) (fun d => 366 - d) (fun d => d ≤ 366) 0 (by simp) (fun _ h => nomatch h) (Nat.zero_le _) ?_ ?_
  · exact ForgetTo.same' (by simp) (by simp [EWe, Env.look]) (by simp [bookV, daysW])
  rintro d hd0 hn
  refine AWP.run (fun k => k == 5) tt_ok (fun _ h => nomatch h) (by simp) rfl ?_
  simp only [go_sem, Nat.reduceBEq, Nat.reduceEqDiff, Nat.reduceLT, Nat.reduceLeDiff, Nat.reduceAdd, Nat.reduceSub, Nat.reduceMul, reduceCtorEq, Int.reduceToNat, Int.reduceEq, Int.reduceLT, Int.reduceLE, Int.reduceNe, Int.reduceNeg , or_self, or_false, false_or , List.length_map, bookV]
  refine Br_split (fun hd => ?_) (fun hd => ?_) <;> simp only [go_sem, Nat.reduceBEq, Nat.reduceEqDiff, Nat.reduceLT, Nat.reduceLeDiff, Nat.reduceAdd, Nat.reduceSub, Nat.reduceMul, reduceCtorEq, Int.reduceToNat, Int.reduceEq, Int.reduceLT, Int.reduceLE, Int.reduceNe, Int.reduceNeg , or_self, or_false, false_or , List.length_map, hd]
  · have hlt : d < 366 := by simp at hd; omega
    refine ALoop.by (S := Nat) (fun i => [(8, .d (.int .i64 i)), (7, .d (.bool (decide ((d : Int) = 0) || (b.ents.take i).any (fun x => decide (x.day = d))))), (6, .d (.int .i64 d)), (5, .ref 1 d 0 d), (2, .ptr 0 0), (1, .d (.int .i64 g))])
      (fun _ => [.cells (bookV b), .arr 2 false ((daysW b g d).map Sp.d)]) (fun i => b.ents.length - i) (fun i => i ≤ b.ents.length) 0 (by simp) (fun _ h => nomatch h) (Nat.zero_le _) ?_ ?_
    · exact ForgetTo.same' (by simp) (by simp [EWe, Env.look]) (by simp [bookV])
    rintro i hi hn
    refine AWP.run (fun k => k == 5) tt_ok (fun _ h => nomatch h) (by simp) rfl ?_
    simp only [go_sem, Nat.reduceBEq, Nat.reduceEqDiff, Nat.reduceLT, Nat.reduceLeDiff, Nat.reduceAdd, Nat.reduceSub, Nat.reduceMul, reduceCtorEq, Int.reduceToNat, Int.reduceEq, Int.reduceLT, Int.reduceLE, Int.reduceNe, Int.reduceNeg , or_self, or_false, false_or , List.length_map, bookV]
    refine Br_split (fun he => ?_) (fun he => ?_) <;> simp only [go_sem, Nat.reduceBEq, Nat.reduceEqDiff, Nat.reduceLT, Nat.reduceLeDiff, Nat.reduceAdd, Nat.reduceSub, Nat.reduceMul, reduceCtorEq, Int.reduceToNat, Int.reduceEq, Int.reduceLT, Int.reduceLE, Int.reduceNe, Int.reduceNeg , or_self, or_false, false_or , List.length_map, he]
    · have hil : i < b.ents.length := by simpa using he
      have ht := any_take hil fun x => decide (x.day = (d : Int))
      refine Br_split (fun hf => ?_) (fun hf => ?_) <;> simp only [go_sem, Nat.reduceBEq, Nat.reduceEqDiff, Nat.reduceLT, Nat.reduceLeDiff, Nat.reduceAdd, Nat.reduceSub, Nat.reduceMul, reduceCtorEq, Int.reduceToNat, Int.reduceEq, Int.reduceLT, Int.reduceLE, Int.reduceNe, Int.reduceNeg , or_self, or_false, false_or , List.length_map, hf, idx_nat, List.getElem?_map, List.getElem?_eq_getElem hil, Ent.d]
      · refine ⟨i + 1, hil, by omega, ?_⟩
        rw [ht, ← Bool.or_assoc, hf]
        exact ForgetTo.same' (by simp) (by simp [EWe, Env.look, w64 (n := (i : Int) + 1) (by omega) (by omega)]) (by simp [bookV])
      · refine ⟨i + 1, hil, by omega, ?_⟩
        rw [ht, ← Bool.or_assoc, hf]
        exact ForgetTo.same' (by simp) (by simp [EWe, Env.look, w64 (n := (i : Int) + 1) (by omega) (by omega)]) (by simp [bookV])
    have hnl : ¬ i < b.ents.length := by simpa using he
    rw [show b.ents.take i = b.ents from List.take_of_length_le (by omega)]
    generalize hev : (decide ((d : Int) = 0) || b.ents.any (fun x => decide (x.day = d))) = ev0
    refine ALoop.by (S := Nat) (fun i => [(9, .d (.int .i64 i)), (7, .d (.bool (ev0 || (b.made.take i).any (fun x => decide (x.day = d))))), (6, .d (.int .i64 d)), (5, .ref 1 d 0 d), (2, .ptr 0 0), (1, .d (.int .i64 g))])
      (fun _ => [.cells (bookV b), .arr 2 false ((daysW b g d).map Sp.d)]) (fun i => b.made.length - i) (fun i => i ≤ b.made.length) 0 (by simp) (fun _ h => nomatch h) (Nat.zero_le _) ?_ ?_
    · exact ForgetTo.same' (by simp) (by simp [EWe, Env.look]) (by simp [bookV])
    clear hi he hnl hn
    rintro i hi hn
    refine AWP.run (fun k => k == 5) tt_ok (fun _ h => nomatch h) (by simp) rfl ?_
    simp only [go_sem, Nat.reduceBEq, Nat.reduceEqDiff, Nat.reduceLT, Nat.reduceLeDiff, Nat.reduceAdd, Nat.reduceSub, Nat.reduceMul, reduceCtorEq, Int.reduceToNat, Int.reduceEq, Int.reduceLT, Int.reduceLE, Int.reduceNe, Int.reduceNeg , or_self, or_false, false_or , List.length_map, bookV]
    refine Br_split (fun he => ?_) (fun he => ?_) <;> simp only [go_sem, Nat.reduceBEq, Nat.reduceEqDiff, Nat.reduceLT, Nat.reduceLeDiff, Nat.reduceAdd, Nat.reduceSub, Nat.reduceMul, reduceCtorEq, Int.reduceToNat, Int.reduceEq, Int.reduceLT, Int.reduceLE, Int.reduceNe, Int.reduceNeg , or_self, or_false, false_or , List.length_map, he]
    · have hil : i < b.made.length := by simpa using he
      have ht := any_take hil fun x => decide (x.day = (d : Int))
      refine Br_split (fun hf => ?_) (fun hf => ?_) <;> simp only [go_sem, Nat.reduceBEq, Nat.reduceEqDiff, Nat.reduceLT, Nat.reduceLeDiff, Nat.reduceAdd, Nat.reduceSub, Nat.reduceMul, reduceCtorEq, Int.reduceToNat, Int.reduceEq, Int.reduceLT, Int.reduceLE, Int.reduceNe, Int.reduceNeg , or_self, or_false, false_or , List.length_map, hf, idx_nat, List.getElem?_map, List.getElem?_eq_getElem hil, Mad.d]
      · refine ⟨i + 1, hil, by omega, ?_⟩
        rw [ht, ← Bool.or_assoc, hf]
        exact ForgetTo.same' (by simp) (by simp [EWe, Env.look, w64 (n := (i : Int) + 1) (by omega) (by omega)]) (by simp [bookV])
      · refine ⟨i + 1, hil, by omega, ?_⟩
        rw [ht, ← Bool.or_assoc, hf]
        exact ForgetTo.same' (by simp) (by simp [EWe, Env.look, w64 (n := (i : Int) + 1) (by omega) (by omega)]) (by simp [bookV])
    have hnl : ¬ i < b.made.length := by simpa using he
    rw [show b.made.take i = b.made from List.take_of_length_le (by omega)]
    have hevt : (ev0 || b.made.any fun x => decide (x.day = d)) = evtB b d := by
      rw [← hev, evtB]
      have : decide ((d : Int) = 0) = (d == 0) := by rw [Bool.eq_iff_iff]; simp
      rw [this]
    rw [hevt]
    clear hevt hev
    have hle : d + 1 ≤ 4294967296 := by omega
    refine Br_split (fun hf => ?_) (fun hf => ?_) <;> simp only [go_sem, Nat.reduceBEq, Nat.reduceEqDiff, Nat.reduceLT, Nat.reduceLeDiff, Nat.reduceAdd, Nat.reduceSub, Nat.reduceMul, reduceCtorEq, Int.reduceToNat, Int.reduceEq, Int.reduceLT, Int.reduceLE, Int.reduceNe, Int.reduceNeg , or_self, or_false, false_or , List.length_map, hf]
    · refine (c22 b hb g hg d).call rfl rfl rfl ?_
      simp only [go_sem, Nat.reduceBEq, Nat.reduceEqDiff, Nat.reduceLT, Nat.reduceLeDiff, Nat.reduceAdd, Nat.reduceSub, Nat.reduceMul, reduceCtorEq, Int.reduceToNat, Int.reduceEq, Int.reduceLT, Int.reduceLE, Int.reduceNe, Int.reduceNeg , or_self, or_false, false_or , List.length_map, daysW_len, hle, Sp.d]
      refine ⟨d + 1, hlt, by omega, ?_⟩
      exact ForgetTo.same' (by simp) (by simp [EWe, Env.look, w64 (n := (d : Int) + 1) (by omega) (by omega)]) (by rw [← left_eq hb hg, daysW_succ]; simp [bookV, dayF, Sp.d])
    · obtain ⟨e, rfl⟩ : ∃ e, d = e + 1 := by
        cases d with
        | zero => simp [evtB] at hf
        | succ e => exact ⟨e, rfl⟩
      have hw : IntKind.i64.wrap (((e + 1 : Nat) : Int) - 1) = (e : Int) := by rw [w64 (by omega) (by omega)]; omega
      have y0 : (0 : Int) ≤ (e : Int) := by omega
      have y1 : (e : Int) < ((e + 1 : Nat) : Int) := by omega
      have hel : e < (daysW b g (e + 1)).length := by rw [daysW_len]; omega
      have hlen := daysW_len b g (e + 1)
      simp only [go_sem, Nat.reduceBEq, Nat.reduceEqDiff, Nat.reduceLT, Nat.reduceLeDiff, Nat.reduceAdd, Nat.reduceSub, Nat.reduceMul, reduceCtorEq, Int.reduceToNat, Int.reduceEq, Int.reduceLT, Int.reduceLE, Int.reduceNe, Int.reduceNeg , or_self, or_false, false_or , List.length_map, hw, y0, y1, hlen, List.getElem?_map, List.getElem?_eq_getElem hel, daysW_get b g hel, Int.toNat_natCast, hle, Sp.d]
      refine ⟨e + 1 + 1, hlt, by omega, ?_⟩
      have hsd := same_day (g := g) hf
      exact ForgetTo.same' (by simp) (by simp [EWe, Env.look, w64 (n := (e : Int) + 1 + 1) (by omega) (by omega)]) (by
        rw [daysW_succ b g (e + 1)]
        simp only [List.map_append, List.map_cons, List.map_nil, dayF, hsd, bookV, Sp.d])
  have hde : d = 366 := by simp at hd; omega
  subst hde
  have hlen := daysW_len b g 366
  have ht : ((daysW b g 366).map Sp.d).take 366 = (daysW b g 366).map Sp.d := List.take_of_length_le (by simp [hlen])
  rw [show daysL (dayF b g) = daysW b g 366 from rfl]
  simp only [go_sem, Nat.reduceBEq, Nat.reduceEqDiff, Nat.reduceLT, Nat.reduceLeDiff, Nat.reduceAdd, Nat.reduceSub, Nat.reduceMul, reduceCtorEq, Int.reduceToNat, Int.reduceEq, Int.reduceLT, Int.reduceLE, Int.reduceNe, Int.reduceNeg , or_self, or_false, false_or , List.length_map, hlen, ht]
end Go.Aw
end

section
namespace Go.Aw
open Go Go.Proofs Go.Proofs.Try

def minD (f : Nat → Sp) : Nat → Int
  | 0 => 0
  | i + 1 => min (minD f i) (f i).lo

def possD (f : Nat → Sp) : Int := firstF (fun d => decide ((f d).lo < 0)) 366 0

def buyRow (b : Book) (days : Int) (g : Nat) : List BuyS := if possD (dayF b g) ≥ 0 then [⟨g, wr (possD (dayF b g) - days), wr (- minD (dayF b g) 366)⟩] else []

def buysR (b : Book) (days : Int) : Nat → List BuyS
  | 0 => []
  | g + 1 => buysR b days g ++ buyRow b days g

theorem buysR_len (b : Book) (days : Int) : ∀ g, (buysR b days g).length ≤ g
  | 0 => by simp [buysR]
  | g + 1 => by
    have := buysR_len b days g
    have h : (buyRow b days g).length ≤ 1 := by unfold buyRow; split <;> simp
    simp only [buysR, List.length_append]; omega

theorem c41 (b : Book) (hb : b.Ok) (days : Int) : PC prog 41 [.d b.d, .d (.int .i64 days)] (.d (.sl ((buysR b days b.stock.length).map BuyS.d))) := by
  have h4 := hb.s4
  refine PC.run (fun k => k == 5) tt_ok (fn := f41) (rs := [.tmp 4]) rfl rfl rfl rfl rfl rfl rfl ?_
  simp only [go_sem, Nat.reduceBEq, Nat.reduceEqDiff, Nat.reduceLT, Nat.reduceLeDiff, Nat.reduceAdd, Nat.reduceSub, Nat.reduceMul, reduceCtorEq, Int.reduceToNat, Int.reduceEq, Int.reduceLT, Int.reduceLE, Int.reduceNe, Int.reduceNeg , or_self, or_false, false_or , List.length_map, Book.d]
  refine ALoop.by (S := Nat) (fun g => [(6, .d (.int .i64 g)), (5, .ref 1 (buysR b days g).length 0 (buysR b days g).length), (2, .ptr 0 0), (1, .d (.int .i64 days))])
    (fun g => [.cells (bookV b), .arr 3 false ((buysR b days g).map BuyS.d)]) (fun g => b.stock.length - g) (fun g => g ≤ b.stock.length) 0 (by simp) (fun _ h => nomatch h) (Nat.zero_le _) ?_ ?_
  · exact ForgetTo.same' (by simp) (by simp [EWe, Env.look, buysR]) (by simp [bookV, buysR])
  rintro g hg hn
  refine AWP.run (fun k => k == 5) tt_ok (fun _ h => nomatch h) (by simp) rfl ?_
  simp only [go_sem, Nat.reduceBEq, Nat.reduceEqDiff, Nat.reduceLT, Nat.reduceLeDiff, Nat.reduceAdd, Nat.reduceSub, Nat.reduceMul, reduceCtorEq, Int.reduceToNat, Int.reduceEq, Int.reduceLT, Int.reduceLE, Int.reduceNe, Int.reduceNeg , or_self, or_false, false_or , List.length_map, bookV]
  refine Br_split (fun hd => ?_) (fun hd => ?_) <;> simp only [go_sem, Nat.reduceBEq, Nat.reduceEqDiff, Nat.reduceLT, Nat.reduceLeDiff, Nat.reduceAdd, Nat.reduceSub, Nat.reduceMul, reduceCtorEq, Int.reduceToNat, Int.reduceEq, Int.reduceLT, Int.reduceLE, Int.reduceNe, Int.reduceNeg , or_self, or_false, false_or , List.length_map, hd]
  · have hlt : g < b.stock.length := by simpa using hd
    refine (c39 b hb g hlt).call rfl rfl rfl ?_
    simp only [go_sem, Nat.reduceBEq, Nat.reduceEqDiff, Nat.reduceLT, Nat.reduceLeDiff, Nat.reduceAdd, Nat.reduceSub, Nat.reduceMul, reduceCtorEq, Int.reduceToNat, Int.reduceEq, Int.reduceLT, Int.reduceLE, Int.reduceNe, Int.reduceNeg , or_self, or_false, false_or , List.length_map]
    refine (c38 (dayF b g)).call rfl rfl rfl ?_
    simp only [go_sem, Nat.reduceBEq, Nat.reduceEqDiff, Nat.reduceLT, Nat.reduceLeDiff, Nat.reduceAdd, Nat.reduceSub, Nat.reduceMul, reduceCtorEq, Int.reduceToNat, Int.reduceEq, Int.reduceLT, Int.reduceLE, Int.reduceNe, Int.reduceNeg , or_self, or_false, false_or , List.length_map]
    rw [show firstF (fun d => decide ((dayF b g d).lo < 0)) 366 0 = possD (dayF b g) from rfl]
    have hrow : buyRow b days g = if possD (dayF b g) ≥ 0 then [⟨g, wr (possD (dayF b g) - days), wr (- minD (dayF b g) 366)⟩] else [] := rfl
    have hdl : (daysL (dayF b g)).length = 366 := by simp [daysL]
    have hget : ∀ d (h : d < (daysL (dayF b g)).length), (daysL (dayF b g))[d] = dayF b g d := fun d h => by simp [daysL]
    generalize possD (dayF b g) = ps at *
    generalize daysL (dayF b g) = L at *
    refine ALoop.by (S := Nat) (fun d => [(11, .d (.int .i64 d)), (10, .d (.int .i64 (minD (dayF b g) d))), (9, .d (.int .i64 ps)), (7, .d (.sl (L.map Sp.d))), (6, .d (.int .i64 g)), (5, .ref 1 (buysR b days g).length 0 (buysR b days g).length), (2, .ptr 0 0), (1, .d (.int .i64 days))])
      (fun _ => [.cells (bookV b), .arr 3 false ((buysR b days g).map BuyS.d)]) (fun d => 366 - d) (fun d => d ≤ 366) 0 (by simp) (fun _ h => nomatch h) (Nat.zero_le _) ?_ ?_
    · exact ForgetTo.same' (by simp) (by simp [EWe, Env.look, minD]) (by simp [bookV])
    rintro d hd0 hn
    refine AWP.run (fun k => k == 5) tt_ok (fun _ h => nomatch h) (by simp) rfl ?_
    simp only [go_sem, Nat.reduceBEq, Nat.reduceEqDiff, Nat.reduceLT, Nat.reduceLeDiff, Nat.reduceAdd, Nat.reduceSub, Nat.reduceMul, reduceCtorEq, Int.reduceToNat, Int.reduceEq, Int.reduceLT, Int.reduceLE, Int.reduceNe, Int.reduceNeg , or_self, or_false, false_or , List.length_map, bookV]
    refine Br_split (fun he => ?_) (fun he => ?_) <;> simp only [go_sem, Nat.reduceBEq, Nat.reduceEqDiff, Nat.reduceLT, Nat.reduceLeDiff, Nat.reduceAdd, Nat.reduceSub, Nat.reduceMul, reduceCtorEq, Int.reduceToNat, Int.reduceEq, Int.reduceLT, Int.reduceLE, Int.reduceNe, Int.reduceNeg , or_self, or_false, false_or , List.length_map, he]
    · have hlt2 : d < 366 := by simp at he; omega
      have hdl2 : d < L.length := by omega
      simp only [go_sem, Nat.reduceBEq, Nat.reduceEqDiff, Nat.reduceLT, Nat.reduceLeDiff, Nat.reduceAdd, Nat.reduceSub, Nat.reduceMul, reduceCtorEq, Int.reduceToNat, Int.reduceEq, Int.reduceLT, Int.reduceLE, Int.reduceNe, Int.reduceNeg , or_self, or_false, false_or , List.length_map, idx_nat, List.getElem?_map, List.getElem?_eq_getElem hdl2, hget d hdl2, Sp.d]
      refine ⟨d + 1, hlt2, by omega, ?_⟩
      exact ForgetTo.same' (by simp) (by simp [EWe, Env.look, minD, w64 (n := (d : Int) + 1) (by omega) (by omega)]) (by simp [bookV])
    have hde : d = 366 := by simp at he; omega
    subst hde
    have hbl := buysR_len b days g
    have hle : (buysR b days g).length + 1 ≤ 4294967296 := by omega
    generalize hm : minD (dayF b g) 366 = mn at *
    refine Br_split (fun hf => ?_) (fun hf => ?_) <;> simp only [go_sem, Nat.reduceBEq, Nat.reduceEqDiff, Nat.reduceLT, Nat.reduceLeDiff, Nat.reduceAdd, Nat.reduceSub, Nat.reduceMul, reduceCtorEq, Int.reduceToNat, Int.reduceEq, Int.reduceLT, Int.reduceLE, Int.reduceNe, Int.reduceNeg , or_self, or_false, false_or , List.length_map, hf, hle]
    · have hf' : ps ≥ 0 := by simpa using hf
      rw [if_pos hf'] at hrow
      refine ⟨g + 1, hlt, by omega, ?_⟩
      exact ForgetTo.same' (by simp) (by simp [EWe, Env.look, buysR, hrow, w64 (n := (g : Int) + 1) (by omega) (by omega)]) (by simp [bookV, buysR, hrow, BuyS.d])
    · have hf' : ¬ ps ≥ 0 := by simpa using hf
      rw [if_neg hf'] at hrow
      refine ⟨g + 1, hlt, by omega, ?_⟩
      exact ForgetTo.same' (by simp) (by simp [EWe, Env.look, buysR, hrow, w64 (n := (g : Int) + 1) (by omega) (by omega)]) (by simp [bookV, buysR, hrow])
  have hge : g = b.stock.length := by have : ¬ g < b.stock.length := by simpa using hd
                                      omega
  rw [hge]
  have ht : ∀ l : List BuyS, (l.map BuyS.d).take l.length = l.map BuyS.d := fun l => List.take_of_length_le (by simp)
  simp only [go_sem, Nat.reduceBEq, Nat.reduceEqDiff, Nat.reduceLT, Nat.reduceLeDiff, Nat.reduceAdd, Nat.reduceSub, Nat.reduceMul, reduceCtorEq, Int.reduceToNat, Int.reduceEq, Int.reduceLT, Int.reduceLE, Int.reduceNe, Int.reduceNeg , or_self, or_false, false_or , List.length_map, ht]
end Go.Aw
end

section
set_option maxRecDepth 100000
namespace Go.Aw
open Go Go.Proofs Go.Proofs.Try

theorem firstF_succ (p : Nat → Bool) : ∀ (k d : Nat), firstF p (k + 1) d = if firstF p k d = -1 then (if p (d + k) = true then ((d + k : Nat) : Int) else -1) else firstF p k d
  | 0, d => by simp [firstF]
  | k + 1, d => by
    have ih := firstF_succ p k (d + 1)
    have e : firstF p (k + 1 + 1) d = if p d = true then (d : Int) else firstF p (k + 1) (d + 1) := rfl
    have e2 : firstF p (k + 1) d = if p d = true then (d : Int) else firstF p k (d + 1) := rfl
    rw [e, e2, ih]
    by_cases hp : p d = true
    · rw [if_pos hp, if_pos hp, if_neg (by omega)]
    · rw [if_neg hp, if_neg hp, show d + 1 + k = d + (k + 1) by omega]

theorem lowF_eq (f : Nat → Sp) (h : ∀ d, (f d).lo ≤ (f d).hi) : ∀ (k d : Nat) (p : Int), lowF f k d p = (firstF (fun d => decide ((f d).hi < 0)) k d, if p = -1 then firstF (fun d => decide ((f d).lo < 0)) k d else p)
  | 0, d, p => by
    simp only [lowF, firstF]
    by_cases hp : p = -1 <;> simp [hp]
  | k + 1, d, p => by
    have hd := h d
    have e1 : firstF (fun d => decide ((f d).hi < 0)) (k + 1) d = if (f d).hi < 0 then (d : Int) else firstF (fun d => decide ((f d).hi < 0)) k (d + 1) := by simp [firstF]
    have e2 : firstF (fun d => decide ((f d).lo < 0)) (k + 1) d = if (f d).lo < 0 then (d : Int) else firstF (fun d => decide ((f d).lo < 0)) k (d + 1) := by simp [firstF]
    simp only [lowF]
    rw [e1, e2]
    by_cases h1 : (f d).hi < 0
    · have h2 : (f d).lo < 0 := by omega
      rw [if_pos h1, if_pos h1, if_pos h2]
      by_cases hp : p = -1
      · rw [if_pos ⟨h2, hp⟩, if_pos hp]
      · rw [if_neg (fun h => hp h.2), if_neg hp]
    · rw [if_neg h1, if_neg h1]
      by_cases h2 : (f d).lo < 0
      · rw [if_pos h2]
        by_cases hp : p = -1
        · rw [if_pos ⟨h2, hp⟩, if_pos hp, lowF_eq f h k (d + 1) d, if_neg (by omega)]
        · rw [if_neg (fun h => hp h.2), if_neg hp, lowF_eq f h k (d + 1) p, if_neg hp]
      · rw [if_neg h2, if_neg (fun h => h2 h.1), lowF_eq f h k (d + 1) p]

theorem left_bounds {b : Book} (h : b.Ok) {g : Nat} (hg : g < b.stock.length) (day : Int) : (leftW (acctW b g day)).lo ≤ (leftW (acctW b g day)).hi ∧ -1000000 ≤ (leftW (acctW b g day)).lo ∧ (leftW (acctW b g day)).hi ≤ 1000000 := by
  obtain ⟨k0, k1, k2, k3⟩ := acct_bounds h hg day
  have p0 := h.span g 0
  have p1 := h.span g 1
  have p2 := h.span g 2
  rw [leftW_ends h hg]
  have q0 := mul_le k1.1 k1.2 (b := (spanB b g 0).hi) (d := 50) (by omega) (by omega)
  have q1 := mul_le k2.1 k2.2 (b := (spanB b g 1).hi) (d := 50) (by omega) (by omega)
  have q2 := mul_le k3.1 k3.2 (b := (spanB b g 2).hi) (d := 50) (by omega) (by omega)
  have r0 := mul_le k1.1 k1.2 (b := (spanB b g 0).lo) (d := 50) (by omega) (by omega)
  have r1 := mul_le k2.1 k2.2 (b := (spanB b g 1).lo) (d := 50) (by omega) (by omega)
  have r2 := mul_le k3.1 k3.2 (b := (spanB b g 2).lo) (d := 50) (by omega) (by omega)
  have c0 := Int.mul_le_mul_of_nonneg_left p0.2.1 k1.1
  have c1 := Int.mul_le_mul_of_nonneg_left p1.2.1 k2.1
  have c2 := Int.mul_le_mul_of_nonneg_left p2.2.1 k3.1
  simp only
  omega

theorem lowW_eq {b : Book} (h : b.Ok) {g : Nat} (hg : g < b.stock.length) : lowW b g = (firstF (fun d => decide ((dayF b g d).hi < 0)) 366 0, firstF (fun d => decide ((dayF b g d).lo < 0)) 366 0) := by
  have := lowF_eq (dayF b g) (fun d => (left_bounds h hg d).1) 366 0 (-1)
  rw [if_pos rfl] at this
  exact this

theorem minD_bounds {b : Book} (h : b.Ok) {g : Nat} (hg : g < b.stock.length) : ∀ i, -1000000 ≤ minD (dayF b g) i ∧ minD (dayF b g) i ≤ 0
  | 0 => by simp [minD]
  | i + 1 => by
    have := minD_bounds h hg i
    have := (left_bounds h hg (i : Int)).2.1
    have : (dayF b g i).lo = (leftW (acctW b g (i : Int))).lo := rfl
    simp only [minD]; omega

theorem buyI_eq {b : Book} (h : b.Ok) {g : Nat} (hg : g < b.stock.length) : ∀ i, (buyI b g i).1 = firstF (fun d => decide ((dayF b g d).lo < 0)) i 0 ∧ (buyI b g i).2 = - minD (dayF b g) i
  | 0 => ⟨rfl, rfl⟩
  | i + 1 => by
    obtain ⟨h1, h2⟩ := buyI_eq h hg i
    rw [buyI_succ]
    have hb := left_bounds h hg (i : Int)
    have hm := minD_bounds h hg i
    have hf : (dayF b g i) = leftW (acctW b g (i : Int)) := rfl
    refine ⟨?_, ?_⟩
    · rw [firstF_succ, Nat.zero_add]
      simp only [buyStep, h1, hf, decide_eq_true_eq]
      by_cases hp : firstF (fun d => decide ((dayF b g d).lo < 0)) i 0 = -1
      · rw [if_pos hp]
        by_cases hq : (leftW (acctW b g (i : Int))).lo < 0
        · rw [if_pos ⟨hq, hp⟩, if_pos hq]
        · rw [if_neg (fun h => hq h.1), if_neg hq, hp]
      · rw [if_neg hp, if_neg (fun h => hp h.2)]
    · simp only [buyStep, h2, minD, hf]
      rw [show wr (0 - (leftW (acctW b g (i : Int))).lo) = 0 - (leftW (acctW b g (i : Int))).lo from w64 (by omega) (by omega)]
      omega

theorem firstF_pos (p : Nat → Bool) : ∀ (k d : Nat), firstF p k d = -1 ∨ 0 ≤ firstF p k d
  | 0, _ => .inl rfl
  | k + 1, d => by
    simp only [firstF]
    split
    · right; omega
    · exact firstF_pos p k (d + 1)

theorem buyOne_eq {b : Book} (h : b.Ok) (days : Int) {g : Nat} (hg : g < b.stock.length) : buyOne b days g = buyRow b days g := by
  obtain ⟨h1, h2⟩ := buyI_eq h hg 366
  have hm := minD_bounds h hg 366
  have hp := firstF_pos (fun d => decide ((dayF b g d).lo < 0)) 366 0
  have hp2 : possD (dayF b g) = firstF (fun d => decide ((dayF b g d).lo < 0)) 366 0 := rfl
  rw [buyOne, buyRow, h1, h2, hp2]
  generalize firstF (fun d => decide ((dayF b g d).lo < 0)) 366 0 = x at *
  generalize minD (dayF b g) 366 = y at *
  rw [show wr (-y) = -y from w64 (by omega) (by omega)]
  by_cases hx : x = -1
  · rw [if_pos hx, if_neg (by omega)]
  · rw [if_neg hx, if_pos (by omega)]

theorem buys_eq {b : Book} (h : b.Ok) (days : Int) : ∀ i, i ≤ b.stock.length → buysI b days i = buysR b days i
  | 0, _ => rfl
  | i + 1, hi => by rw [buysI_succ, buys_eq h days i (by omega), buyOne_eq h days (by omega)]; rfl
end Go.Aw
end

section
namespace Go.Aw
open Go Go.Proofs Go.Proofs.Try

theorem c6 (b : Book) (goods days : Int) : PC prog 6 [.d b.d, .d (.int .i64 goods), .d (.int .i64 days)] (.d (.bool true)) := by
  refine PC.run (fun _ => false) tt_ok (fn := f6) (rs := [.tmp 6]) rfl rfl rfl rfl rfl rfl rfl ?_
  simp only [go_sem, Nat.reduceBEq, Nat.reduceEqDiff, Nat.reduceLT, Nat.reduceLeDiff, Nat.reduceAdd, Nat.reduceSub, Nat.reduceMul, reduceCtorEq, Int.reduceToNat, Int.reduceEq, Int.reduceLT, Int.reduceLE, Int.reduceNe, Int.reduceNeg , or_self, or_false, false_or , List.length_map, Book.d]
  refine (c13 b).call rfl rfl rfl ?_
  simp only [go_sem, Nat.reduceBEq, Nat.reduceEqDiff, Nat.reduceLT, Nat.reduceLeDiff, Nat.reduceAdd, Nat.reduceSub, Nat.reduceMul, reduceCtorEq, Int.reduceToNat, Int.reduceEq, Int.reduceLT, Int.reduceLE, Int.reduceNe, Int.reduceNeg , or_self, or_false, false_or , List.length_map]
  refine Br_split (fun h1 => ?_) (fun h1 => ?_) <;> simp only [go_sem, Nat.reduceBEq, Nat.reduceEqDiff, Nat.reduceLT, Nat.reduceLeDiff, Nat.reduceAdd, Nat.reduceSub, Nat.reduceMul, reduceCtorEq, Int.reduceToNat, Int.reduceEq, Int.reduceLT, Int.reduceLE, Int.reduceNe, Int.reduceNeg , or_self, or_false, false_or , List.length_map, h1]
  · refine c14.call rfl rfl rfl ?_
    simp only [go_sem, Nat.reduceBEq, Nat.reduceEqDiff, Nat.reduceLT, Nat.reduceLeDiff, Nat.reduceAdd, Nat.reduceSub, Nat.reduceMul, reduceCtorEq, Int.reduceToNat, Int.reduceEq, Int.reduceLT, Int.reduceLE, Int.reduceNe, Int.reduceNeg , or_self, or_false, false_or , List.length_map]
  have hb := large_fits' h1
  have hacc : checkP b = 0 → ∀ g, g < b.stock.length → b.Acc g := fun h => checkP_acc h
  refine (c15 b hb).call rfl rfl rfl ?_
  simp only [go_sem, Nat.reduceBEq, Nat.reduceEqDiff, Nat.reduceLT, Nat.reduceLeDiff, Nat.reduceAdd, Nat.reduceSub, Nat.reduceMul, reduceCtorEq, Int.reduceToNat, Int.reduceEq, Int.reduceLT, Int.reduceLE, Int.reduceNe, Int.reduceNeg , or_self, or_false, false_or , List.length_map, Book.d]
  refine (c35 b goods hb hacc).call rfl rfl rfl ?_
  simp only [go_sem, Nat.reduceBEq, Nat.reduceEqDiff, Nat.reduceLT, Nat.reduceLeDiff, Nat.reduceAdd, Nat.reduceSub, Nat.reduceMul, reduceCtorEq, Int.reduceToNat, Int.reduceEq, Int.reduceLT, Int.reduceLE, Int.reduceNe, Int.reduceNeg , or_self, or_false, false_or , List.length_map]
  refine (c36 b days hb hacc).call rfl rfl rfl ?_
  simp only [go_sem, Nat.reduceBEq, Nat.reduceEqDiff, Nat.reduceLT, Nat.reduceLeDiff, Nat.reduceAdd, Nat.reduceSub, Nat.reduceMul, reduceCtorEq, Int.reduceToNat, Int.reduceEq, Int.reduceLT, Int.reduceLE, Int.reduceNe, Int.reduceNeg , or_self, or_false, false_or , List.length_map]
  refine (c20 b hb).call rfl rfl rfl ?_
  simp only [go_sem, Nat.reduceBEq, Nat.reduceEqDiff, Nat.reduceLT, Nat.reduceLeDiff, Nat.reduceAdd, Nat.reduceSub, Nat.reduceMul, reduceCtorEq, Int.reduceToNat, Int.reduceEq, Int.reduceLT, Int.reduceLE, Int.reduceNe, Int.reduceNeg , or_self, or_false, false_or , List.length_map]
  refine (c19 b hb).call rfl rfl rfl ?_
  simp only [go_sem, Nat.reduceBEq, Nat.reduceEqDiff, Nat.reduceLT, Nat.reduceLeDiff, Nat.reduceAdd, Nat.reduceSub, Nat.reduceMul, reduceCtorEq, Int.reduceToNat, Int.reduceEq, Int.reduceLT, Int.reduceLE, Int.reduceNe, Int.reduceNeg , or_self, or_false, false_or , List.length_map]
  by_cases hk : checkP b = 0
  case neg =>
    have e1 : lowP b goods = (0, 0, checkP b) := by simp [lowP, hk]
    have e2 : buyP b days = ([], checkP b) := by simp [buyP, hk]
    have z0 : ((0 : Nat) : Int) = 0 := rfl
    simp only [go_sem, Nat.reduceBEq, Nat.reduceEqDiff, Nat.reduceLT, Nat.reduceLeDiff, Nat.reduceAdd, Nat.reduceSub, Nat.reduceMul, reduceCtorEq, Int.reduceToNat, Int.reduceEq, Int.reduceLT, Int.reduceLE, Int.reduceNe, Int.reduceNeg , or_self, or_false, false_or , List.length_map, hk, e1, e2, z0]
    refine c14.call rfl rfl rfl ?_
    simp only [go_sem, Nat.reduceBEq, Nat.reduceEqDiff, Nat.reduceLT, Nat.reduceLeDiff, Nat.reduceAdd, Nat.reduceSub, Nat.reduceMul, reduceCtorEq, Int.reduceToNat, Int.reduceEq, Int.reduceLT, Int.reduceLE, Int.reduceNe, Int.reduceNeg , or_self, or_false, false_or , List.length_map]
  have hok := checkP_ok hk
  have hs4 := hok.s4
  have hll : (buysR b days b.stock.length).length ≤ 4294967296 := by have := buysR_len b days b.stock.length; omega
  simp only [go_sem, Nat.reduceBEq, Nat.reduceEqDiff, Nat.reduceLT, Nat.reduceLeDiff, Nat.reduceAdd, Nat.reduceSub, Nat.reduceMul, reduceCtorEq, Int.reduceToNat, Int.reduceEq, Int.reduceLT, Int.reduceLE, Int.reduceNe, Int.reduceNeg , or_self, or_false, false_or , List.length_map, hk]
  refine (c37w goods 0 (IntKind.i64.wrap ((b.stock.length : Int) - 1))).call rfl rfl rfl ?_
  simp only [go_sem, Nat.reduceBEq, Nat.reduceEqDiff, Nat.reduceLT, Nat.reduceLeDiff, Nat.reduceAdd, Nat.reduceSub, Nat.reduceMul, reduceCtorEq, Int.reduceToNat, Int.reduceEq, Int.reduceLT, Int.reduceLE, Int.reduceNe, Int.reduceNeg , or_self, or_false, false_or , List.length_map]
  refine Br_split (fun h7 => ?_) (fun h7 => ?_) <;> simp only [go_sem, Nat.reduceBEq, Nat.reduceEqDiff, Nat.reduceLT, Nat.reduceLeDiff, Nat.reduceAdd, Nat.reduceSub, Nat.reduceMul, reduceCtorEq, Int.reduceToNat, Int.reduceEq, Int.reduceLT, Int.reduceLE, Int.reduceNe, Int.reduceNeg , or_self, or_false, false_or , List.length_map, h7]
  · have h7' : within 0 (wr ((b.stock.length : Int) - 1)) [goods] = false := by simpa using h7
    have e1 : lowP b goods = (0, 0, 7) := by simp [lowP, hk, h7']
    refine (c37w days 0 60).call rfl rfl rfl ?_
    simp only [go_sem, Nat.reduceBEq, Nat.reduceEqDiff, Nat.reduceLT, Nat.reduceLeDiff, Nat.reduceAdd, Nat.reduceSub, Nat.reduceMul, reduceCtorEq, Int.reduceToNat, Int.reduceEq, Int.reduceLT, Int.reduceLE, Int.reduceNe, Int.reduceNeg , or_self, or_false, false_or , List.length_map, e1]
    refine Br_split (fun h3 => ?_) (fun h3 => ?_) <;> simp only [go_sem, Nat.reduceBEq, Nat.reduceEqDiff, Nat.reduceLT, Nat.reduceLeDiff, Nat.reduceAdd, Nat.reduceSub, Nat.reduceMul, reduceCtorEq, Int.reduceToNat, Int.reduceEq, Int.reduceLT, Int.reduceLE, Int.reduceNe, Int.reduceNeg , or_self, or_false, false_or , List.length_map, h3]
    · have h3' : within 0 60 [days] = false := by simpa using h3
      have e2 : buyP b days = ([], 3) := by simp [buyP, hk, h3']
      have z0 : ((0 : Nat) : Int) = 0 := rfl
      simp only [go_sem, Nat.reduceBEq, Nat.reduceEqDiff, Nat.reduceLT, Nat.reduceLeDiff, Nat.reduceAdd, Nat.reduceSub, Nat.reduceMul, reduceCtorEq, Int.reduceToNat, Int.reduceEq, Int.reduceLT, Int.reduceLE, Int.reduceNe, Int.reduceNeg , or_self, or_false, false_or , List.length_map, e2, z0]
      refine c14.call rfl rfl rfl ?_
      simp only [go_sem, Nat.reduceBEq, Nat.reduceEqDiff, Nat.reduceLT, Nat.reduceLeDiff, Nat.reduceAdd, Nat.reduceSub, Nat.reduceMul, reduceCtorEq, Int.reduceToNat, Int.reduceEq, Int.reduceLT, Int.reduceLE, Int.reduceNe, Int.reduceNeg , or_self, or_false, false_or , List.length_map]
    · have h3' : within 0 60 [days] = true := by simpa using h3
      have e2 : buyP b days = (buysR b days b.stock.length, 0) := by simp [buyP, hk, h3', buys_eq hok days b.stock.length (Nat.le_refl _)]
      simp only [go_sem, Nat.reduceBEq, Nat.reduceEqDiff, Nat.reduceLT, Nat.reduceLeDiff, Nat.reduceAdd, Nat.reduceSub, Nat.reduceMul, reduceCtorEq, Int.reduceToNat, Int.reduceEq, Int.reduceLT, Int.reduceLE, Int.reduceNe, Int.reduceNeg , or_self, or_false, false_or , List.length_map, e2]
      refine (c41 b hok days).call rfl rfl rfl ?_
      simp only [go_sem, Nat.reduceBEq, Nat.reduceEqDiff, Nat.reduceLT, Nat.reduceLeDiff, Nat.reduceAdd, Nat.reduceSub, Nat.reduceMul, reduceCtorEq, Int.reduceToNat, Int.reduceEq, Int.reduceLT, Int.reduceLE, Int.reduceNe, Int.reduceNeg , or_self, or_false, false_or , List.length_map]
      refine (c40 _ _ hll hll).call rfl rfl rfl ?_
      simp only [go_sem, Nat.reduceBEq, Nat.reduceEqDiff, Nat.reduceLT, Nat.reduceLeDiff, Nat.reduceAdd, Nat.reduceSub, Nat.reduceMul, reduceCtorEq, Int.reduceToNat, Int.reduceEq, Int.reduceLT, Int.reduceLE, Int.reduceNe, Int.reduceNeg , or_self, or_false, false_or , List.length_map]
      refine c14.call rfl rfl rfl ?_
      simp only [go_sem, Nat.reduceBEq, Nat.reduceEqDiff, Nat.reduceLT, Nat.reduceLeDiff, Nat.reduceAdd, Nat.reduceSub, Nat.reduceMul, reduceCtorEq, Int.reduceToNat, Int.reduceEq, Int.reduceLT, Int.reduceLE, Int.reduceNe, Int.reduceNeg , or_self, or_false, false_or , List.length_map]
  · have h7' : within 0 (wr ((b.stock.length : Int) - 1)) [goods] = true := by simpa using h7
    have hw := within_one h7'
    rw [show wr ((b.stock.length : Int) - 1) = (b.stock.length : Int) - 1 from w64 (by omega) (by have := hok.s1; omega)] at hw
    obtain ⟨g, rfl⟩ : ∃ g : Nat, goods = g := ⟨goods.toNat, by omega⟩
    have hg : g < b.stock.length := by omega
    have e1 : lowP b g = ((lowW b g).1, (lowW b g).2, 0) := by simp [lowP, hk, h7']
    rw [lowW_eq hok hg] at e1
    refine (c37w days 0 60).call rfl rfl rfl ?_
    simp only [go_sem, Nat.reduceBEq, Nat.reduceEqDiff, Nat.reduceLT, Nat.reduceLeDiff, Nat.reduceAdd, Nat.reduceSub, Nat.reduceMul, reduceCtorEq, Int.reduceToNat, Int.reduceEq, Int.reduceLT, Int.reduceLE, Int.reduceNe, Int.reduceNeg , or_self, or_false, false_or , List.length_map, e1]
    refine Br_split (fun h3 => ?_) (fun h3 => ?_) <;> simp only [go_sem, Nat.reduceBEq, Nat.reduceEqDiff, Nat.reduceLT, Nat.reduceLeDiff, Nat.reduceAdd, Nat.reduceSub, Nat.reduceMul, reduceCtorEq, Int.reduceToNat, Int.reduceEq, Int.reduceLT, Int.reduceLE, Int.reduceNe, Int.reduceNeg , or_self, or_false, false_or , List.length_map, h3]
    · have h3' : within 0 60 [days] = false := by simpa using h3
      have e2 : buyP b days = ([], 3) := by simp [buyP, hk, h3']
      have z0 : ((0 : Nat) : Int) = 0 := rfl
      simp only [go_sem, Nat.reduceBEq, Nat.reduceEqDiff, Nat.reduceLT, Nat.reduceLeDiff, Nat.reduceAdd, Nat.reduceSub, Nat.reduceMul, reduceCtorEq, Int.reduceToNat, Int.reduceEq, Int.reduceLT, Int.reduceLE, Int.reduceNe, Int.reduceNeg , or_self, or_false, false_or , List.length_map, e2, z0]
      refine (c39 b hok g hg).call rfl rfl rfl ?_
      simp only [go_sem, Nat.reduceBEq, Nat.reduceEqDiff, Nat.reduceLT, Nat.reduceLeDiff, Nat.reduceAdd, Nat.reduceSub, Nat.reduceMul, reduceCtorEq, Int.reduceToNat, Int.reduceEq, Int.reduceLT, Int.reduceLE, Int.reduceNe, Int.reduceNeg , or_self, or_false, false_or , List.length_map]
      refine (c38 (dayF b g)).call rfl rfl rfl ?_
      simp only [go_sem, Nat.reduceBEq, Nat.reduceEqDiff, Nat.reduceLT, Nat.reduceLeDiff, Nat.reduceAdd, Nat.reduceSub, Nat.reduceMul, reduceCtorEq, Int.reduceToNat, Int.reduceEq, Int.reduceLT, Int.reduceLE, Int.reduceNe, Int.reduceNeg , or_self, or_false, false_or , List.length_map]
      refine c14.call rfl rfl rfl ?_
      simp only [go_sem, Nat.reduceBEq, Nat.reduceEqDiff, Nat.reduceLT, Nat.reduceLeDiff, Nat.reduceAdd, Nat.reduceSub, Nat.reduceMul, reduceCtorEq, Int.reduceToNat, Int.reduceEq, Int.reduceLT, Int.reduceLE, Int.reduceNe, Int.reduceNeg , or_self, or_false, false_or , List.length_map]
    · have h3' : within 0 60 [days] = true := by simpa using h3
      have e2 : buyP b days = (buysR b days b.stock.length, 0) := by simp [buyP, hk, h3', buys_eq hok days b.stock.length (Nat.le_refl _)]
      simp only [go_sem, Nat.reduceBEq, Nat.reduceEqDiff, Nat.reduceLT, Nat.reduceLeDiff, Nat.reduceAdd, Nat.reduceSub, Nat.reduceMul, reduceCtorEq, Int.reduceToNat, Int.reduceEq, Int.reduceLT, Int.reduceLE, Int.reduceNe, Int.reduceNeg , or_self, or_false, false_or , List.length_map, e2]
      refine (c39 b hok g hg).call rfl rfl rfl ?_
      simp only [go_sem, Nat.reduceBEq, Nat.reduceEqDiff, Nat.reduceLT, Nat.reduceLeDiff, Nat.reduceAdd, Nat.reduceSub, Nat.reduceMul, reduceCtorEq, Int.reduceToNat, Int.reduceEq, Int.reduceLT, Int.reduceLE, Int.reduceNe, Int.reduceNeg , or_self, or_false, false_or , List.length_map]
      refine (c38 (dayF b g)).call rfl rfl rfl ?_
      simp only [go_sem, Nat.reduceBEq, Nat.reduceEqDiff, Nat.reduceLT, Nat.reduceLeDiff, Nat.reduceAdd, Nat.reduceSub, Nat.reduceMul, reduceCtorEq, Int.reduceToNat, Int.reduceEq, Int.reduceLT, Int.reduceLE, Int.reduceNe, Int.reduceNeg , or_self, or_false, false_or , List.length_map]
      refine (c41 b hok days).call rfl rfl rfl ?_
      simp only [go_sem, Nat.reduceBEq, Nat.reduceEqDiff, Nat.reduceLT, Nat.reduceLeDiff, Nat.reduceAdd, Nat.reduceSub, Nat.reduceMul, reduceCtorEq, Int.reduceToNat, Int.reduceEq, Int.reduceLT, Int.reduceLE, Int.reduceNe, Int.reduceNeg , or_self, or_false, false_or , List.length_map]
      refine (c40 _ _ hll hll).call rfl rfl rfl ?_
      simp only [go_sem, Nat.reduceBEq, Nat.reduceEqDiff, Nat.reduceLT, Nat.reduceLeDiff, Nat.reduceAdd, Nat.reduceSub, Nat.reduceMul, reduceCtorEq, Int.reduceToNat, Int.reduceEq, Int.reduceLT, Int.reduceLE, Int.reduceNe, Int.reduceNeg , or_self, or_false, false_or , List.length_map]
      refine c14.call rfl rfl rfl ?_
      simp only [go_sem, Nat.reduceBEq, Nat.reduceEqDiff, Nat.reduceLT, Nat.reduceLeDiff, Nat.reduceAdd, Nat.reduceSub, Nat.reduceMul, reduceCtorEq, Int.reduceToNat, Int.reduceEq, Int.reduceLT, Int.reduceLE, Int.reduceNe, Int.reduceNeg , or_self, or_false, false_or , List.length_map]
end Go.Aw
end
