/- The law's own books: own, rest, ends, about, inside. The law's store: the book and the takes that are made of it. A book in bytes is a valid one; its truth is among all truths. What signs truly take lies in what Told says, which is no wider than recipes are. The statement LedgerTruth: what the code answers is true of any store and counts. The statement LedgerTruth, first part: what is left, goods by goods. Stores as arguments. -/
import Derived.Test.YtglcghgokedbcaaL3
set_option linter.unusedSimpArgs false
set_option linter.unusedVariables false

section
set_option maxRecDepth 100000
namespace Go.Aw
open Go Go.Proofs Go.Proofs.Try

theorem c49 (b : Book) (hb : b.Fits) : PC prog 49 [.d b.d] (.d b.d) := by
  have h1 := hb.stock
  have h2 := hb.ents
  have h3 := hb.made
  have h4 := hb.recs
  have z1 : sized 1 (b.stock.map (D.int .i64)) = true := by simp [sized, dcells]
  have z2 : sized 3 (b.ents.map Ent.d) = true := by simp [sized, Ent.d, dcells]
  have z3 : sized 3 (b.made.map Mad.d) = true := by simp [sized, Mad.d, dcells]
  refine PC.run (fun k => k == 17 || k == 37) tt_ok (fn := f49) (rs := [.cell 2 27]) rfl rfl rfl rfl rfl rfl rfl ?_
  simp only [go_sem, Nat.reduceBEq, Nat.reduceEqDiff, Nat.reduceLT, Nat.reduceLeDiff, Nat.reduceAdd, Nat.reduceSub, Nat.reduceMul, reduceCtorEq, Int.reduceToNat, Int.reduceEq, Int.reduceLT, Int.reduceLE, Int.reduceNe, Int.reduceNeg , or_self, or_false, false_or , List.length_map, Book.d, Bool.or_true, Bool.true_or, Bool.or_false, Bool.false_or]
  refine ADrw.treeG (fun k => k == 17 || k == 37) tt_ok (by kernel_rfl) (fun k => if k = 2 ∨ k = 6 ∨ k = 10 then some .L else if k = 13 then some .A else if k = 14 then some .W else some .S) (.ones [0, 1, 2, 3, 4, 5, 6, 7, 8, 9, 10, 11, 12, 13, 14] .done) (by simp) (fun _ h => nomatch h) rfl rfl (by kernel_rfl) ?_
  simp only [go_sem, Nat.reduceBEq, Nat.reduceEqDiff, Nat.reduceLT, Nat.reduceLeDiff, Nat.reduceAdd, Nat.reduceSub, Nat.reduceMul, reduceCtorEq, Int.reduceToNat, Int.reduceEq, Int.reduceLT, Int.reduceLE, Int.reduceNe, Int.reduceNeg , or_self, or_false, false_or , List.length_map, Bool.or_true, Bool.true_or, Bool.or_false, Bool.false_or, z1, z2, z3, h1, h2, h3]
  refine ALoop.by (S := Nat) (fun i => [(4, .d (.int .i64 i)), (3, .ptr 2 0), (2, .ptr 1 0), (1, .ptr 0 0)])
    (fun i => match i with
      | 0 => [.cells (bookV b), .cells [.d (.sl []), .d (.sl []), .d (.sl []), .d (.sl [])], .cells [.d (.sl (b.stock.map (.int .i64))), .d (.sl (b.ents.map Ent.d)), .slx (some true) [], .d (.sl (b.made.map Mad.d))]]
      | i + 1 => [.cells (bookV b), .cells [.d (.sl []), .d (.sl []), .d (.sl []), .d (.sl [])], .cells [.d (.sl (b.stock.map (.int .i64))), .d (.sl (b.ents.map Ent.d)), .ref 3 (i + 1) 0 (i + 1), .d (.sl (b.made.map Mad.d))], .arr 1 false ((b.recs.take (i + 1)).map recD)]) (fun i => b.recs.length - i) (fun i => i ≤ b.recs.length) 0 (by simp) (fun _ h => nomatch h) (Nat.zero_le _) ?_ ?_
  · exact ForgetTo.same' (by simp) (by simp [EWe, Env.look]) (by simp [bookV])
  rintro i hi hn
  rcases i with _ | i
  · refine AWP.run (fun k => k == 17 || k == 37) tt_ok (fun _ h => nomatch h) (by simp) rfl ?_
    simp only [go_sem, Nat.reduceBEq, Nat.reduceEqDiff, Nat.reduceLT, Nat.reduceLeDiff, Nat.reduceAdd, Nat.reduceSub, Nat.reduceMul, reduceCtorEq, Int.reduceToNat, Int.reduceEq, Int.reduceLT, Int.reduceLE, Int.reduceNe, Int.reduceNeg , or_self, or_false, false_or , List.length_map, bookV, Bool.or_true, Bool.true_or, Bool.or_false, Bool.false_or]
    refine Br_split (fun hd => ?_) (fun hd => ?_) <;> simp only [go_sem, Nat.reduceBEq, Nat.reduceEqDiff, Nat.reduceLT, Nat.reduceLeDiff, Nat.reduceAdd, Nat.reduceSub, Nat.reduceMul, reduceCtorEq, Int.reduceToNat, Int.reduceEq, Int.reduceLT, Int.reduceLE, Int.reduceNe, Int.reduceNeg , or_self, or_false, false_or , List.length_map, hd, Bool.or_true, Bool.true_or, Bool.or_false, Bool.false_or]
    · have hlt : 0 < b.recs.length := by simpa using hd
      refine ADrw.treeG (fun k => k == 17 || k == 37) tt_ok (by kernel_rfl) (fun k => if k = 1 ∨ k = 4 then some .L else if k = 12 ∨ k = 14 then some .W else some .S) (.ones [0, 1, 2, 3, 4, 5, 6, 7, 8, 9, 10, 11, 12, 13, 14] .done) (by simp) (fun _ h => nomatch h) rfl rfl (by kernel_rfl) ?_
      have hr := hb.takes _ (List.getElem_mem hlt)
      have zr : sized 2 (b.recs[0].map Sp.d) = true := by simp [sized, Sp.d, dcells]
      have z0 : ((0 : Nat) : Int) = 0 := rfl
      have ix : idx? (b.recs.map recD) 0 = some (recD b.recs[0]) := by
        have := idx_nat (l := b.recs.map recD) 0
        simpa [hlt] using this
      simp only [go_sem, Nat.reduceBEq, Nat.reduceEqDiff, Nat.reduceLT, Nat.reduceLeDiff, Nat.reduceAdd, Nat.reduceSub, Nat.reduceMul, reduceCtorEq, Int.reduceToNat, Int.reduceEq, Int.reduceLT, Int.reduceLE, Int.reduceNe, Int.reduceNeg , or_self, or_false, false_or , List.length_map, Bool.or_true, Bool.true_or, Bool.or_false, Bool.false_or, z0, ix, recD, zr, hr]
      refine ⟨1, hlt, by omega, ?_⟩
      have tk : (b.recs.take 1) = [b.recs[0]] := by rw [List.take_succ_eq_append_getElem hlt]; rfl
      exact ForgetTo.same' (by simp) (by simp [EWe, Env.look, w64 (n := (1 : Int)) (by omega) (by omega)]) (by simp [bookV, tk, recD])
    · have hl0 : b.recs = [] := by
        have : ¬ 0 < b.recs.length := by simpa using hd
        exact List.length_eq_zero_iff.1 (by omega)
      simp only [go_sem, Nat.reduceBEq, Nat.reduceEqDiff, Nat.reduceLT, Nat.reduceLeDiff, Nat.reduceAdd, Nat.reduceSub, Nat.reduceMul, reduceCtorEq, Int.reduceToNat, Int.reduceEq, Int.reduceLT, Int.reduceLE, Int.reduceNe, Int.reduceNeg , or_self, or_false, false_or , List.length_map, Bool.or_true, Bool.true_or, Bool.or_false, Bool.false_or, hl0]
  · refine AWP.run (fun k => k == 17 || k == 37) tt_ok (fun _ h => nomatch h) (by simp) rfl ?_
    simp only [go_sem, Nat.reduceBEq, Nat.reduceEqDiff, Nat.reduceLT, Nat.reduceLeDiff, Nat.reduceAdd, Nat.reduceSub, Nat.reduceMul, reduceCtorEq, Int.reduceToNat, Int.reduceEq, Int.reduceLT, Int.reduceLE, Int.reduceNe, Int.reduceNeg , or_self, or_false, false_or , List.length_map, bookV, Bool.or_true, Bool.true_or, Bool.or_false, Bool.false_or]
    refine Br_split (fun hd => ?_) (fun hd => ?_) <;> simp only [go_sem, Nat.reduceBEq, Nat.reduceEqDiff, Nat.reduceLT, Nat.reduceLeDiff, Nat.reduceAdd, Nat.reduceSub, Nat.reduceMul, reduceCtorEq, Int.reduceToNat, Int.reduceEq, Int.reduceLT, Int.reduceLE, Int.reduceNe, Int.reduceNeg , or_self, or_false, false_or , List.length_map, hd, Bool.or_true, Bool.true_or, Bool.or_false, Bool.false_or]
    · have hlt : i + 1 < b.recs.length := by simp at hd; omega
      refine ADrw.treeG (fun k => k == 17 || k == 37) tt_ok (by kernel_rfl) (fun k => if k = 1 ∨ k = 4 then some .L else if k = 12 ∨ k = 14 then some .W else some .S) (.ones [0, 1, 2, 3, 4, 5, 6, 7, 8, 9, 10, 11, 12, 13, 14] .done) (by simp) (fun _ h => nomatch h) rfl rfl (by kernel_rfl) ?_
      have hr := hb.takes _ (List.getElem_mem hlt)
      have zr : sized 2 (b.recs[i + 1].map Sp.d) = true := by simp [sized, Sp.d, dcells]
      have hle : i + 1 + 1 ≤ 4294967296 := by omega
      have hmin : min (i + 1) b.recs.length = i + 1 := by omega
      simp only [go_sem, Nat.reduceBEq, Nat.reduceEqDiff, Nat.reduceLT, Nat.reduceLeDiff, Nat.reduceAdd, Nat.reduceSub, Nat.reduceMul, reduceCtorEq, Int.reduceToNat, Int.reduceEq, Int.reduceLT, Int.reduceLE, Int.reduceNe, Int.reduceNeg , or_self, or_false, false_or , List.length_map, Bool.or_true, Bool.true_or, Bool.or_false, Bool.false_or, idx_nat, List.getElem?_map, List.getElem?_eq_getElem hlt, recD, zr, hr, List.length_map, List.length_take, hmin, hle]
      refine ⟨i + 1 + 1, hlt, by omega, ?_⟩
      exact ForgetTo.same' (by simp) (by simp [EWe, Env.look, w64 (n := (i : Int) + 1 + 1) (by omega) (by omega)]) (by
        have tk := List.take_succ_eq_append_getElem hlt
        simp only [bookV, tk, List.map_append, List.map_cons, List.map_nil, recD])
    · have hnl : ¬ i + 1 < b.recs.length := by simp at hd; omega
      have htk : b.recs.take (i + 1) = b.recs := List.take_of_length_le (by omega)
      have hle : b.recs.length = i + 1 := by omega
      rw [htk]
      have ht : (b.recs.map recD).take (i + 1) = b.recs.map recD := List.take_of_length_le (by simp; omega)
      simp only [go_sem, Nat.reduceBEq, Nat.reduceEqDiff, Nat.reduceLT, Nat.reduceLeDiff, Nat.reduceAdd, Nat.reduceSub, Nat.reduceMul, reduceCtorEq, Int.reduceToNat, Int.reduceEq, Int.reduceLT, Int.reduceLE, Int.reduceNe, Int.reduceNeg , or_self, or_false, false_or , List.length_map, Bool.or_true, Bool.true_or, Bool.or_false, Bool.false_or, List.length_map, hle, ht]

/-- What signs of two kinds take of two goods. -/
structure T4 where
  a : Int
  b : Int
  c : Int
  e : Int
  deriving Inhabited, DecidableEq

def T4.d (t : T4) : D := .agg [.int .i64 t.a, .int .i64 t.b, .int .i64 t.c, .int .i64 t.e]

/-- What they take of some goods, kind by kind. -/
def T4.col (t : T4) (g : Nat) : List Int := if g = 0 then [t.a, t.c] else [t.b, t.e]

theorem c50 (b : Book) (hb : b.Fits) (g : Nat) (hg : g < b.stock.length) (hg2 : g < 2) (day : Int) (t : T4) (hk : ∀ m ∈ b.made, 0 ≤ m.kind ∧ m.kind < 2) : PC prog 50 [.d b.d, .d t.d, .d (.int .i64 g), .d (.int .i64 day)] (.d (.int .i64 (restR b g day (t.col g)))) := by
  have h1 := hb.stock
  have h2 := hb.ents
  have h3 := hb.made
  refine PC.run (fun _ => false) tt_ok (fn := f50) (rs := [.tmp 8]) rfl rfl rfl rfl rfl rfl rfl ?_
  simp only [go_sem, Nat.reduceBEq, Nat.reduceEqDiff, Nat.reduceLT, Nat.reduceLeDiff, Nat.reduceAdd, Nat.reduceSub, Nat.reduceMul, reduceCtorEq, Int.reduceToNat, Int.reduceEq, Int.reduceLT, Int.reduceLE, Int.reduceNe, Int.reduceNeg , or_self, or_false, false_or , List.length_map, Bool.or_true, Bool.true_or, Bool.false_or, Bool.or_false, Int.cast_ofNat_Int, Book.d, T4.d, idx_nat, List.getElem?_map, List.getElem?_eq_getElem hg]
  refine ALoop.by (S := Nat) (fun i => [(10, .d (.int .i64 i)), (9, .d (.int .i64 ((b.ents.take i).foldl (sumW g day) (b.stock.getD g 0)))), (5, .ptr 1 0), (4, .ptr 0 0), (3, .d (.int .i64 day)), (2, .d (.int .i64 g))]) (fun _ => [.cells (bookV b), .cells [.d (.int .i64 t.a), .d (.int .i64 t.b), .d (.int .i64 t.c), .d (.int .i64 t.e)]]) (fun i => b.ents.length - i) (fun i => i ≤ b.ents.length) 0 (by simp) (fun _ h => nomatch h) (Nat.zero_le _) ?_ ?_
  · exact ForgetTo.same' (by simp) (by simp [EWe, Env.look, hg]) (by simp [bookV])
  rintro i hi hn
  refine AWP.run (fun _ => false) tt_ok (fun _ h => nomatch h) (by simp) rfl ?_
  simp only [go_sem, Nat.reduceBEq, Nat.reduceEqDiff, Nat.reduceLT, Nat.reduceLeDiff, Nat.reduceAdd, Nat.reduceSub, Nat.reduceMul, reduceCtorEq, Int.reduceToNat, Int.reduceEq, Int.reduceLT, Int.reduceLE, Int.reduceNe, Int.reduceNeg , or_self, or_false, false_or , List.length_map, Bool.or_true, Bool.true_or, Bool.false_or, Bool.or_false, Int.cast_ofNat_Int, bookV]
  refine Br_split (fun hd => ?_) (fun hd => ?_) <;> simp only [go_sem, Nat.reduceBEq, Nat.reduceEqDiff, Nat.reduceLT, Nat.reduceLeDiff, Nat.reduceAdd, Nat.reduceSub, Nat.reduceMul, reduceCtorEq, Int.reduceToNat, Int.reduceEq, Int.reduceLT, Int.reduceLE, Int.reduceNe, Int.reduceNeg , or_self, or_false, false_or , List.length_map, Bool.or_true, Bool.true_or, Bool.false_or, Bool.or_false, Int.cast_ofNat_Int, hd]
  · have hlt : i < b.ents.length := by simpa using hd
    have hf := foldl_at (f := sumW g day) hlt (b.stock.getD g 0)
    simp only [go_sem, Nat.reduceBEq, Nat.reduceEqDiff, Nat.reduceLT, Nat.reduceLeDiff, Nat.reduceAdd, Nat.reduceSub, Nat.reduceMul, reduceCtorEq, Int.reduceToNat, Int.reduceEq, Int.reduceLT, Int.reduceLE, Int.reduceNe, Int.reduceNeg , or_self, or_false, false_or , List.length_map, Bool.or_true, Bool.true_or, Bool.false_or, Bool.or_false, Int.cast_ofNat_Int, idx_nat, List.getElem?_map, List.getElem?_eq_getElem hlt, Ent.d]
    refine Br_split (fun e1 => ?_) (fun e1 => ?_) <;> simp only [go_sem, Nat.reduceBEq, Nat.reduceEqDiff, Nat.reduceLT, Nat.reduceLeDiff, Nat.reduceAdd, Nat.reduceSub, Nat.reduceMul, reduceCtorEq, Int.reduceToNat, Int.reduceEq, Int.reduceLT, Int.reduceLE, Int.reduceNe, Int.reduceNeg , or_self, or_false, false_or , List.length_map, Bool.or_true, Bool.true_or, Bool.false_or, Bool.or_false, Int.cast_ofNat_Int, e1]
    · have e1' : b.ents[i].goods = g := by simpa using e1
      refine Br_split (fun e2 => ?_) (fun e2 => ?_) <;> simp only [go_sem, Nat.reduceBEq, Nat.reduceEqDiff, Nat.reduceLT, Nat.reduceLeDiff, Nat.reduceAdd, Nat.reduceSub, Nat.reduceMul, reduceCtorEq, Int.reduceToNat, Int.reduceEq, Int.reduceLT, Int.reduceLE, Int.reduceNe, Int.reduceNeg , or_self, or_false, false_or , List.length_map, Bool.or_true, Bool.true_or, Bool.false_or, Bool.or_false, Int.cast_ofNat_Int, e2]
      · have e2' : b.ents[i].day ≤ day := by simpa using e2
        refine ⟨i + 1, hlt, by omega, ?_⟩
        rw [hf]
        simp [ForgetTo, EW, VW, BBq, BBs, BB, VBs, VB, Env.look, pubV, bookV, sumW, e1', e2', w64 (n := (i : Int) + 1) (by omega) (by omega)]
      · have e2' : ¬ b.ents[i].day ≤ day := by simpa using e2
        refine ⟨i + 1, hlt, by omega, ?_⟩
        rw [hf]
        simp [ForgetTo, EW, VW, BBq, BBs, BB, VBs, VB, Env.look, pubV, bookV, sumW, e1', e2', w64 (n := (i : Int) + 1) (by omega) (by omega)]
    · have e1' : ¬ b.ents[i].goods = g := by simpa using e1
      refine ⟨i + 1, hlt, by omega, ?_⟩
      rw [hf]
      simp [ForgetTo, EW, VW, BBq, BBs, BB, VBs, VB, Env.look, pubV, bookV, sumW, e1', w64 (n := (i : Int) + 1) (by omega) (by omega)]
  have hnl : ¬ i < b.ents.length := by simpa using hd
  rw [show b.ents.take i = b.ents from List.take_of_length_le (by omega), restR]
  generalize b.ents.foldl (sumW g day) (b.stock.getD g 0) = n0
  refine ALoop.by (S := Nat) (fun i => [(12, .d (.int .i64 i)), (9, .d (.int .i64 ((b.made.take i).foldl (lessW day (t.col g)) n0))), (5, .ptr 1 0), (4, .ptr 0 0), (3, .d (.int .i64 day)), (2, .d (.int .i64 g))]) (fun _ => [.cells (bookV b), .cells [.d (.int .i64 t.a), .d (.int .i64 t.b), .d (.int .i64 t.c), .d (.int .i64 t.e)]]) (fun i => b.made.length - i) (fun i => i ≤ b.made.length) 0 (by simp) (fun _ h => nomatch h) (Nat.zero_le _) ?_ ?_
  · exact ForgetTo.same' (by simp) (by simp [EWe, Env.look]) (by simp [bookV])
  clear hi hn hd hnl
  rintro i hi hn
  refine AWP.run (fun _ => false) tt_ok (fun _ h => nomatch h) (by simp) rfl ?_
  simp only [go_sem, Nat.reduceBEq, Nat.reduceEqDiff, Nat.reduceLT, Nat.reduceLeDiff, Nat.reduceAdd, Nat.reduceSub, Nat.reduceMul, reduceCtorEq, Int.reduceToNat, Int.reduceEq, Int.reduceLT, Int.reduceLE, Int.reduceNe, Int.reduceNeg , or_self, or_false, false_or , List.length_map, Bool.or_true, Bool.true_or, Bool.false_or, Bool.or_false, Int.cast_ofNat_Int, bookV]
  refine Br_split (fun hd => ?_) (fun hd => ?_) <;> simp only [go_sem, Nat.reduceBEq, Nat.reduceEqDiff, Nat.reduceLT, Nat.reduceLeDiff, Nat.reduceAdd, Nat.reduceSub, Nat.reduceMul, reduceCtorEq, Int.reduceToNat, Int.reduceEq, Int.reduceLT, Int.reduceLE, Int.reduceNe, Int.reduceNeg , or_self, or_false, false_or , List.length_map, Bool.or_true, Bool.true_or, Bool.false_or, Bool.or_false, Int.cast_ofNat_Int, hd]
  · have hlt : i < b.made.length := by simpa using hd
    have hf := foldl_at (f := lessW day (t.col g)) hlt n0
    obtain ⟨k1, k2⟩ := hk _ (List.getElem_mem hlt)
    simp only [go_sem, Nat.reduceBEq, Nat.reduceEqDiff, Nat.reduceLT, Nat.reduceLeDiff, Nat.reduceAdd, Nat.reduceSub, Nat.reduceMul, reduceCtorEq, Int.reduceToNat, Int.reduceEq, Int.reduceLT, Int.reduceLE, Int.reduceNe, Int.reduceNeg , or_self, or_false, false_or , List.length_map, Bool.or_true, Bool.true_or, Bool.false_or, Bool.or_false, Int.cast_ofNat_Int, idx_nat, List.getElem?_map, List.getElem?_eq_getElem hlt, Mad.d]
    refine Br_split (fun e1 => ?_) (fun e1 => ?_) <;> simp only [go_sem, Nat.reduceBEq, Nat.reduceEqDiff, Nat.reduceLT, Nat.reduceLeDiff, Nat.reduceAdd, Nat.reduceSub, Nat.reduceMul, reduceCtorEq, Int.reduceToNat, Int.reduceEq, Int.reduceLT, Int.reduceLE, Int.reduceNe, Int.reduceNeg , or_self, or_false, false_or , List.length_map, Bool.or_true, Bool.true_or, Bool.false_or, Bool.or_false, Int.cast_ofNat_Int, e1]
    · have e1' : b.made[i].day ≤ day := by simpa using e1
      obtain ⟨k, hke⟩ : ∃ k : Nat, b.made[i].kind = k := ⟨b.made[i].kind.toNat, by omega⟩
      have hk01 : k = 0 ∨ k = 1 := by omega
      have hg01 : g = 0 ∨ g = 1 := by omega
      have z0 : ((0 : Nat) : Int) = 0 := rfl
      have z1 : ((1 : Nat) : Int) = 1 := rfl
      refine ADrw.treeG (fun _ => false) tt_ok (by kernel_rfl) (fun k => if k = 2 ∨ k = 4 ∨ k = 8 then some .L else some .S) (.ones [0, 1, 2, 3, 4, 5, 6, 7, 8, 9, 10, 11] .done) (by simp) (fun _ h => nomatch h) rfl rfl (by kernel_rfl) ?_
      rcases hk01 with rfl | rfl <;> rcases hg01 with rfl | rfl <;> simp only [go_sem, Nat.reduceBEq, Nat.reduceEqDiff, Nat.reduceLT, Nat.reduceLeDiff, Nat.reduceAdd, Nat.reduceSub, Nat.reduceMul, reduceCtorEq, Int.reduceToNat, Int.reduceEq, Int.reduceLT, Int.reduceLE, Int.reduceNe, Int.reduceNeg , or_self, or_false, false_or , List.length_map, Bool.or_true, Bool.true_or, Bool.false_or, Bool.or_false, Int.cast_ofNat_Int, hke, z0, z1]
      all_goals
        refine ⟨i + 1, hlt, by omega, ?_⟩
        rw [hf]
        simp [ForgetTo, EW, VW, BBq, BBs, BB, VBs, VB, Env.look, pubV, bookV, lessW, T4.col, e1', hke, w64 (n := (i : Int) + 1) (by omega) (by omega)]
    · have e1' : ¬ b.made[i].day ≤ day := by simpa using e1
      refine ⟨i + 1, hlt, by omega, ?_⟩
      rw [hf]
      simp [ForgetTo, EW, VW, BBq, BBs, BB, VBs, VB, Env.look, pubV, bookV, lessW, e1', w64 (n := (i : Int) + 1) (by omega) (by omega)]
  have hnl : ¬ i < b.made.length := by simpa using hd
  rw [show b.made.take i = b.made from List.take_of_length_le (by omega)]

/-- A book of two goods and two kinds. -/
def twoB (st : List Int) (es : List Ent) (p q r s : Sp) (ms : List Mad) : Book := ⟨st, es, [[p, q], [r, s]], ms⟩

def endS (most : Bool) (s : Sp) : Int := if most = true then s.hi else s.lo
def endsT (most : Bool) (p q r s : Sp) : T4 := ⟨endS most p, endS most q, endS most r, endS most s⟩

def outN (l : List Int) (n : Nat) : List V := [.d (.int .i64 (if 0 < n then l.getD 0 0 else 0)), .d (.int .i64 (if 1 < n then l.getD 1 0 else 0)), .d (.int .i64 (if 2 < n then l.getD 2 0 else 0)), .d (.int .i64 (if 3 < n then l.getD 3 0 else 0))]

theorem c52 (most : Bool) (st : List Int) (es : List Ent) (p q r s : Sp) (ms : List Mad) : PC prog 52 [.d (twoB st es p q r s ms).d, .d (.bool most)] (.d (endsT most p q r s).d) := by
  refine PC.run (fun _ => false) tt_ok (fn := f52) (rs := [.cell 4 91]) rfl rfl rfl rfl rfl rfl rfl ?_
  simp only [go_sem, Nat.reduceBEq, Nat.reduceEqDiff, Nat.reduceLT, Nat.reduceLeDiff, Nat.reduceAdd, Nat.reduceSub, Nat.reduceMul, reduceCtorEq, Int.reduceToNat, Int.reduceEq, Int.reduceLT, Int.reduceLE, Int.reduceNe, Int.reduceNeg , or_self, or_false, false_or , List.length_map, Bool.or_true, Bool.true_or, Bool.false_or, Bool.or_false, Int.cast_ofNat_Int, Book.d]
  have z0 : ((0 : Nat) : Int) = 0 := rfl
  have z1 : ((1 : Nat) : Int) = 1 := rfl
  have z2 : ((2 : Nat) : Int) = 2 := rfl
  have w1 : wr 1 = 1 := w64 (n := 1) (by omega) (by omega)
  have w2 : wr 2 = 2 := w64 (n := 2) (by omega) (by omega)
  refine ALoop.by (S := Nat) (fun k => [(6, .d (.int .i64 k)), (5, .ptr 2 0), (4, .ptr 1 0), (2, .ptr 0 0), (1, .d (.bool most))])
    (fun k => [.cells (bookV (twoB st es p q r s ms)), .cells [.d (.int .i64 0), .d (.int .i64 0), .d (.int .i64 0), .d (.int .i64 0)], .cells (outN [endS most p, endS most q, endS most r, endS most s] (2 * k))]) (fun k => 2 - k) (fun k => k ≤ 2) 0 (by simp) (fun _ h => nomatch h) (Nat.zero_le _) ?_ ?_
  · exact ForgetTo.same' (by simp) (by simp [EWe, Env.look]) (by simp [bookV, twoB, outN])
  rintro k hk hn
  have hk3 : k = 0 ∨ k = 1 ∨ k = 2 := by omega
  rcases hk3 with rfl | rfl | rfl
  · refine AWP.run (fun _ => false) tt_ok (fun _ h => nomatch h) (by simp) rfl ?_
    simp only [go_sem, Nat.reduceBEq, Nat.reduceEqDiff, Nat.reduceLT, Nat.reduceLeDiff, Nat.reduceAdd, Nat.reduceSub, Nat.reduceMul, reduceCtorEq, Int.reduceToNat, Int.reduceEq, Int.reduceLT, Int.reduceLE, Int.reduceNe, Int.reduceNeg , or_self, or_false, false_or , List.length_map, Bool.or_true, Bool.true_or, Bool.false_or, Bool.or_false, Int.cast_ofNat_Int, bookV, twoB, outN, z0, z1, z2]
    refine ALoop.by (S := Nat) (fun g => [(7, .d (.int .i64 g)), (6, .d (.int .i64 0)), (5, .ptr 2 0), (4, .ptr 1 0), (2, .ptr 0 0), (1, .d (.bool most))])
      (fun g => [.cells (bookV (twoB st es p q r s ms)), .cells [.d (.int .i64 0), .d (.int .i64 0), .d (.int .i64 0), .d (.int .i64 0)], .cells (outN [endS most p, endS most q, endS most r, endS most s] (2 * 0 + g))]) (fun g => 2 - g) (fun g => g ≤ 2) 0 (by simp) (fun _ h => nomatch h) (Nat.zero_le _) ?_ ?_
    · exact ForgetTo.same' (by simp) (by simp [EWe, Env.look]) (by simp [bookV, twoB, outN])
    rintro g hg hn
    have hg3 : g = 0 ∨ g = 1 ∨ g = 2 := by omega
    rcases hg3 with rfl | rfl | rfl
    iterate 2
      · refine AWP.run (fun _ => false) tt_ok (fun _ h => nomatch h) (by simp) rfl ?_
        simp only [go_sem, Nat.reduceBEq, Nat.reduceEqDiff, Nat.reduceLT, Nat.reduceLeDiff, Nat.reduceAdd, Nat.reduceSub, Nat.reduceMul, reduceCtorEq, Int.reduceToNat, Int.reduceEq, Int.reduceLT, Int.reduceLE, Int.reduceNe, Int.reduceNeg , or_self, or_false, false_or , List.length_map, Bool.or_true, Bool.true_or, Bool.false_or, Bool.or_false, Int.cast_ofNat_Int, bookV, twoB, outN, z0, z1, z2]
        refine ADrw.treeG (fun _ => false) tt_ok (by kernel_rfl) (fun k => if k = 3 ∨ k = 7 ∨ k = 11 then some .L else if k = 14 then some .W else some .S) (.ones [0, 1, 2, 3, 4, 5, 6, 7, 8, 9, 10, 11, 12, 13, 14] .done) (by simp) (fun _ h => nomatch h) rfl rfl (by kernel_rfl) ?_
        simp only [go_sem, Nat.reduceBEq, Nat.reduceEqDiff, Nat.reduceLT, Nat.reduceLeDiff, Nat.reduceAdd, Nat.reduceSub, Nat.reduceMul, reduceCtorEq, Int.reduceToNat, Int.reduceEq, Int.reduceLT, Int.reduceLE, Int.reduceNe, Int.reduceNeg , or_self, or_false, false_or , List.length_map, Bool.or_true, Bool.true_or, Bool.false_or, Bool.or_false, Int.cast_ofNat_Int, recD, Sp.d]
        cases most <;> simp only [go_sem, Nat.reduceBEq, Nat.reduceEqDiff, Nat.reduceLT, Nat.reduceLeDiff, Nat.reduceAdd, Nat.reduceSub, Nat.reduceMul, reduceCtorEq, Int.reduceToNat, Int.reduceEq, Int.reduceLT, Int.reduceLE, Int.reduceNe, Int.reduceNeg , or_self, or_false, false_or , List.length_map, Bool.or_true, Bool.true_or, Bool.false_or, Bool.or_false, Int.cast_ofNat_Int]
        all_goals
          try refine ADrw.treeG (fun _ => false) tt_ok (by kernel_rfl) (fun k => if k = 3 ∨ k = 7 ∨ k = 11 then some .L else if k = 14 then some .W else some .S) (.ones [0, 1, 2, 3, 4, 5, 6, 7, 8, 9, 10, 11, 12, 13, 14] .done) (by simp) (fun _ h => nomatch h) rfl rfl (by kernel_rfl) ?_
          try simp only [go_sem, Nat.reduceBEq, Nat.reduceEqDiff, Nat.reduceLT, Nat.reduceLeDiff, Nat.reduceAdd, Nat.reduceSub, Nat.reduceMul, reduceCtorEq, Int.reduceToNat, Int.reduceEq, Int.reduceLT, Int.reduceLE, Int.reduceNe, Int.reduceNeg , or_self, or_false, false_or , List.length_map, Bool.or_true, Bool.true_or, Bool.false_or, Bool.or_false, Int.cast_ofNat_Int, recD, Sp.d]
          first
            | (refine ⟨1, by omega, by omega, ?_⟩; exact ForgetTo.same' (by simp) (by simp [EWe, Env.look, w1, w2]) (by simp [bookV, twoB, outN, endS, recD, Sp.d]))
            | (refine ⟨2, by omega, by omega, ?_⟩; exact ForgetTo.same' (by simp) (by simp [EWe, Env.look, w1, w2]) (by simp [bookV, twoB, outN, endS, recD, Sp.d]))
    · refine AWP.run (fun _ => false) tt_ok (fun _ h => nomatch h) (by simp) rfl ?_
      simp only [go_sem, Nat.reduceBEq, Nat.reduceEqDiff, Nat.reduceLT, Nat.reduceLeDiff, Nat.reduceAdd, Nat.reduceSub, Nat.reduceMul, reduceCtorEq, Int.reduceToNat, Int.reduceEq, Int.reduceLT, Int.reduceLE, Int.reduceNe, Int.reduceNeg , or_self, or_false, false_or , List.length_map, Bool.or_true, Bool.true_or, Bool.false_or, Bool.or_false, Int.cast_ofNat_Int, bookV, twoB, outN, z0, z1, z2]
      refine ⟨0 + 1, by omega, by omega, ?_⟩
      exact ForgetTo.same' (by simp) (by simp [EWe, Env.look, w1, w2]) (by simp [bookV, twoB, outN])

  · refine AWP.run (fun _ => false) tt_ok (fun _ h => nomatch h) (by simp) rfl ?_
    simp only [go_sem, Nat.reduceBEq, Nat.reduceEqDiff, Nat.reduceLT, Nat.reduceLeDiff, Nat.reduceAdd, Nat.reduceSub, Nat.reduceMul, reduceCtorEq, Int.reduceToNat, Int.reduceEq, Int.reduceLT, Int.reduceLE, Int.reduceNe, Int.reduceNeg , or_self, or_false, false_or , List.length_map, Bool.or_true, Bool.true_or, Bool.false_or, Bool.or_false, Int.cast_ofNat_Int, bookV, twoB, outN, z0, z1, z2]
    refine ALoop.by (S := Nat) (fun g => [(7, .d (.int .i64 g)), (6, .d (.int .i64 1)), (5, .ptr 2 0), (4, .ptr 1 0), (2, .ptr 0 0), (1, .d (.bool most))])
      (fun g => [.cells (bookV (twoB st es p q r s ms)), .cells [.d (.int .i64 0), .d (.int .i64 0), .d (.int .i64 0), .d (.int .i64 0)], .cells (outN [endS most p, endS most q, endS most r, endS most s] (2 * 1 + g))]) (fun g => 2 - g) (fun g => g ≤ 2) 0 (by simp) (fun _ h => nomatch h) (Nat.zero_le _) ?_ ?_
    · exact ForgetTo.same' (by simp) (by simp [EWe, Env.look]) (by simp [bookV, twoB, outN])
    rintro g hg hn
    have hg3 : g = 0 ∨ g = 1 ∨ g = 2 := by omega
    rcases hg3 with rfl | rfl | rfl
    iterate 2
      · refine AWP.run (fun _ => false) tt_ok (fun _ h => nomatch h) (by simp) rfl ?_
        simp only [go_sem, Nat.reduceBEq, Nat.reduceEqDiff, Nat.reduceLT, Nat.reduceLeDiff, Nat.reduceAdd, Nat.reduceSub, Nat.reduceMul, reduceCtorEq, Int.reduceToNat, Int.reduceEq, Int.reduceLT, Int.reduceLE, Int.reduceNe, Int.reduceNeg , or_self, or_false, false_or , List.length_map, Bool.or_true, Bool.true_or, Bool.false_or, Bool.or_false, Int.cast_ofNat_Int, bookV, twoB, outN, z0, z1, z2]
        refine ADrw.treeG (fun _ => false) tt_ok (by kernel_rfl) (fun k => if k = 3 ∨ k = 7 ∨ k = 11 then some .L else if k = 14 then some .W else some .S) (.ones [0, 1, 2, 3, 4, 5, 6, 7, 8, 9, 10, 11, 12, 13, 14] .done) (by simp) (fun _ h => nomatch h) rfl rfl (by kernel_rfl) ?_
        simp only [go_sem, Nat.reduceBEq, Nat.reduceEqDiff, Nat.reduceLT, Nat.reduceLeDiff, Nat.reduceAdd, Nat.reduceSub, Nat.reduceMul, reduceCtorEq, Int.reduceToNat, Int.reduceEq, Int.reduceLT, Int.reduceLE, Int.reduceNe, Int.reduceNeg , or_self, or_false, false_or , List.length_map, Bool.or_true, Bool.true_or, Bool.false_or, Bool.or_false, Int.cast_ofNat_Int, recD, Sp.d]
        cases most <;> simp only [go_sem, Nat.reduceBEq, Nat.reduceEqDiff, Nat.reduceLT, Nat.reduceLeDiff, Nat.reduceAdd, Nat.reduceSub, Nat.reduceMul, reduceCtorEq, Int.reduceToNat, Int.reduceEq, Int.reduceLT, Int.reduceLE, Int.reduceNe, Int.reduceNeg , or_self, or_false, false_or , List.length_map, Bool.or_true, Bool.true_or, Bool.false_or, Bool.or_false, Int.cast_ofNat_Int]
        all_goals
          try refine ADrw.treeG (fun _ => false) tt_ok (by kernel_rfl) (fun k => if k = 3 ∨ k = 7 ∨ k = 11 then some .L else if k = 14 then some .W else some .S) (.ones [0, 1, 2, 3, 4, 5, 6, 7, 8, 9, 10, 11, 12, 13, 14] .done) (by simp) (fun _ h => nomatch h) rfl rfl (by kernel_rfl) ?_
          try simp only [go_sem, Nat.reduceBEq, Nat.reduceEqDiff, Nat.reduceLT, Nat.reduceLeDiff, Nat.reduceAdd, Nat.reduceSub, Nat.reduceMul, reduceCtorEq, Int.reduceToNat, Int.reduceEq, Int.reduceLT, Int.reduceLE, Int.reduceNe, Int.reduceNeg , or_self, or_false, false_or , List.length_map, Bool.or_true, Bool.true_or, Bool.false_or, Bool.or_false, Int.cast_ofNat_Int, recD, Sp.d]
          first
            | (refine ⟨1, by omega, by omega, ?_⟩; exact ForgetTo.same' (by simp) (by simp [EWe, Env.look, w1, w2]) (by simp [bookV, twoB, outN, endS, recD, Sp.d]))
            | (refine ⟨2, by omega, by omega, ?_⟩; exact ForgetTo.same' (by simp) (by simp [EWe, Env.look, w1, w2]) (by simp [bookV, twoB, outN, endS, recD, Sp.d]))
    · refine AWP.run (fun _ => false) tt_ok (fun _ h => nomatch h) (by simp) rfl ?_
      simp only [go_sem, Nat.reduceBEq, Nat.reduceEqDiff, Nat.reduceLT, Nat.reduceLeDiff, Nat.reduceAdd, Nat.reduceSub, Nat.reduceMul, reduceCtorEq, Int.reduceToNat, Int.reduceEq, Int.reduceLT, Int.reduceLE, Int.reduceNe, Int.reduceNeg , or_self, or_false, false_or , List.length_map, Bool.or_true, Bool.true_or, Bool.false_or, Bool.or_false, Int.cast_ofNat_Int, bookV, twoB, outN, z0, z1, z2]
      refine ⟨1 + 1, by omega, by omega, ?_⟩
      exact ForgetTo.same' (by simp) (by simp [EWe, Env.look, w1, w2]) (by simp [bookV, twoB, outN])
  · refine AWP.run (fun _ => false) tt_ok (fun _ h => nomatch h) (by simp) rfl ?_
    simp only [go_sem, Nat.reduceBEq, Nat.reduceEqDiff, Nat.reduceLT, Nat.reduceLeDiff, Nat.reduceAdd, Nat.reduceSub, Nat.reduceMul, reduceCtorEq, Int.reduceToNat, Int.reduceEq, Int.reduceLT, Int.reduceLE, Int.reduceNe, Int.reduceNeg , or_self, or_false, false_or , List.length_map, Bool.or_true, Bool.true_or, Bool.false_or, Bool.or_false, Int.cast_ofNat_Int, bookV, twoB, outN, z0, z1, z2, endsT, T4.d]

theorem c53 (n v : Int) (hv : Byte v) (hn : -1000000 ≤ n ∧ n ≤ 1000000) : PC prog 53 [.d (.int .i64 n), .d (.int .u8 v)] (.d (Sp.mk (max 0 (n - v % 16)) (max 0 (n + v / 16))).d) := by
  simp only [Byte] at hv
  have a1 : wr (v.tmod 16) = v % 16 := by rw [Int.tmod_eq_emod_of_nonneg (by omega)]; exact w64 (by omega) (by omega)
  have a2 : IntKind.u8.wrap v = v := by simp [IntKind.wrap, IntKind.bits, IntKind.signed]; omega
  have w : ∀ n : Int, -2000000 ≤ n → n ≤ 2000000 → wr n = n := fun n h0 h1 => w64 (by omega) (by omega)
  refine PC.run (fun _ => false) tt_ok (fn := f53) (rs := [.cell 4 40]) rfl rfl rfl rfl rfl rfl rfl ?_
  have z16 : (16 : Int) ≠ 0 := by omega
  have b1 : v.tmod 16 = v % 16 := Int.tmod_eq_emod_of_nonneg (by omega)
  have b2 : v.tdiv 16 = v / 16 := Int.tdiv_eq_ediv_of_nonneg (by omega)
  simp only [go_sem, Nat.reduceBEq, Nat.reduceEqDiff, Nat.reduceLT, Nat.reduceLeDiff, Nat.reduceAdd, Nat.reduceSub, Nat.reduceMul, reduceCtorEq, Int.reduceToNat, Int.reduceEq, Int.reduceLT, Int.reduceLE, Int.reduceNe, Int.reduceNeg , or_self, or_false, false_or , List.length_map, Bool.or_true, Bool.true_or, Bool.false_or, Bool.or_false, Int.cast_ofNat_Int, remO_ne z16, quoO_ne z16, w v (by omega) (by omega), b1, b2, w (v / 16) (by omega) (by omega), w (n - v % 16) (by omega) (by omega), w (n + v / 16) (by omega) (by omega)]
  refine (c24 _ _).call rfl rfl rfl ?_
  simp only [go_sem, Nat.reduceBEq, Nat.reduceEqDiff, Nat.reduceLT, Nat.reduceLeDiff, Nat.reduceAdd, Nat.reduceSub, Nat.reduceMul, reduceCtorEq, Int.reduceToNat, Int.reduceEq, Int.reduceLT, Int.reduceLE, Int.reduceNe, Int.reduceNeg , or_self, or_false, false_or , List.length_map, Bool.or_true, Bool.true_or, Bool.false_or, Bool.or_false, Int.cast_ofNat_Int, Sp.d]

theorem c54 (a b : Sp) : PC prog 54 [.d a.d, .d b.d] (.d (.bool (decide (a.lo ≥ b.lo) && decide (a.hi ≤ b.hi) && decide (a.lo ≤ a.hi)))) := by
  refine PC.run (fun _ => false) tt_ok (fn := f54) (rs := [.tmp 4]) rfl rfl rfl rfl rfl rfl rfl ?_
  simp only [go_sem, Nat.reduceBEq, Nat.reduceEqDiff, Nat.reduceLT, Nat.reduceLeDiff, Nat.reduceAdd, Nat.reduceSub, Nat.reduceMul, reduceCtorEq, Int.reduceToNat, Int.reduceEq, Int.reduceLT, Int.reduceLE, Int.reduceNe, Int.reduceNeg , or_self, or_false, false_or , List.length_map, Bool.or_true, Bool.true_or, Bool.false_or, Bool.or_false, Int.cast_ofNat_Int, Sp.d]
  refine Br_split (fun h1 => ?_) (fun h1 => ?_) <;> simp only [go_sem, Nat.reduceBEq, Nat.reduceEqDiff, Nat.reduceLT, Nat.reduceLeDiff, Nat.reduceAdd, Nat.reduceSub, Nat.reduceMul, reduceCtorEq, Int.reduceToNat, Int.reduceEq, Int.reduceLT, Int.reduceLE, Int.reduceNe, Int.reduceNeg , or_self, or_false, false_or , List.length_map, Bool.or_true, Bool.true_or, Bool.false_or, Bool.or_false, Int.cast_ofNat_Int, h1]
  refine Br_split (fun h2 => ?_) (fun h2 => ?_) <;> simp only [go_sem, Nat.reduceBEq, Nat.reduceEqDiff, Nat.reduceLT, Nat.reduceLeDiff, Nat.reduceAdd, Nat.reduceSub, Nat.reduceMul, reduceCtorEq, Int.reduceToNat, Int.reduceEq, Int.reduceLT, Int.reduceLE, Int.reduceNe, Int.reduceNeg , or_self, or_false, false_or , List.length_map, Bool.or_true, Bool.true_or, Bool.false_or, Bool.or_false, Int.cast_ofNat_Int, h1, h2]
end Go.Aw
end

section
set_option maxRecDepth 100000
namespace Go.Aw
open Go Go.Proofs Go.Proofs.Try

/-- Three bytes. -/
structure B3 where
  a : Int
  b : Int
  c : Int
  deriving Inhabited, DecidableEq

def B3.d (s : B3) : D := .agg [.int .u8 s.a, .int .u8 s.b, .int .u8 s.c]

structure B3.Ok (s : B3) : Prop where
  a : Byte s.a
  b : Byte s.b
  c : Byte s.c

/-- A book in bytes. -/
structure Store where
  s0 : Int
  s1 : Int
  ents : List B3
  n0 : Int
  w0 : Int
  n1 : Int
  w1 : Int
  n2 : Int
  w2 : Int
  n3 : Int
  w3 : Int
  mads : List B3

def Store.d (x : Store) : D := .agg [.int .u8 x.s0, .int .u8 x.s1, .sl (x.ents.map B3.d), .int .u8 x.n0, .int .u8 x.w0, .int .u8 x.n1, .int .u8 x.w1, .int .u8 x.n2, .int .u8 x.w2, .int .u8 x.n3, .int .u8 x.w3, .sl (x.mads.map B3.d)]

structure Store.Ok (x : Store) : Prop where
  s0 : Byte x.s0
  s1 : Byte x.s1
  n0 : Byte x.n0
  w0 : Byte x.w0
  n1 : Byte x.n1
  w1 : Byte x.w1
  n2 : Byte x.n2
  w2 : Byte x.w2
  n3 : Byte x.n3
  w3 : Byte x.w3
  ents : ∀ s ∈ x.ents, s.Ok
  mads : ∀ s ∈ x.mads, s.Ok

def spS (n w : Int) : Sp := ⟨max 0 (n % 12 - w % 4), n % 12 + w / 4 % 4⟩
def entS (v : B3) : Ent := ⟨v.a, v.b % 2, if v.b / 2 % 2 = 1 then -(3 + v.c) else 3 + v.c⟩
def madS (v : B3) : Mad := ⟨v.a, v.b % 2, 1 + v.c % 30⟩
def Store.takes (x : Store) : T4 := ⟨x.n0 % 12, x.n1 % 12, x.n2 % 12, x.n3 % 12⟩
def Store.es (x : Store) : List Ent := (x.ents.take 12).map entS
def Store.ms (x : Store) : List Mad := (x.mads.take 8).map madS
def Store.book (x : Store) : Book := twoB [8 * x.s0, 8 * x.s1] x.es (spS x.n0 x.w0) (spS x.n1 x.w1) (spS x.n2 x.w2) (spS x.n3 x.w3) x.ms

@[go_sem] def Store.vs (x : Store) : List V := [.d (.int .u8 x.s0), .d (.int .u8 x.s1), .d (.sl (x.ents.map B3.d)), .d (.int .u8 x.n0), .d (.int .u8 x.w0), .d (.int .u8 x.n1), .d (.int .u8 x.w1), .d (.int .u8 x.n2), .d (.int .u8 x.w2), .d (.int .u8 x.n3), .d (.int .u8 x.w3), .d (.sl (x.mads.map B3.d))]

abbrev Q48 (x : Store) : Ex → Env → Heap → Prop := FnPost Tt [.cell 2 27, .cell 3 91] 0 fun r H' => H' = [] ∧ r = .tup [.d x.book.d, .d x.takes.d]

def bkV (x : Store) (k i j : Nat) : List V := [.slx (some false) [.int .i64 (8 * x.s0), .int .i64 (8 * x.s1)], .ref 6 i 0 i, .ref 5 k 0 k, .ref 7 j 0 j]
def recsT (x : Store) (k : Nat) : List (List Sp) := ([[spS x.n0 x.w0, spS x.n1 x.w1], [spS x.n2 x.w2, spS x.n3 x.w3]]).take k
def hpS (x : Store) (n k i j : Nat) : Heap := [.cells x.vs, .cells [.d (.sl []), .d (.sl []), .d (.sl []), .d (.sl [])], .cells [.d (.int .i64 0), .d (.int .i64 0), .d (.int .i64 0), .d (.int .i64 0)], .cells (bkV x k i j),
  .cells (outN [x.n0 % 12, x.n1 % 12, x.n2 % 12, x.n3 % 12] n), .arr 1 (k == 0) ((recsT x k).map recD), .arr 3 (i == 0) ((x.es.take i).map Ent.d), .arr 3 (j == 0) ((x.ms.take j).map Mad.d)]

theorem byte_conv {n : Int} (h : Byte n) : wr n = n := by simp only [Byte] at h; exact w64 (by omega) (by omega)

theorem byte_wrap {n : Int} (h0 : 0 ≤ n) (h1 : n < 256) : IntKind.u8.wrap n = n := by
  simp [IntKind.wrap, IntKind.bits, IntKind.signed]; omega

/-- What comes of two bytes. -/
theorem sp_conv {n w : Int} (h : Byte n) (hw : Byte w) : n.tmod 12 = n % 12 ∧ w.tmod 4 = w % 4 ∧ wr (n % 12 - w % 4) = n % 12 - w % 4 ∧ wr (w.tdiv 4) = w / 4 ∧ (w / 4).tmod 4 = w / 4 % 4 ∧ wr (n % 12 + w / 4 % 4) = n % 12 + w / 4 % 4 := by
  simp only [Byte] at h hw
  refine ⟨Int.tmod_eq_emod_of_nonneg (by omega), Int.tmod_eq_emod_of_nonneg (by omega), w64 (by omega) (by omega), ?_, Int.tmod_eq_emod_of_nonneg (by omega), w64 (by omega) (by omega)⟩
  rw [Int.tdiv_eq_ediv_of_nonneg (by omega)]; exact w64 (by omega) (by omega)

set_option maxHeartbeats 4000000 in
theorem c48 (x : Store) (hx : x.Ok) : PC prog 48 [.d x.d] (.tup [.d x.book.d, .d x.takes.d]) := by
  have hs0 := hx.s0
  have hs1 := hx.s1
  have e0 := byte_conv hs0
  have e1 := byte_conv hs1
  have e2 : wr (8 * x.s0) = 8 * x.s0 := by simp only [Byte] at hs0; exact w64 (by omega) (by omega)
  have e3 : wr (8 * x.s1) = 8 * x.s1 := by simp only [Byte] at hs1; exact w64 (by omega) (by omega)
  refine PC.of_body tt_ok (fn := f48) (c := bodyOf f48) (rs := [.cell 2 27, .cell 3 91]) rfl rfl rfl rfl rfl rfl ?_
  refine AWP.stepN 2 [(5, .ptr 4 0), (4, .ptr 3 0), (3, .ptr 2 0), (2, .ptr 1 0), (1, .ptr 0 0)] [.cells x.vs, .cells [.d (.sl []), .d (.sl []), .d (.sl []), .d (.sl [])], .cells [.d (.int .i64 0), .d (.int .i64 0), .d (.int .i64 0), .d (.int .i64 0)],
    .cells [.slx (some false) [.int .i64 (8 * x.s0), .int .i64 (8 * x.s1)], .slx (some true) [], .slx (some true) [], .slx (some true) []], .cells (outN [x.n0 % 12, x.n1 % 12, x.n2 % 12, x.n3 % 12] 0)] (fun k => k == 27) tt_ok (fun _ h => nomatch h) (Nat.zero_le _) rfl ?_ ?_
  · simp only [go_sem, Nat.reduceBEq, Nat.reduceEqDiff, Nat.reduceLT, Nat.reduceLeDiff, Nat.reduceAdd, Nat.reduceSub, Nat.reduceMul, reduceCtorEq, Int.reduceToNat, Int.reduceEq, Int.reduceLT, Int.reduceLE, Int.reduceNe, Int.reduceNeg , or_self, or_false, false_or , List.length_map, Bool.or_true, Bool.true_or, Bool.false_or, Bool.or_false, Int.cast_ofNat_Int, Store.d, e0, e1, e2, e3]
    exact ForgetTo.same' (by simp) (by simp [EWe, Env.look, wrap_i1, wrap_i2]) (by simp [outN])
  refine AWP.nilrow 3 2 1 rfl rfl (Nat.zero_le _) ?_
  refine AWP.nilrow 3 1 3 rfl rfl (Nat.zero_le _) ?_
  refine AWP.nilrow 3 3 3 rfl rfl (Nat.zero_le _) ?_
  show AWP prog 162 0 none (restC 2 (bodyOf f48)) [(5, .ptr 4 0), (4, .ptr 3 0), (3, .ptr 2 0), (2, .ptr 1 0), (1, .ptr 0 0)] (hpS x 0 0 0 0) (Q48 x)
  refine AWP.runS (fun k => k == 33 || k == 75) tt_ok (fun _ h => nomatch h) (Nat.zero_le _) rfl ?_
  simp only [go_sem, Nat.reduceBEq, Nat.reduceEqDiff, Nat.reduceLT, Nat.reduceLeDiff, Nat.reduceAdd, Nat.reduceSub, Nat.reduceMul, reduceCtorEq, Int.reduceToNat, Int.reduceEq, Int.reduceLT, Int.reduceLE, Int.reduceNe, Int.reduceNeg , or_self, or_false, false_or , List.length_map, Bool.or_true, Bool.true_or, Bool.false_or, Bool.or_false, Int.cast_ofNat_Int, hpS, bkV]
  have z0 : ((0 : Nat) : Int) = 0 := rfl
  have z1 : ((1 : Nat) : Int) = 1 := rfl
  have z2 : ((2 : Nat) : Int) = 2 := rfl
  refine ALoop.by (S := Nat) (fun k => [(6, .d (.int .i64 k)), (5, .ptr 4 0), (4, .ptr 3 0), (3, .ptr 2 0), (2, .ptr 1 0), (1, .ptr 0 0)])
    (fun k => hpS x (2 * k) k 0 0) (fun k => 2 - k) (fun k => k ≤ 2) 0 (Nat.zero_le _) (fun _ h => nomatch h) (Nat.zero_le _) ?_ ?_
  · exact ForgetTo.same' (by simp [hpS]) (by simp [EWe, Env.look, wrap_i1, wrap_i2]) (by simp [Store.vs, hpS, bkV, recsT])
  rintro k hk hn
  have hk3 : k = 0 ∨ k = 1 ∨ k = 2 := by omega
  rcases hk3 with rfl | rfl | rfl
  · have hA := hx.n0
    have vA := hx.w0
    have hB := hx.n1
    have vB := hx.w1
    obtain ⟨p1, p2, p3, p4, p5, p6⟩ := sp_conv hA vA
    obtain ⟨q1, q2, q3, q4, q5, q6⟩ := sp_conv hB vB
    have z12 : (12 : Int) ≠ 0 := by omega
    have z4 : (4 : Int) ≠ 0 := by omega
    refine AWP.runS (fun k => k == 33 || k == 75) tt_ok (fun _ h => nomatch h) (Nat.zero_le _) rfl ?_
    simp only [go_sem, Nat.reduceBEq, Nat.reduceEqDiff, Nat.reduceLT, Nat.reduceLeDiff, Nat.reduceAdd, Nat.reduceSub, Nat.reduceMul, reduceCtorEq, Int.reduceToNat, Int.reduceEq, Int.reduceLT, Int.reduceLE, Int.reduceNe, Int.reduceNeg , or_self, or_false, false_or , List.length_map, Bool.or_true, Bool.true_or, Bool.false_or, Bool.or_false, Int.cast_ofNat_Int, hpS, bkV, outN, recsT]
    refine ALoop.by (S := Nat) (fun g => [(8, .d (.int .i64 g)), (7, .ptr 8 0), (6, .d (.int .i64 0)), (5, .ptr 4 0), (4, .ptr 3 0), (3, .ptr 2 0), (2, .ptr 1 0), (1, .ptr 0 0)])
      (fun g => match g with
        | 0 => hpS x (2 * 0) 0 0 0 ++ [.cells [.slx (some true) []]]
        | g + 1 => hpS x (2 * 0 + (g + 1)) 0 0 0 ++ [.cells [.ref 9 (g + 1) 0 (g + 1)], .arr 2 false (([spS x.n0 x.w0, spS x.n1 x.w1].take (g + 1)).map Sp.d)]) (fun g => 2 - g) (fun g => g ≤ 2) 0 (Nat.zero_le _) (fun _ h => nomatch h) (Nat.zero_le _) ?_ ?_
    · exact ForgetTo.same' (by simp [hpS]) (by simp [EWe, Env.look, wrap_i1, wrap_i2]) (by simp [Store.vs, hpS, bkV, outN, recsT])
    rintro g hg hn
    have hg3 : g = 0 ∨ g = 1 ∨ g = 2 := by omega
    rcases hg3 with rfl | rfl | rfl
    · refine AWP.runS (fun k => k == 33 || k == 75) tt_ok (fun _ h => nomatch h) (Nat.zero_le _) rfl ?_
      simp only [go_sem, Nat.reduceBEq, Nat.reduceEqDiff, Nat.reduceLT, Nat.reduceLeDiff, Nat.reduceAdd, Nat.reduceSub, Nat.reduceMul, reduceCtorEq, Int.reduceToNat, Int.reduceEq, Int.reduceLT, Int.reduceLE, Int.reduceNe, Int.reduceNeg , or_self, or_false, false_or , List.length_map, Bool.or_true, Bool.true_or, Bool.false_or, Bool.or_false, Int.cast_ofNat_Int, hpS, bkV, outN, recsT, z0, z1, z2]
      refine ADrw.treeG (fun k => k == 33 || k == 75) tt_ok (by kernel_rfl) (fun k => if k = 6 ∨ k = 15 then some .L else some .S) (.ones [0, 1, 2, 3, 4, 5, 6, 7, 8, 9, 10, 11, 12, 13, 14, 15, 16, 17] .done) (Nat.zero_le _) (fun _ h => nomatch h) rfl rfl (by kernel_rfl) ?_
      simp only [go_sem, Nat.reduceBEq, Nat.reduceEqDiff, Nat.reduceLT, Nat.reduceLeDiff, Nat.reduceAdd, Nat.reduceSub, Nat.reduceMul, reduceCtorEq, Int.reduceToNat, Int.reduceEq, Int.reduceLT, Int.reduceLE, Int.reduceNe, Int.reduceNeg , or_self, or_false, false_or , List.length_map, Bool.or_true, Bool.true_or, Bool.false_or, Bool.or_false, Int.cast_ofNat_Int, byte_conv hA, byte_conv vA, p1, remO_ne z12]
      refine ADrw.treeG (fun k => k == 33 || k == 75) tt_ok (by kernel_rfl) (fun k => if k = 1 then some .L else if k = 16 ∨ k = 18 then some .W else some .S) (.ones [0, 1, 2, 3, 4, 5, 6, 7, 8, 9, 10, 11, 12, 13, 14, 15, 16, 17, 18] .done) (Nat.zero_le _) (fun _ h => nomatch h) rfl rfl (by kernel_rfl) ?_
      simp only [go_sem, Nat.reduceBEq, Nat.reduceEqDiff, Nat.reduceLT, Nat.reduceLeDiff, Nat.reduceAdd, Nat.reduceSub, Nat.reduceMul, reduceCtorEq, Int.reduceToNat, Int.reduceEq, Int.reduceLT, Int.reduceLE, Int.reduceNe, Int.reduceNeg , or_self, or_false, false_or , List.length_map, Bool.or_true, Bool.true_or, Bool.false_or, Bool.or_false, Int.cast_ofNat_Int, byte_conv hA, byte_conv vA, p1, p2, p3, p4, p5, p6, remO_ne z4, quoO_ne z4]
      refine (c24 _ _).callS rfl rfl rfl rfl rfl rfl ?_
      simp only [go_sem, Nat.reduceBEq, Nat.reduceEqDiff, Nat.reduceLT, Nat.reduceLeDiff, Nat.reduceAdd, Nat.reduceSub, Nat.reduceMul, reduceCtorEq, Int.reduceToNat, Int.reduceEq, Int.reduceLT, Int.reduceLE, Int.reduceNe, Int.reduceNeg , or_self, or_false, false_or , List.length_map, Bool.or_true, Bool.true_or, Bool.false_or, Bool.or_false, Int.cast_ofNat_Int, Sp.d]
      refine ⟨1, by omega, by omega, ?_⟩
      exact ForgetTo.same' (Nat.zero_le _) (by simp [EWe, Env.look, wrap_i1, wrap_i2]) (by simp [Store.vs, hpS, bkV, outN, recsT, spS, Sp.d])
    · refine AWP.runS (fun k => k == 33 || k == 75) tt_ok (fun _ h => nomatch h) (Nat.zero_le _) rfl ?_
      simp only [go_sem, Nat.reduceBEq, Nat.reduceEqDiff, Nat.reduceLT, Nat.reduceLeDiff, Nat.reduceAdd, Nat.reduceSub, Nat.reduceMul, reduceCtorEq, Int.reduceToNat, Int.reduceEq, Int.reduceLT, Int.reduceLE, Int.reduceNe, Int.reduceNeg , or_self, or_false, false_or , List.length_map, Bool.or_true, Bool.true_or, Bool.false_or, Bool.or_false, Int.cast_ofNat_Int, hpS, bkV, outN, recsT, z0, z1, z2]
      refine ADrw.treeG (fun k => k == 33 || k == 75) tt_ok (by kernel_rfl) (fun k => if k = 6 ∨ k = 15 then some .L else some .S) (.ones [0, 1, 2, 3, 4, 5, 6, 7, 8, 9, 10, 11, 12, 13, 14, 15, 16, 17] .done) (Nat.zero_le _) (fun _ h => nomatch h) rfl rfl (by kernel_rfl) ?_
      simp only [go_sem, Nat.reduceBEq, Nat.reduceEqDiff, Nat.reduceLT, Nat.reduceLeDiff, Nat.reduceAdd, Nat.reduceSub, Nat.reduceMul, reduceCtorEq, Int.reduceToNat, Int.reduceEq, Int.reduceLT, Int.reduceLE, Int.reduceNe, Int.reduceNeg , or_self, or_false, false_or , List.length_map, Bool.or_true, Bool.true_or, Bool.false_or, Bool.or_false, Int.cast_ofNat_Int, byte_conv hB, byte_conv vB, q1, remO_ne z12]
      refine ADrw.treeG (fun k => k == 33 || k == 75) tt_ok (by kernel_rfl) (fun k => if k = 1 then some .L else if k = 16 ∨ k = 18 then some .W else some .S) (.ones [0, 1, 2, 3, 4, 5, 6, 7, 8, 9, 10, 11, 12, 13, 14, 15, 16, 17, 18] .done) (Nat.zero_le _) (fun _ h => nomatch h) rfl rfl (by kernel_rfl) ?_
      simp only [go_sem, Nat.reduceBEq, Nat.reduceEqDiff, Nat.reduceLT, Nat.reduceLeDiff, Nat.reduceAdd, Nat.reduceSub, Nat.reduceMul, reduceCtorEq, Int.reduceToNat, Int.reduceEq, Int.reduceLT, Int.reduceLE, Int.reduceNe, Int.reduceNeg , or_self, or_false, false_or , List.length_map, Bool.or_true, Bool.true_or, Bool.false_or, Bool.or_false, Int.cast_ofNat_Int, byte_conv hB, byte_conv vB, q1, q2, q3, q4, q5, q6, remO_ne z4, quoO_ne z4]
      refine (c24 _ _).callS rfl rfl rfl rfl rfl rfl ?_
      simp only [go_sem, Nat.reduceBEq, Nat.reduceEqDiff, Nat.reduceLT, Nat.reduceLeDiff, Nat.reduceAdd, Nat.reduceSub, Nat.reduceMul, reduceCtorEq, Int.reduceToNat, Int.reduceEq, Int.reduceLT, Int.reduceLE, Int.reduceNe, Int.reduceNeg , or_self, or_false, false_or , List.length_map, Bool.or_true, Bool.true_or, Bool.false_or, Bool.or_false, Int.cast_ofNat_Int, Sp.d]
      refine ⟨2, by omega, by omega, ?_⟩
      exact ForgetTo.same' (Nat.zero_le _) (by simp [EWe, Env.look, wrap_i1, wrap_i2]) (by simp [Store.vs, hpS, bkV, outN, recsT, spS, Sp.d])
    · refine AWP.runS (fun k => k == 33 || k == 75) tt_ok (fun _ h => nomatch h) (Nat.zero_le _) rfl ?_
      simp only [go_sem, Nat.reduceBEq, Nat.reduceEqDiff, Nat.reduceLT, Nat.reduceLeDiff, Nat.reduceAdd, Nat.reduceSub, Nat.reduceMul, reduceCtorEq, Int.reduceToNat, Int.reduceEq, Int.reduceLT, Int.reduceLE, Int.reduceNe, Int.reduceNeg , or_self, or_false, false_or , List.length_map, Bool.or_true, Bool.true_or, Bool.false_or, Bool.or_false, Int.cast_ofNat_Int, hpS, bkV, outN, recsT, z0, z1, z2]
      refine ⟨0 + 1, by omega, by omega, ?_⟩
      simp [ForgetTo, EW, VW, BBq, BBs, BB, VBs, VB, Env.look, pubV, wrap_i1, wrap_i2, hpS, bkV, outN, recsT, recD, Sp.d, Store.vs]

  · have hA := hx.n2
    have vA := hx.w2
    have hB := hx.n3
    have vB := hx.w3
    obtain ⟨p1, p2, p3, p4, p5, p6⟩ := sp_conv hA vA
    obtain ⟨q1, q2, q3, q4, q5, q6⟩ := sp_conv hB vB
    have z12 : (12 : Int) ≠ 0 := by omega
    have z4 : (4 : Int) ≠ 0 := by omega
    refine AWP.runS (fun k => k == 33 || k == 75) tt_ok (fun _ h => nomatch h) (Nat.zero_le _) rfl ?_
    simp only [go_sem, Nat.reduceBEq, Nat.reduceEqDiff, Nat.reduceLT, Nat.reduceLeDiff, Nat.reduceAdd, Nat.reduceSub, Nat.reduceMul, reduceCtorEq, Int.reduceToNat, Int.reduceEq, Int.reduceLT, Int.reduceLE, Int.reduceNe, Int.reduceNeg , or_self, or_false, false_or , List.length_map, Bool.or_true, Bool.true_or, Bool.false_or, Bool.or_false, Int.cast_ofNat_Int, hpS, bkV, outN, recsT]
    refine ALoop.by (S := Nat) (fun g => [(8, .d (.int .i64 g)), (7, .ptr 8 0), (6, .d (.int .i64 1)), (5, .ptr 4 0), (4, .ptr 3 0), (3, .ptr 2 0), (2, .ptr 1 0), (1, .ptr 0 0)])
      (fun g => match g with
        | 0 => hpS x (2 * 1) 1 0 0 ++ [.cells [.slx (some true) []]]
        | g + 1 => hpS x (2 * 1 + (g + 1)) 1 0 0 ++ [.cells [.ref 9 (g + 1) 0 (g + 1)], .arr 2 false (([spS x.n2 x.w2, spS x.n3 x.w3].take (g + 1)).map Sp.d)]) (fun g => 2 - g) (fun g => g ≤ 2) 0 (Nat.zero_le _) (fun _ h => nomatch h) (Nat.zero_le _) ?_ ?_
    · exact ForgetTo.same' (by simp [hpS]) (by simp [EWe, Env.look, wrap_i1, wrap_i2]) (by simp [Store.vs, hpS, bkV, outN, recsT])
    rintro g hg hn
    have hg3 : g = 0 ∨ g = 1 ∨ g = 2 := by omega
    rcases hg3 with rfl | rfl | rfl
    · refine AWP.runS (fun k => k == 33 || k == 75) tt_ok (fun _ h => nomatch h) (Nat.zero_le _) rfl ?_
      simp only [go_sem, Nat.reduceBEq, Nat.reduceEqDiff, Nat.reduceLT, Nat.reduceLeDiff, Nat.reduceAdd, Nat.reduceSub, Nat.reduceMul, reduceCtorEq, Int.reduceToNat, Int.reduceEq, Int.reduceLT, Int.reduceLE, Int.reduceNe, Int.reduceNeg , or_self, or_false, false_or , List.length_map, Bool.or_true, Bool.true_or, Bool.false_or, Bool.or_false, Int.cast_ofNat_Int, hpS, bkV, outN, recsT, z0, z1, z2]
      refine ADrw.treeG (fun k => k == 33 || k == 75) tt_ok (by kernel_rfl) (fun k => if k = 6 ∨ k = 15 then some .L else some .S) (.ones [0, 1, 2, 3, 4, 5, 6, 7, 8, 9, 10, 11, 12, 13, 14, 15, 16, 17] .done) (Nat.zero_le _) (fun _ h => nomatch h) rfl rfl (by kernel_rfl) ?_
      simp only [go_sem, Nat.reduceBEq, Nat.reduceEqDiff, Nat.reduceLT, Nat.reduceLeDiff, Nat.reduceAdd, Nat.reduceSub, Nat.reduceMul, reduceCtorEq, Int.reduceToNat, Int.reduceEq, Int.reduceLT, Int.reduceLE, Int.reduceNe, Int.reduceNeg , or_self, or_false, false_or , List.length_map, Bool.or_true, Bool.true_or, Bool.false_or, Bool.or_false, Int.cast_ofNat_Int, byte_conv hA, byte_conv vA, p1, remO_ne z12]
      refine ADrw.treeG (fun k => k == 33 || k == 75) tt_ok (by kernel_rfl) (fun k => if k = 1 then some .L else if k = 16 ∨ k = 18 then some .W else some .S) (.ones [0, 1, 2, 3, 4, 5, 6, 7, 8, 9, 10, 11, 12, 13, 14, 15, 16, 17, 18] .done) (Nat.zero_le _) (fun _ h => nomatch h) rfl rfl (by kernel_rfl) ?_
      simp only [go_sem, Nat.reduceBEq, Nat.reduceEqDiff, Nat.reduceLT, Nat.reduceLeDiff, Nat.reduceAdd, Nat.reduceSub, Nat.reduceMul, reduceCtorEq, Int.reduceToNat, Int.reduceEq, Int.reduceLT, Int.reduceLE, Int.reduceNe, Int.reduceNeg , or_self, or_false, false_or , List.length_map, Bool.or_true, Bool.true_or, Bool.false_or, Bool.or_false, Int.cast_ofNat_Int, byte_conv hA, byte_conv vA, p1, p2, p3, p4, p5, p6, remO_ne z4, quoO_ne z4]
      refine (c24 _ _).callS rfl rfl rfl rfl rfl rfl ?_
      simp only [go_sem, Nat.reduceBEq, Nat.reduceEqDiff, Nat.reduceLT, Nat.reduceLeDiff, Nat.reduceAdd, Nat.reduceSub, Nat.reduceMul, reduceCtorEq, Int.reduceToNat, Int.reduceEq, Int.reduceLT, Int.reduceLE, Int.reduceNe, Int.reduceNeg , or_self, or_false, false_or , List.length_map, Bool.or_true, Bool.true_or, Bool.false_or, Bool.or_false, Int.cast_ofNat_Int, Sp.d]
      refine ⟨1, by omega, by omega, ?_⟩
      exact ForgetTo.same' (Nat.zero_le _) (by simp [EWe, Env.look, wrap_i1, wrap_i2]) (by simp [Store.vs, hpS, bkV, outN, recsT, spS, Sp.d])
    · refine AWP.runS (fun k => k == 33 || k == 75) tt_ok (fun _ h => nomatch h) (Nat.zero_le _) rfl ?_
      simp only [go_sem, Nat.reduceBEq, Nat.reduceEqDiff, Nat.reduceLT, Nat.reduceLeDiff, Nat.reduceAdd, Nat.reduceSub, Nat.reduceMul, reduceCtorEq, Int.reduceToNat, Int.reduceEq, Int.reduceLT, Int.reduceLE, Int.reduceNe, Int.reduceNeg , or_self, or_false, false_or , List.length_map, Bool.or_true, Bool.true_or, Bool.false_or, Bool.or_false, Int.cast_ofNat_Int, hpS, bkV, outN, recsT, z0, z1, z2]
      refine ADrw.treeG (fun k => k == 33 || k == 75) tt_ok (by kernel_rfl) (fun k => if k = 6 ∨ k = 15 then some .L else some .S) (.ones [0, 1, 2, 3, 4, 5, 6, 7, 8, 9, 10, 11, 12, 13, 14, 15, 16, 17] .done) (Nat.zero_le _) (fun _ h => nomatch h) rfl rfl (by kernel_rfl) ?_
      simp only [go_sem, Nat.reduceBEq, Nat.reduceEqDiff, Nat.reduceLT, Nat.reduceLeDiff, Nat.reduceAdd, Nat.reduceSub, Nat.reduceMul, reduceCtorEq, Int.reduceToNat, Int.reduceEq, Int.reduceLT, Int.reduceLE, Int.reduceNe, Int.reduceNeg , or_self, or_false, false_or , List.length_map, Bool.or_true, Bool.true_or, Bool.false_or, Bool.or_false, Int.cast_ofNat_Int, byte_conv hB, byte_conv vB, q1, remO_ne z12]
      refine ADrw.treeG (fun k => k == 33 || k == 75) tt_ok (by kernel_rfl) (fun k => if k = 1 then some .L else if k = 16 ∨ k = 18 then some .W else some .S) (.ones [0, 1, 2, 3, 4, 5, 6, 7, 8, 9, 10, 11, 12, 13, 14, 15, 16, 17, 18] .done) (Nat.zero_le _) (fun _ h => nomatch h) rfl rfl (by kernel_rfl) ?_
      simp only [go_sem, Nat.reduceBEq, Nat.reduceEqDiff, Nat.reduceLT, Nat.reduceLeDiff, Nat.reduceAdd, Nat.reduceSub, Nat.reduceMul, reduceCtorEq, Int.reduceToNat, Int.reduceEq, Int.reduceLT, Int.reduceLE, Int.reduceNe, Int.reduceNeg , or_self, or_false, false_or , List.length_map, Bool.or_true, Bool.true_or, Bool.false_or, Bool.or_false, Int.cast_ofNat_Int, byte_conv hB, byte_conv vB, q1, q2, q3, q4, q5, q6, remO_ne z4, quoO_ne z4]
      refine (c24 _ _).callS rfl rfl rfl rfl rfl rfl ?_
      simp only [go_sem, Nat.reduceBEq, Nat.reduceEqDiff, Nat.reduceLT, Nat.reduceLeDiff, Nat.reduceAdd, Nat.reduceSub, Nat.reduceMul, reduceCtorEq, Int.reduceToNat, Int.reduceEq, Int.reduceLT, Int.reduceLE, Int.reduceNe, Int.reduceNeg , or_self, or_false, false_or , List.length_map, Bool.or_true, Bool.true_or, Bool.false_or, Bool.or_false, Int.cast_ofNat_Int, Sp.d]
      refine ⟨2, by omega, by omega, ?_⟩
      exact ForgetTo.same' (Nat.zero_le _) (by simp [EWe, Env.look, wrap_i1, wrap_i2]) (by simp [Store.vs, hpS, bkV, outN, recsT, spS, Sp.d])
    · refine AWP.runS (fun k => k == 33 || k == 75) tt_ok (fun _ h => nomatch h) (Nat.zero_le _) rfl ?_
      simp only [go_sem, Nat.reduceBEq, Nat.reduceEqDiff, Nat.reduceLT, Nat.reduceLeDiff, Nat.reduceAdd, Nat.reduceSub, Nat.reduceMul, reduceCtorEq, Int.reduceToNat, Int.reduceEq, Int.reduceLT, Int.reduceLE, Int.reduceNe, Int.reduceNeg , or_self, or_false, false_or , List.length_map, Bool.or_true, Bool.true_or, Bool.false_or, Bool.or_false, Int.cast_ofNat_Int, hpS, bkV, outN, recsT, z0, z1, z2]
      refine ⟨1 + 1, by omega, by omega, ?_⟩
      simp [ForgetTo, EW, VW, BBq, BBs, BB, VBs, VB, Env.look, pubV, wrap_i1, wrap_i2, hpS, bkV, outN, recsT, recD, Sp.d, Store.vs]
  refine AWP.runS (fun _ => false) tt_ok (fun _ h => nomatch h) (Nat.zero_le _) rfl ?_
  simp only [go_sem, Nat.reduceBEq, Nat.reduceEqDiff, Nat.reduceLT, Nat.reduceLeDiff, Nat.reduceAdd, Nat.reduceSub, Nat.reduceMul, reduceCtorEq, Int.reduceToNat, Int.reduceEq, Int.reduceLT, Int.reduceLE, Int.reduceNe, Int.reduceNeg , or_self, or_false, false_or , List.length_map, Bool.or_true, Bool.true_or, Bool.false_or, Bool.or_false, Int.cast_ofNat_Int, z2]
  clear hk hn
  have hPl : (x.ents.take 12).length ≤ 12 := by simp; omega
  have hPl2 : (x.ents.take 12).length = min 12 x.ents.length := by simp
  have hPg : ∀ i (h : i < (x.ents.take 12).length), x.ents[i]? = some (x.ents.take 12)[i] ∧ (x.ents.take 12)[i].Ok := fun i h => by
    refine ⟨by rw [List.getElem_take, List.getElem?_eq_getElem], hx.ents _ (List.mem_of_mem_take (List.getElem_mem h))⟩
  have hes : x.es = (x.ents.take 12).map entS := rfl
  have hRl : (x.mads.take 8).length ≤ 8 := by simp; omega
  have hRl2 : (x.mads.take 8).length = min 8 x.mads.length := by simp
  have hRg : ∀ i (h : i < (x.mads.take 8).length), x.mads[i]? = some (x.mads.take 8)[i] ∧ (x.mads.take 8)[i].Ok := fun i h => by
    refine ⟨by rw [List.getElem_take, List.getElem?_eq_getElem], hx.mads _ (List.mem_of_mem_take (List.getElem_mem h))⟩
  have hms : x.ms = (x.mads.take 8).map madS := rfl
  generalize x.ents.take 12 = P at *
  generalize x.mads.take 8 = R at *
  have hesl : x.es.length = P.length := by rw [hes]; simp
  have hmsl : x.ms.length = R.length := by rw [hms]; simp
  refine ALoop.by (S := Nat) (fun i => [(11, .d (.int .i64 i)), (5, .ptr 4 0), (4, .ptr 3 0), (3, .ptr 2 0), (2, .ptr 1 0), (1, .ptr 0 0)])
    (fun i => hpS x 4 2 i 0) (fun i => P.length - i) (fun i => i ≤ P.length) 0 (Nat.zero_le _) (fun _ h => nomatch h) (Nat.zero_le _) ?_ ?_
  · exact ForgetTo.same' (Nat.zero_le _) (by simp [EWe, Env.look]) (by simp [hpS, bkV])
  rintro i hi hn
  refine AWP.runS (fun _ => false) tt_ok (fun _ h => nomatch h) (Nat.zero_le _) rfl ?_
  simp only [go_sem, Nat.reduceBEq, Nat.reduceEqDiff, Nat.reduceLT, Nat.reduceLeDiff, Nat.reduceAdd, Nat.reduceSub, Nat.reduceMul, reduceCtorEq, Int.reduceToNat, Int.reduceEq, Int.reduceLT, Int.reduceLE, Int.reduceNe, Int.reduceNeg , or_self, or_false, false_or , List.length_map, Bool.or_true, Bool.true_or, Bool.false_or, Bool.or_false, Int.cast_ofNat_Int, hpS, bkV, Store.vs]
  by_cases hlt : i < P.length
  · have hcp : (i : Int) < (x.ents.length : Int) := by omega
    have hc6 : (i : Int) < 12 := by omega
    have hle : i + 1 ≤ 4294967296 := by omega
    have hmin : min i x.es.length = i := by omega
    have hie : i < x.es.length := by omega
    obtain ⟨gW, hq⟩ := hPg i hlt
    have hee : x.es[i] = entS P[i] := by simp only [hes, List.getElem_map]
    have htk : x.es.take (i + 1) = x.es.take i ++ [entS P[i]] := by rw [List.take_succ_eq_append_getElem hie, hee]
    generalize P[i] = q at *
    have ha := hq.a
    have hb := hq.b
    have hc := hq.c
    have a1 := byte_conv ha
    have a2 := byte_conv hb
    have a3 := byte_conv hc
    simp only [Byte] at ha hb hc
    have b1 : IntKind.u8.wrap (q.b.tdiv 2) = q.b / 2 := by
      rw [Int.tdiv_eq_ediv_of_nonneg (by omega)]; exact byte_wrap (by omega) (by omega)
    have b2 : (q.b / 2).tmod 2 = q.b / 2 % 2 := Int.tmod_eq_emod_of_nonneg (by omega)
    have b3 : q.b.tmod 2 = q.b % 2 := Int.tmod_eq_emod_of_nonneg (by omega)
    have b4 : wr (3 + q.c) = 3 + q.c := w64 (by omega) (by omega)
    have b5 : wr (0 - (3 + q.c)) = -(3 + q.c) := by rw [show 0 - (3 + q.c) = -(3 + q.c) by omega]; exact w64 (by omega) (by omega)
    have z2' : (2 : Int) ≠ 0 := by omega
    simp only [go_sem, Nat.reduceBEq, Nat.reduceEqDiff, Nat.reduceLT, Nat.reduceLeDiff, Nat.reduceAdd, Nat.reduceSub, Nat.reduceMul, reduceCtorEq, Int.reduceToNat, Int.reduceEq, Int.reduceLT, Int.reduceLE, Int.reduceNe, Int.reduceNeg , or_self, or_false, false_or , List.length_map, Bool.or_true, Bool.true_or, Bool.false_or, Bool.or_false, Int.cast_ofNat_Int, hcp, hc6, idx_nat, List.getElem?_map, gW, B3.d, a1, a2, a3, b1, b2, b3, b4, b5, remO_ne z2', quoO_ne z2']
    refine Br_split (fun hd => ?_) (fun hd => ?_) <;> simp only [go_sem, Nat.reduceBEq, Nat.reduceEqDiff, Nat.reduceLT, Nat.reduceLeDiff, Nat.reduceAdd, Nat.reduceSub, Nat.reduceMul, reduceCtorEq, Int.reduceToNat, Int.reduceEq, Int.reduceLT, Int.reduceLE, Int.reduceNe, Int.reduceNeg , or_self, or_false, false_or , List.length_map, Bool.or_true, Bool.true_or, Bool.false_or, Bool.or_false, Int.cast_ofNat_Int, hd, b5, List.length_take, hmin, hle]
    · have hd' : q.b / 2 % 2 = 1 := by simpa using hd
      refine ⟨i + 1, hlt, by omega, ?_⟩
      simp [ForgetTo, EW, VW, BBq, BBs, BB, VBs, VB, Env.look, pubV, hpS, bkV, Store.vs, htk, entS, hd', Ent.d, outN, recsT, recD, w64 (n := (i : Int) + 1) (by omega) (by omega)]
    · have hd' : ¬ q.b / 2 % 2 = 1 := by simpa using hd
      refine ⟨i + 1, hlt, by omega, ?_⟩
      simp [ForgetTo, EW, VW, BBq, BBs, BB, VBs, VB, Env.look, pubV, hpS, bkV, Store.vs, htk, entS, hd', Ent.d, outN, recsT, recD, w64 (n := (i : Int) + 1) (by omega) (by omega)]
  have hie : i = P.length := by omega
  subst hie
  have htk : x.es.take P.length = x.es := List.take_of_length_le (by omega)
  have hc : ∃ b c : Bool, decide ((P.length : Int) < (x.ents.length : Int)) = b ∧ decide ((P.length : Int) < 12) = c ∧ (b && c) = false := ⟨_, _, rfl, rfl, by
    rw [Bool.and_eq_false_iff]; simp; omega⟩
  obtain ⟨b, c, hb, hc, hbc⟩ := hc
  simp only [go_sem, Nat.reduceBEq, Nat.reduceEqDiff, Nat.reduceLT, Nat.reduceLeDiff, Nat.reduceAdd, Nat.reduceSub, Nat.reduceMul, reduceCtorEq, Int.reduceToNat, Int.reduceEq, Int.reduceLT, Int.reduceLE, Int.reduceNe, Int.reduceNeg , or_self, or_false, false_or , List.length_map, Bool.or_true, Bool.true_or, Bool.false_or, Bool.or_false, Int.cast_ofNat_Int, hb, hc]
  cases b <;> (try (simp only [Bool.true_and] at hbc)) <;> simp only [go_sem, Nat.reduceBEq, Nat.reduceEqDiff, Nat.reduceLT, Nat.reduceLeDiff, Nat.reduceAdd, Nat.reduceSub, Nat.reduceMul, reduceCtorEq, Int.reduceToNat, Int.reduceEq, Int.reduceLT, Int.reduceLE, Int.reduceNe, Int.reduceNeg , or_self, or_false, false_or , List.length_map, Bool.or_true, Bool.true_or, Bool.false_or, Bool.or_false, Int.cast_ofNat_Int, hb, hc, hbc]
  all_goals
    refine ALoop.by (S := Nat) (fun i => [(14, .d (.int .i64 i)), (5, .ptr 4 0), (4, .ptr 3 0), (3, .ptr 2 0), (2, .ptr 1 0), (1, .ptr 0 0)])
      (fun i => hpS x 4 2 P.length i) (fun i => R.length - i) (fun i => i ≤ R.length) 0 (Nat.zero_le _) (fun _ h => nomatch h) (Nat.zero_le _) ?_ ?_
    · exact ForgetTo.same' (Nat.zero_le _) (by simp [EWe, Env.look]) (by simp [hpS, bkV, Store.vs])
    clear hi hlt hn hb hc hbc
    rintro i hi hn
    refine AWP.runS (fun _ => false) tt_ok (fun _ h => nomatch h) (Nat.zero_le _) rfl ?_
    simp only [go_sem, Nat.reduceBEq, Nat.reduceEqDiff, Nat.reduceLT, Nat.reduceLeDiff, Nat.reduceAdd, Nat.reduceSub, Nat.reduceMul, reduceCtorEq, Int.reduceToNat, Int.reduceEq, Int.reduceLT, Int.reduceLE, Int.reduceNe, Int.reduceNeg , or_self, or_false, false_or , List.length_map, Bool.or_true, Bool.true_or, Bool.false_or, Bool.or_false, Int.cast_ofNat_Int, hpS, bkV, Store.vs]
    by_cases hlt : i < R.length
    · have hcp : (i : Int) < (x.mads.length : Int) := by omega
      have hc6 : (i : Int) < 8 := by omega
      have hle : i + 1 ≤ 4294967296 := by omega
      have hmin : min i x.ms.length = i := by omega
      have hie : i < x.ms.length := by omega
      obtain ⟨gW, hq⟩ := hRg i hlt
      have hee : x.ms[i] = madS R[i] := by simp only [hms, List.getElem_map]
      have htk2 : x.ms.take (i + 1) = x.ms.take i ++ [madS R[i]] := by rw [List.take_succ_eq_append_getElem hie, hee]
      generalize R[i] = q at *
      have ha := hq.a
      have hb := hq.b
      have hc := hq.c
      have a1 := byte_conv ha
      have a2 := byte_conv hb
      have a3 := byte_conv hc
      simp only [Byte] at ha hb hc
      have b3 : q.b.tmod 2 = q.b % 2 := Int.tmod_eq_emod_of_nonneg (by omega)
      have b4 : q.c.tmod 30 = q.c % 30 := Int.tmod_eq_emod_of_nonneg (by omega)
      have b5 : wr (1 + q.c % 30) = 1 + q.c % 30 := w64 (by omega) (by omega)
      have z2' : (2 : Int) ≠ 0 := by omega
      have z30 : (30 : Int) ≠ 0 := by omega
      simp only [go_sem, Nat.reduceBEq, Nat.reduceEqDiff, Nat.reduceLT, Nat.reduceLeDiff, Nat.reduceAdd, Nat.reduceSub, Nat.reduceMul, reduceCtorEq, Int.reduceToNat, Int.reduceEq, Int.reduceLT, Int.reduceLE, Int.reduceNe, Int.reduceNeg , or_self, or_false, false_or , List.length_map, Bool.or_true, Bool.true_or, Bool.false_or, Bool.or_false, Int.cast_ofNat_Int, hcp, hc6, idx_nat, List.getElem?_map, gW, B3.d, a1, a2, a3, b3, b4, b5, remO_ne z2', remO_ne z30, List.length_take, hmin, hle]
      refine ⟨i + 1, hlt, by omega, ?_⟩
      simp [ForgetTo, EW, VW, BBq, BBs, BB, VBs, VB, Env.look, pubV, hpS, bkV, Store.vs, htk2, madS, Mad.d, outN, recsT, recD, w64 (n := (i : Int) + 1) (by omega) (by omega)]
    have hie : i = R.length := by omega
    subst hie
    have htk2 : x.ms.take R.length = x.ms := List.take_of_length_le (by omega)
    have tE : (x.es.map Ent.d).take P.length = x.es.map Ent.d := List.take_of_length_le (by simp; omega)
    have tM : (x.ms.map Mad.d).take R.length = x.ms.map Mad.d := List.take_of_length_le (by simp; omega)
    have hc : ∃ b c : Bool, decide ((R.length : Int) < (x.mads.length : Int)) = b ∧ decide ((R.length : Int) < 8) = c ∧ (b && c) = false := ⟨_, _, rfl, rfl, by
      rw [Bool.and_eq_false_iff]; simp; omega⟩
    obtain ⟨b, c, hb, hc, hbc⟩ := hc
    simp only [go_sem, Nat.reduceBEq, Nat.reduceEqDiff, Nat.reduceLT, Nat.reduceLeDiff, Nat.reduceAdd, Nat.reduceSub, Nat.reduceMul, reduceCtorEq, Int.reduceToNat, Int.reduceEq, Int.reduceLT, Int.reduceLE, Int.reduceNe, Int.reduceNeg , or_self, or_false, false_or , List.length_map, Bool.or_true, Bool.true_or, Bool.false_or, Bool.or_false, Int.cast_ofNat_Int, hb, hc]
    cases b <;> (try (simp only [Bool.true_and] at hbc)) <;> simp only [go_sem, Nat.reduceBEq, Nat.reduceEqDiff, Nat.reduceLT, Nat.reduceLeDiff, Nat.reduceAdd, Nat.reduceSub, Nat.reduceMul, reduceCtorEq, Int.reduceToNat, Int.reduceEq, Int.reduceLT, Int.reduceLE, Int.reduceNe, Int.reduceNeg , or_self, or_false, false_or , List.length_map, Bool.or_true, Bool.true_or, Bool.false_or, Bool.or_false, Int.cast_ofNat_Int, hb, hc, hbc]
    all_goals
      refine ADrw.treeG (fun _ => false) tt_ok (by kernel_rfl) (fun k => if k = 0 ∨ k = 1 then some .L else if k = 2 ∨ k = 3 then some .W else some .S) (.ones [0] (.two 1 (.ones [2, 3] .done) 2 (.ones [1, 3] .done))) (Nat.zero_le _) (fun _ h => nomatch h) rfl rfl (by kernel_rfl) ?_
      simp only [go_sem, Nat.reduceBEq, Nat.reduceEqDiff, Nat.reduceLT, Nat.reduceLeDiff, Nat.reduceAdd, Nat.reduceSub, Nat.reduceMul, reduceCtorEq, Int.reduceToNat, Int.reduceEq, Int.reduceLT, Int.reduceLE, Int.reduceNe, Int.reduceNeg , or_self, or_false, false_or , List.length_map, Bool.or_true, Bool.true_or, Bool.false_or, Bool.or_false, Int.cast_ofNat_Int, outN, recsT, htk, htk2, hesl, hmsl, tE, tM, Store.book, twoB, Book.d, T4.d, Store.takes]
end Go.Aw
end

section
set_option maxRecDepth 100000
namespace Go.Aw
open Go Go.Proofs Go.Proofs.Try

theorem within_of {a c : Int} {l : List Int} (h : ∀ n ∈ l, a ≤ n ∧ n ≤ c) : within a c l = true := (within_iff a c l).2 h

theorem spS_ok {n w : Int} (h : Byte n) (hw : Byte w) : 0 ≤ (spS n w).lo ∧ (spS n w).lo ≤ n % 12 ∧ n % 12 ≤ (spS n w).hi ∧ (spS n w).hi ≤ 50 ∧ (spS n w).hi - (spS n w).lo < 8 := by
  simp only [Byte] at h hw
  simp only [spS]; omega

theorem spS_good {n w : Int} (h : Byte n) (hw : Byte w) : badSpan (spS n w) = false := by
  obtain ⟨h1, h2, h3, h4, h5⟩ := spS_ok h hw
  have w1 : within 0 50 [(spS n w).lo, (spS n w).hi] = true := within_of (by simp; omega)
  have w2 : IntKind.i64.wrap ((spS n w).hi - (spS n w).lo) = (spS n w).hi - (spS n w).lo := w64 (by omega) (by omega)
  simp [badSpan, w1, w2]; omega

theorem es_ok {x : Store} (hx : x.Ok) : ∀ y ∈ x.es, (0 ≤ y.day ∧ y.day ≤ 255) ∧ (0 ≤ y.goods ∧ y.goods < 2) ∧ (-258 ≤ y.amount ∧ y.amount ≤ 258) ∧ (y.amount ≤ -3 ∨ 3 ≤ y.amount) := by
  intro y hy
  simp only [Store.es, List.mem_map] at hy
  obtain ⟨v, hv, rfl⟩ := hy
  have ho := hx.ents v (List.mem_of_mem_take hv)
  have h1 := ho.a
  have h2 := ho.b
  have h3 := ho.c
  simp only [Byte] at h1 h2 h3
  simp only [entS]
  split <;> omega

theorem ms_ok {x : Store} (hx : x.Ok) : ∀ y ∈ x.ms, (0 ≤ y.day ∧ y.day ≤ 255) ∧ (0 ≤ y.kind ∧ y.kind < 2) ∧ (1 ≤ y.many ∧ y.many ≤ 30) := by
  intro y hy
  simp only [Store.ms, List.mem_map] at hy
  obtain ⟨v, hv, rfl⟩ := hy
  have ho := hx.mads v (List.mem_of_mem_take hv)
  have h1 := ho.a
  have h2 := ho.b
  have h3 := ho.c
  simp only [Byte] at h1 h2 h3
  simp only [madS]; omega

/-- A book of two goods and two kinds whose parts can be so. -/
structure TwoOk (st : List Int) (es : List Ent) (p q r s : Sp) (ms : List Mad) : Prop where
  st2 : st.length = 2
  sv : ∀ n ∈ st, 0 ≤ n ∧ n ≤ 10000
  e12 : es.length ≤ 12
  ev : ∀ y ∈ es, (0 ≤ y.day ∧ y.day ≤ 365) ∧ (0 ≤ y.goods ∧ y.goods < 2) ∧ (-1000 ≤ y.amount ∧ y.amount ≤ 1000) ∧ y.amount ≠ 0
  sp : ∀ z ∈ [p, q, r, s], badSpan z = false
  m8 : ms.length ≤ 8
  mv : ∀ y ∈ ms, (0 ≤ y.day ∧ y.day ≤ 365) ∧ (0 ≤ y.kind ∧ y.kind < 2) ∧ (1 ≤ y.many ∧ y.many ≤ 100)

theorem two_check {st : List Int} {es : List Ent} {p q r s : Sp} {ms : List Mad} (h : TwoOk st es p q r s ms) : checkP (twoB st es p q r s ms) = 0 := by
  have h2 := h.st2
  have he := h.e12
  have hm := h.m8
  have w1 : within 1 4 [(st.length : Int)] = true := within_of (by simp; omega)
  have w2 : within 0 10000 st = true := within_of h.sv
  have g1 : IntKind.i64.wrap ((st.length : Int) - 1) = 1 := by rw [h2]; exact w64 (n := 1) (by omega) (by omega)
  have a1 : es.any (badEnt st.length) = false := by
    rw [List.any_eq_false]
    intro y hy
    obtain ⟨k1, k2, k3, k4⟩ := h.ev y hy
    have e1 : within 0 365 [y.day] = true := within_of (by simp; omega)
    have e2 : within 0 1 [y.goods] = true := within_of (by simp; omega)
    have e3 : within (-1000) 1000 [y.amount] = true := within_of (by simp; omega)
    simp [badEnt, g1, e1, e2, e3, k4]
  have a2 : [[p, q], [r, s]].any (badRec st.length) = false := by
    have hsp := h.sp
    simp only [List.mem_cons, List.not_mem_nil, or_false, forall_eq_or_imp, forall_eq] at hsp
    obtain ⟨s1, s2, s3, s4⟩ := hsp
    simp [badRec, h2, s1, s2, s3, s4]
  have a3 : ms.any (badMad 2) = false := by
    rw [List.any_eq_false]
    intro y hy
    obtain ⟨k1, k2, k3⟩ := h.mv y hy
    have g2 : IntKind.i64.wrap ((2 : Int) - 1) = 1 := w64 (n := 1) (by omega) (by omega)
    have e1 : within 0 365 [y.day] = true := within_of (by simp; omega)
    have e2 : within 0 1 [y.kind] = true := within_of (by simp; omega)
    have e3 : within 1 100 [y.many] = true := within_of (by simp; omega)
    simp [badMad, wrap_i1, e1, e2, e3]
  unfold checkP twoB
  simp only [w1, w2, a1, a2]
  rw [if_neg (by simp), if_neg (by simp; omega), if_neg]
  simp [a3]

theorem store_two {x : Store} (hx : x.Ok) : TwoOk [8 * x.s0, 8 * x.s1] x.es (spS x.n0 x.w0) (spS x.n1 x.w1) (spS x.n2 x.w2) (spS x.n3 x.w3) x.ms := by
  have h0 := hx.s0
  have h1 := hx.s1
  simp only [Byte] at h0 h1
  refine ⟨rfl, by simp; omega, by simp [Store.es]; omega, fun y hy => ?_, ?_, by simp [Store.ms]; omega, fun y hy => ?_⟩
  · have := es_ok hx y hy; omega
  · intro z hz
    simp only [List.mem_cons, List.not_mem_nil, or_false] at hz
    rcases hz with rfl | rfl | rfl | rfl
    · exact spS_good hx.n0 hx.w0
    · exact spS_good hx.n1 hx.w1
    · exact spS_good hx.n2 hx.w2
    · exact spS_good hx.n3 hx.w3
  · have := ms_ok hx y hy; omega

theorem col_mem {x : Store} (hx : x.Ok) (st : List Int) (es : List Ent) (ms : List Mad) {g : Nat} (hg : g < 2) : Wthn (spansB (twoB st es (spS x.n0 x.w0) (spS x.n1 x.w1) (spS x.n2 x.w2) (spS x.n3 x.w3) ms) g) (x.takes.col g) := by
  have a0 := spS_ok hx.n0 hx.w0
  have a1 := spS_ok hx.n1 hx.w1
  have a2 := spS_ok hx.n2 hx.w2
  have a3 := spS_ok hx.n3 hx.w3
  have hg2 : g = 0 ∨ g = 1 := by omega
  rcases hg2 with rfl | rfl
  · simp [spansB, twoB, T4.col, Store.takes, Wthn]; omega
  · simp [spansB, twoB, T4.col, Store.takes, Wthn]; omega

theorem ends_mem {st : List Int} {es : List Ent} {p q r s : Sp} {ms : List Mad} (h : TwoOk st es p q r s ms) (most : Bool) {g : Nat} (hg : g < 2) : Wthn (spansB (twoB st es p q r s ms) g) ((endsT most p q r s).col g) := by
  have hsp := h.sp
  simp only [List.mem_cons, List.not_mem_nil, or_false, forall_eq_or_imp, forall_eq] at hsp
  obtain ⟨s1, s2, s3, s4⟩ := hsp
  have b1 := badSpan_ok s1
  have b2 := badSpan_ok s2
  have b3 := badSpan_ok s3
  have b4 := badSpan_ok s4
  have hg2 : g = 0 ∨ g = 1 := by omega
  rcases hg2 with rfl | rfl <;> cases most <;> simp [spansB, twoB, T4.col, endsT, endS, Wthn] <;> omega

/-- What is left when signs take most, and least. -/
theorem ends_left {st : List Int} {es : List Ent} {p q r s : Sp} {ms : List Mad} (h : TwoOk st es p q r s ms) {g : Nat} (hg : g < 2) (day : Int) :
    restR (twoB st es p q r s ms) g day ((endsT true p q r s).col g) = (leftW (acctW (twoB st es p q r s ms) g day)).lo ∧ restR (twoB st es p q r s ms) g day ((endsT false p q r s).col g) = (leftW (acctW (twoB st es p q r s ms) g day)).hi := by
  have hok := checkP_ok (two_check h)
  have hgs : g < (twoB st es p q r s ms).stock.length := by simp only [twoB]; rw [h.st2]; exact hg
  rw [leftW_ends hok hgs, rest_eq hok hgs day (ends_mem h true hg), rest_eq hok hgs day (ends_mem h false hg)]
  have hg2 : g = 0 ∨ g = 1 := by omega
  rcases hg2 with rfl | rfl <;> simp [T4.col, endsT, endS, spanB, twoB]

/-- What is left in a truth lies in what the program says is left. -/
theorem truth_left {b : Book} (h : b.Ok) {g : Nat} (hg : g < b.stock.length) (day : Int) {t : List Int} (ht : Wthn (spansB b g) t) : (leftW (acctW b g day)).lo ≤ restR b g day t ∧ restR b g day t ≤ (leftW (acctW b g day)).hi := by
  obtain ⟨k0, k1, k2, k3⟩ := acct_bounds h hg day
  rw [rest_eq h hg day ht, leftW_ends h hg]
  have b0 := ht.get _ _ 0
  have b1 := ht.get _ _ 1
  have b2 := ht.get _ _ 2
  rw [spansB_get] at b0 b1 b2
  have c0 := Int.mul_le_mul_of_nonneg_left b0.1 k1.1
  have c1 := Int.mul_le_mul_of_nonneg_left b1.1 k2.1
  have c2 := Int.mul_le_mul_of_nonneg_left b2.1 k3.1
  have d0 := Int.mul_le_mul_of_nonneg_left b0.2 k1.1
  have d1 := Int.mul_le_mul_of_nonneg_left b1.2 k2.1
  have d2 := Int.mul_le_mul_of_nonneg_left b2.2 k3.1
  simp only
  constructor <;> omega

theorem left_small {b : Book} (h : b.Ok) {g : Nat} (hg : g < b.stock.length) (day : Int) : -132000 ≤ (leftW (acctW b g day)).lo ∧ (leftW (acctW b g day)).hi ≤ 22000 := by
  obtain ⟨k0, k1, k2, k3⟩ := acct_bounds h hg day
  rw [leftW_ends h hg]
  have p0 := h.span g 0
  have p1 := h.span g 1
  have p2 := h.span g 2
  have q0 := mul_le k1.1 k1.2 (b := (spanB b g 0).hi) (d := 50) (by omega) (by omega)
  have q1 := mul_le k2.1 k2.2 (b := (spanB b g 1).hi) (d := 50) (by omega) (by omega)
  have q2 := mul_le k3.1 k3.2 (b := (spanB b g 2).hi) (d := 50) (by omega) (by omega)
  have r0 := mul_le k1.1 k1.2 (b := (spanB b g 0).lo) (d := 50) (by omega) (by omega)
  have r1 := mul_le k2.1 k2.2 (b := (spanB b g 1).lo) (d := 50) (by omega) (by omega)
  have r2 := mul_le k3.1 k3.2 (b := (spanB b g 2).lo) (d := 50) (by omega) (by omega)
  simp only
  constructor <;> omega
end Go.Aw
end

section
set_option maxRecDepth 100000
namespace Go.Aw
open Go Go.Proofs Go.Proofs.Try

def T3.at (t : T3) : Nat → Int
  | 0 => t.x
  | 1 => t.y
  | _ => t.z

theorem toldI_at (ok : Bool) (o : O3) (t : T3) (k : Nat) : (toldI ok o t 3).at k = joinSp ok (o.at k) (t.at k) := by
  rcases k with _ | _ | k <;> rfl

def ToldInv (c : Sp) (k : Nat) (seen : List (T3 × Int)) (s : O3 × Bool) : Prop :=
  if s.2 = true then (∀ p ∈ seen, within c.lo c.hi [p.2] = true → (s.1.at k).lo ≤ p.1.at k ∧ p.1.at k ≤ (s.1.at k).hi) ∧
    (∃ p ∈ seen, within c.lo c.hi [p.2] = true ∧ (s.1.at k).lo = p.1.at k) ∧ (∃ p ∈ seen, within c.lo c.hi [p.2] = true ∧ (s.1.at k).hi = p.1.at k)
  else ∀ p ∈ seen, ¬ within c.lo c.hi [p.2] = true

theorem toldInv_step {c : Sp} {k : Nat} {seen : List (T3 × Int)} {s : O3 × Bool} (h : ToldInv c k seen s) (p : T3 × Int) : ToldInv c k (seen ++ [p]) (toldStep c s p) := by
  obtain ⟨o, ok⟩ := s
  unfold toldStep
  by_cases hw : within c.lo c.hi [p.2] = true
  · rw [if_pos hw]
    simp only [ToldInv, if_true, toldI_at]
    cases ok with
    | true =>
      simp only [ToldInv, if_true] at h
      obtain ⟨h1, ⟨q, hq, q1, q2⟩, ⟨r, hr, r1, r2⟩⟩ := h
      simp only [joinSp, if_true]
      refine ⟨fun z hz hzw => ?_, ?_, ?_⟩
      · rcases List.mem_append.1 hz with hz | hz
        · have := h1 z hz hzw; clear h1; omega
        · obtain rfl : z = p := by simpa using hz
          clear h1; omega
      · by_cases hm : (o.at k).lo ≤ p.1.at k
        · exact ⟨q, List.mem_append_left _ hq, q1, by rw [← q2]; clear h1; omega⟩
        · exact ⟨p, by simp, hw, by clear h1; omega⟩
      · by_cases hm : p.1.at k ≤ (o.at k).hi
        · exact ⟨r, List.mem_append_left _ hr, r1, by rw [← r2]; clear h1; omega⟩
        · exact ⟨p, by simp, hw, by clear h1; omega⟩
    | false =>
      simp only [ToldInv, Bool.false_eq_true, if_false] at h
      simp only [joinSp, Bool.false_eq_true, if_false]
      refine ⟨fun z hz hzw => ?_, ⟨p, by simp, hw, by omega⟩, ⟨p, by simp, hw, by omega⟩⟩
      rcases List.mem_append.1 hz with hz | hz
      · exact absurd hzw (h z hz)
      · obtain rfl : z = p := by simpa using hz
        omega
  · rw [if_neg hw]
    cases ok with
    | true =>
      simp only [ToldInv, if_true] at h ⊢
      obtain ⟨h1, ⟨q, hq, q1⟩, ⟨r, hr, r1⟩⟩ := h
      refine ⟨fun z hz hzw => ?_, ⟨q, List.mem_append_left _ hq, q1⟩, ⟨r, List.mem_append_left _ hr, r1⟩⟩
      rcases List.mem_append.1 hz with hz | hz
      · exact h1 z hz hzw
      · obtain rfl : z = p := by simpa using hz
        exact absurd hzw hw
    | false =>
      simp only [ToldInv, Bool.false_eq_true, if_false] at h ⊢
      intro z hz
      rcases List.mem_append.1 hz with hz | hz
      · exact h z hz
      · obtain rfl : z = p := by simpa using hz
        exact hw

theorem toldInv_fold {c : Sp} {k : Nat} : ∀ (l seen : List (T3 × Int)) (s : O3 × Bool), ToldInv c k seen s → ToldInv c k (seen ++ l) (l.foldl (toldStep c) s)
  | [], seen, s, h => by simpa using h
  | p :: l, seen, s, h => by
    have := toldInv_fold l (seen ++ [p]) _ (toldInv_step h p)
    simpa using this

theorem t3_at (x : List Int) {k : Nat} (hk : k < 3) : (t3 x).at k = x.getD k 0 := by
  have : k = 0 ∨ k = 1 ∨ k = 2 := by omega
  rcases this with rfl | rfl | rfl <;> rfl

theorem told_has {b : Book} (h : b.Ok) {g : Nat} (hg : g < b.stock.length) (c : Sp) (k : Nat) : ToldInv c k ((truthsB b g).map fun x => (t3 x, restR b g 365 x)) (toldW b g c) := by
  rw [toldW, truL_eq h hg]
  have := toldInv_fold (c := c) (k := k) ((truthsB b g).map fun x => (t3 x, restR b g 365 x)) [] (O3.zero, false) (by simp [ToldInv])
  simpa using this

theorem truths_iff {b : Book} {g : Nat} {x : List Int} : x ∈ truthsB b g ↔ Wthn (spansB b g) x := by
  rw [truthsB, mem_truthsL]
  constructor
  · rintro ⟨y, hy, rfl⟩; simpa using hy
  · intro hx; exact ⟨x, hx, by simp⟩

/-- A truth that was counted right. -/
theorem told_true {b : Book} (h : b.Ok) {g : Nat} (hg : g < b.stock.length) {c : Sp} {t : List Int} (ht : Wthn (spansB b g) t) (hc : c.lo ≤ restR b g 365 t ∧ restR b g 365 t ≤ c.hi) :
    (toldW b g c).2 = true ∧ ∀ k, k < 3 → (((toldW b g c).1.at k).lo ≤ t.getD k 0 ∧ t.getD k 0 ≤ ((toldW b g c).1.at k).hi) ∧ ((spanB b g k).lo ≤ ((toldW b g c).1.at k).lo ∧ ((toldW b g c).1.at k).hi ≤ (spanB b g k).hi ∧ ((toldW b g c).1.at k).lo ≤ ((toldW b g c).1.at k).hi) := by
  have hw : within c.lo c.hi [restR b g 365 t] = true := within_of (by simpa using hc)
  have hm : (t3 t, restR b g 365 t) ∈ (truthsB b g).map fun x => (t3 x, restR b g 365 x) := List.mem_map_of_mem (truths_iff.2 ht)
  have h2 : (toldW b g c).2 = true := by
    have := told_has h hg c 0
    unfold ToldInv at this
    split at this
    · assumption
    · exact absurd hw (this _ hm)
  refine ⟨h2, fun k hk => ?_⟩
  have hi := told_has h hg c k
  unfold ToldInv at hi
  rw [if_pos h2] at hi
  obtain ⟨h3, ⟨q, hq, q1, q2⟩, ⟨r, hr, r1, r2⟩⟩ := hi
  have ht' := h3 _ hm hw
  simp only [t3_at _ hk] at ht'
  obtain ⟨y, hy, rfl⟩ := List.mem_map.1 hq
  obtain ⟨z, hz, rfl⟩ := List.mem_map.1 hr
  simp only [t3_at _ hk] at q2 r2
  have hyw := (truths_iff.1 hy).get _ _ k
  have hzw := (truths_iff.1 hz).get _ _ k
  rw [spansB_get] at hyw hzw
  exact ⟨ht', by omega, by omega, by omega⟩

/-- What can have been counted of some number, by a byte. -/
def aboutS (n v : Int) : Sp := ⟨max 0 (n - v % 16), max 0 (n + v / 16)⟩

theorem two_open {st : List Int} {es : List Ent} {p q r s : Sp} {ms : List Mad} (h : TwoOk st es p q r s ms) {cs : List Sp} (hl : cs.length = 2) (hv : ∀ c ∈ cs, 0 ≤ c.lo ∧ c.lo ≤ c.hi ∧ c.hi ≤ 100000) : openP (twoB st es p q r s ms) [cs] = (twoB st es p q r s ms, 0) := by
  have hk := two_check h
  have hb : badList (twoB st es p q r s ms).stock.length cs = false := by
    have hst : (twoB st es p q r s ms).stock.length = 2 := h.st2
    rw [hst]
    simp only [badList, Bool.or_eq_false_iff, Bool.not_eq_false', decide_eq_true_eq]
    refine ⟨by omega, ?_⟩
    rw [List.any_eq_false]
    intro c hc
    have := hv c hc
    have w1 : within 0 100000 [c.lo, c.hi] = true := within_of (by simp; omega)
    simp [badCount, w1]; omega
  simp [openP, hk, hb]

theorem about_ok {n v : Int} (hv : Byte v) (h0 : 0 ≤ n) (h1 : n ≤ 50000) : (0 ≤ (aboutS n v).lo ∧ (aboutS n v).lo ≤ (aboutS n v).hi ∧ (aboutS n v).hi ≤ 100000) ∧ (aboutS n v).lo ≤ n ∧ n ≤ (aboutS n v).hi := by
  simp only [Byte] at hv
  simp only [aboutS]; omega
end Go.Aw
end

section
set_option maxRecDepth 100000
namespace Go.Aw
open Go Go.Proofs Go.Proofs.Try

/-- Two bytes. -/
structure B2 where
  a : Int
  b : Int

def B2.d (v : B2) : D := .agg [.int .u8 v.a, .int .u8 v.b]

abbrev Q9 : Ex → Env → Heap → Prop := FnPost Tt [.tmp 4] 0 fun r H' => H' = [] ∧ r = .d (.bool true)

def nS (x : Store) (g : Nat) : Int := restR x.book g 365 (x.takes.col g)
def lS (x : Store) (g : Nat) : Sp := leftW (acctW x.book g 365)

theorem store_check {x : Store} (hx : x.Ok) : checkP x.book = 0 := two_check (store_two hx)
theorem store_ok {x : Store} (hx : x.Ok) : x.book.Ok := checkP_ok (store_check hx)
theorem store_len (x : Store) : x.book.stock.length = 2 := rfl

theorem nS_left {x : Store} (hx : x.Ok) {g : Nat} (hg : g < 2) : (lS x g).lo ≤ nS x g ∧ nS x g ≤ (lS x g).hi :=
  truth_left (store_ok hx) hg 365 (col_mem hx _ _ _ hg)

theorem lS_small {x : Store} (hx : x.Ok) {g : Nat} (hg : g < 2) : -132000 ≤ (lS x g).lo ∧ (lS x g).hi ≤ 22000 := left_small (store_ok hx) hg 365

theorem lS_ends {x : Store} (hx : x.Ok) {g : Nat} (hg : g < 2) :
    restR x.book g 365 ((endsT true (spS x.n0 x.w0) (spS x.n1 x.w1) (spS x.n2 x.w2) (spS x.n3 x.w3)).col g) = (lS x g).lo ∧ restR x.book g 365 ((endsT false (spS x.n0 x.w0) (spS x.n1 x.w1) (spS x.n2 x.w2) (spS x.n3 x.w3)).col g) = (lS x g).hi :=
  ends_left (store_two hx) hg 365

theorem left_store {x : Store} (hx : x.Ok) : leftP x.book = ([lS x 0, lS x 1], 0) := by
  simp only [leftP, store_check hx, leftsW, store_len]
  rfl

def csS (x : Store) (v : B2) : List Sp := [aboutS (nS x 0) v.a, aboutS (nS x 1) v.b]

def belS (x : Store) : Nat → Bool
  | 0 => false
  | 1 => decide (nS x 0 < 0)
  | _ => decide (nS x 0 < 0) || decide (nS x 1 < 0)

theorem cs_ok {x : Store} (hx : x.Ok) {v : B2} (ha : Byte v.a) (hb : Byte v.b) (h0 : 0 ≤ nS x 0) (h1 : 0 ≤ nS x 1) : ∀ c ∈ csS x v, 0 ≤ c.lo ∧ c.lo ≤ c.hi ∧ c.hi ≤ 100000 := by
  have a0 := nS_left hx (g := 0) (by omega)
  have a1 := nS_left hx (g := 1) (by omega)
  have b0 := lS_small hx (g := 0) (by omega)
  have b1 := lS_small hx (g := 1) (by omega)
  intro c hc
  simp only [csS, List.mem_cons, List.not_mem_nil, or_false] at hc
  rcases hc with rfl | rfl
  · exact (about_ok ha h0 (by omega)).1
  · exact (about_ok hb h1 (by omega)).1

theorem told_S {x : Store} (hx : x.Ok) {c : Sp} {g : Nat} (hg : g < 2) (hc : c.lo ≤ nS x g ∧ nS x g ≤ c.hi) :
    (toldW x.book g c).2 = true ∧ ∀ k, k < 3 → (((toldW x.book g c).1.at k).lo ≤ (x.takes.col g).getD k 0 ∧ (x.takes.col g).getD k 0 ≤ ((toldW x.book g c).1.at k).hi) ∧ ((spanB x.book g k).lo ≤ ((toldW x.book g c).1.at k).lo ∧ ((toldW x.book g c).1.at k).hi ≤ (spanB x.book g k).hi ∧ ((toldW x.book g c).1.at k).lo ≤ ((toldW x.book g c).1.at k).hi) :=
  told_true (store_ok hx) hg (col_mem hx _ _ _ hg) hc

theorem q9_calls {x : Store} (hx : x.Ok) {v : B2} (ha : Byte v.a) (hb : Byte v.b) (h0 : 0 ≤ nS x 0) (h1 : 0 ≤ nS x 1) :
    missP x.book (csS x v) = ([missOne x.book 0 (aboutS (nS x 0) v.a), missOne x.book 1 (aboutS (nS x 1) v.b)], 0) ∧ oddP x.book (csS x v) = ([], 0) ∧
    toldP x.book (csS x v) = ([[(toldW x.book 0 (aboutS (nS x 0) v.a)).1.at 0, (toldW x.book 1 (aboutS (nS x 1) v.b)).1.at 0], [(toldW x.book 0 (aboutS (nS x 0) v.a)).1.at 1, (toldW x.book 1 (aboutS (nS x 1) v.b)).1.at 1]], 0) ∧ fixP x.book (csS x v) = ([], 6) := by
  have ho : openP x.book [csS x v] = (x.book, 0) := two_open (store_two hx) rfl (cs_ok hx ha hb h0 h1)
  have a0 := nS_left hx (g := 0) (by omega)
  have a1 := nS_left hx (g := 1) (by omega)
  have b0 := lS_small hx (g := 0) (by omega)
  have b1 := lS_small hx (g := 1) (by omega)
  have t0 := (told_S hx (g := 0) (by omega) (about_ok ha h0 (by omega)).2).1
  have t1 := (told_S hx (g := 1) (by omega) (about_ok hb h1 (by omega)).2).1
  have hodd : oddI x.book (csS x v) = [] := by simp [oddI, csS, t0, t1]
  have hall : allTold x.book (csS x v) = true := by simp [allTold, csS, t0, t1]
  have ho2 : (openP x.book [csS x v]).2 = 0 := by rw [ho]
  refine ⟨?_, by simp [oddP, ho, hodd], ?_, by simp [fixP, ho, hodd]⟩
  · rw [missP, if_neg (by simp [ho2])]; rfl
  simp only [toldP, ho, hall]
  rfl

set_option maxHeartbeats 4000000 in
theorem f9_6 (x : Store) (hx : x.Ok) (v : B2) (ha : Byte v.a) (hb : Byte v.b) :
    AWP prog 242 0 none (restC 6 (bodyOf f9)) [(10, .d (.bool (belS x 2))), (9, .ref 4 2 0 2), (7, .d (.sl [(lS x 0).d, (lS x 1).d])), (6, .ptr 3 0), (5, .ptr 2 0), (3, .ptr 1 0)]
      [.cells x.vs, .cells [.d (.int .u8 v.a), .d (.int .u8 v.b)], .cells (bookV x.book), .cells [.d (.int .i64 x.takes.a), .d (.int .i64 x.takes.b), .d (.int .i64 x.takes.c), .d (.int .i64 x.takes.e)], .arr 2 false ((csS x v).map Sp.d)] Q9 := by
  refine AWP.runS (fun _ => false) tt_ok (fun _ h => nomatch h) (Nat.zero_le _) rfl ?_
  simp only [go_sem, Nat.reduceBEq, Nat.reduceEqDiff, Nat.reduceLT, Nat.reduceLeDiff, Nat.reduceAdd, Nat.reduceSub, Nat.reduceMul, reduceCtorEq, Int.reduceToNat, Int.reduceEq, Int.reduceLT, Int.reduceLE, Int.reduceNe, Int.reduceNeg , or_self, or_false, false_or , List.length_map, Bool.or_true, Bool.true_or, Bool.false_or, Bool.or_false, Int.cast_ofNat_Int]
  cases hbel : belS x 2 <;> simp only [go_sem, Nat.reduceBEq, Nat.reduceEqDiff, Nat.reduceLT, Nat.reduceLeDiff, Nat.reduceAdd, Nat.reduceSub, Nat.reduceMul, reduceCtorEq, Int.reduceToNat, Int.reduceEq, Int.reduceLT, Int.reduceLE, Int.reduceNe, Int.reduceNeg , or_self, or_false, false_or , List.length_map, Bool.or_true, Bool.true_or, Bool.false_or, Bool.or_false, Int.cast_ofNat_Int]
  case true =>
    refine c14.call rfl rfl rfl ?_
    simp only [go_sem, Nat.reduceBEq, Nat.reduceEqDiff, Nat.reduceLT, Nat.reduceLeDiff, Nat.reduceAdd, Nat.reduceSub, Nat.reduceMul, reduceCtorEq, Int.reduceToNat, Int.reduceEq, Int.reduceLT, Int.reduceLE, Int.reduceNe, Int.reduceNeg , or_self, or_false, false_or , List.length_map, Bool.or_true, Bool.true_or, Bool.false_or, Bool.or_false, Int.cast_ofNat_Int]
  have h0 : 0 ≤ nS x 0 := by simp [belS] at hbel; omega
  have h1 : 0 ≤ nS x 1 := by simp [belS] at hbel; omega
  obtain ⟨r1, r2, r3, r4⟩ := q9_calls hx ha hb h0 h1
  have hfit := (store_ok hx).fits
  have hcl : (csS x v).length ≤ 4294967296 := by simp [csS]
  have hsz : sized 2 ((csS x v).map Sp.d) = true := by simp [sized, Sp.d, dcells]
  have htk : ((csS x v).map Sp.d).take 2 = (csS x v).map Sp.d := List.take_of_length_le (by simp [csS])
  have hcl2 : (csS x v).length = 2 := rfl
  have hgood := fun h : checkP x.book = 0 => checkP_good h
  have hacc := fun h : checkP x.book = 0 => checkP_acc h
  simp only [bookV, go_sem, Nat.reduceBEq, Nat.reduceEqDiff, Nat.reduceLT, Nat.reduceLeDiff, Nat.reduceAdd, Nat.reduceSub, Nat.reduceMul, reduceCtorEq, Int.reduceToNat, Int.reduceEq, Int.reduceLT, Int.reduceLE, Int.reduceNe, Int.reduceNeg , or_self, or_false, false_or , List.length_map, Bool.or_true, Bool.true_or, Bool.false_or, Bool.or_false, Int.cast_ofNat_Int]
  refine (c49 x.book hfit).call rfl rfl rfl ?_
  simp only [go_sem, Nat.reduceBEq, Nat.reduceEqDiff, Nat.reduceLT, Nat.reduceLeDiff, Nat.reduceAdd, Nat.reduceSub, Nat.reduceMul, reduceCtorEq, Int.reduceToNat, Int.reduceEq, Int.reduceLT, Int.reduceLE, Int.reduceNe, Int.reduceNeg , or_self, or_false, false_or , List.length_map, Bool.or_true, Bool.true_or, Bool.false_or, Bool.or_false, Int.cast_ofNat_Int, hcl2, hsz, htk]
  refine (c18 x.book (csS x v) hfit hcl hacc).call rfl rfl rfl ?_
  simp only [go_sem, Nat.reduceBEq, Nat.reduceEqDiff, Nat.reduceLT, Nat.reduceLeDiff, Nat.reduceAdd, Nat.reduceSub, Nat.reduceMul, reduceCtorEq, Int.reduceToNat, Int.reduceEq, Int.reduceLT, Int.reduceLE, Int.reduceNe, Int.reduceNeg , or_self, or_false, false_or , List.length_map, Bool.or_true, Bool.true_or, Bool.false_or, Bool.or_false, Int.cast_ofNat_Int, r1]
  refine (c49 x.book hfit).call rfl rfl rfl ?_
  simp only [go_sem, Nat.reduceBEq, Nat.reduceEqDiff, Nat.reduceLT, Nat.reduceLeDiff, Nat.reduceAdd, Nat.reduceSub, Nat.reduceMul, reduceCtorEq, Int.reduceToNat, Int.reduceEq, Int.reduceLT, Int.reduceLE, Int.reduceNe, Int.reduceNeg , or_self, or_false, false_or , List.length_map, Bool.or_true, Bool.true_or, Bool.false_or, Bool.or_false, Int.cast_ofNat_Int, hcl2, hsz, htk]
  refine (c25 x.book (csS x v) hfit hcl hgood).call rfl rfl rfl ?_
  simp only [go_sem, Nat.reduceBEq, Nat.reduceEqDiff, Nat.reduceLT, Nat.reduceLeDiff, Nat.reduceAdd, Nat.reduceSub, Nat.reduceMul, reduceCtorEq, Int.reduceToNat, Int.reduceEq, Int.reduceLT, Int.reduceLE, Int.reduceNe, Int.reduceNeg , or_self, or_false, false_or , List.length_map, Bool.or_true, Bool.true_or, Bool.false_or, Bool.or_false, Int.cast_ofNat_Int, r2]
  refine (c49 x.book hfit).call rfl rfl rfl ?_
  simp only [go_sem, Nat.reduceBEq, Nat.reduceEqDiff, Nat.reduceLT, Nat.reduceLeDiff, Nat.reduceAdd, Nat.reduceSub, Nat.reduceMul, reduceCtorEq, Int.reduceToNat, Int.reduceEq, Int.reduceLT, Int.reduceLE, Int.reduceNe, Int.reduceNeg , or_self, or_false, false_or , List.length_map, Bool.or_true, Bool.true_or, Bool.false_or, Bool.or_false, Int.cast_ofNat_Int, hcl2, hsz, htk]
  refine (c26 x.book (csS x v) hfit hcl hgood).call rfl rfl rfl ?_
  simp only [go_sem, Nat.reduceBEq, Nat.reduceEqDiff, Nat.reduceLT, Nat.reduceLeDiff, Nat.reduceAdd, Nat.reduceSub, Nat.reduceMul, reduceCtorEq, Int.reduceToNat, Int.reduceEq, Int.reduceLT, Int.reduceLE, Int.reduceNe, Int.reduceNeg , or_self, or_false, false_or , List.length_map, Bool.or_true, Bool.true_or, Bool.false_or, Bool.or_false, Int.cast_ofNat_Int, r3, lists]
  refine (c49 x.book hfit).call rfl rfl rfl ?_
  simp only [go_sem, Nat.reduceBEq, Nat.reduceEqDiff, Nat.reduceLT, Nat.reduceLeDiff, Nat.reduceAdd, Nat.reduceSub, Nat.reduceMul, reduceCtorEq, Int.reduceToNat, Int.reduceEq, Int.reduceLT, Int.reduceLE, Int.reduceNe, Int.reduceNeg , or_self, or_false, false_or , List.length_map, Bool.or_true, Bool.true_or, Bool.false_or, Bool.or_false, Int.cast_ofNat_Int, hcl2, hsz, htk]
  refine (c32 x.book (csS x v) hfit hcl hgood).call rfl rfl rfl ?_
  simp only [go_sem, Nat.reduceBEq, Nat.reduceEqDiff, Nat.reduceLT, Nat.reduceLeDiff, Nat.reduceAdd, Nat.reduceSub, Nat.reduceMul, reduceCtorEq, Int.reduceToNat, Int.reduceEq, Int.reduceLT, Int.reduceLE, Int.reduceNe, Int.reduceNeg , or_self, or_false, false_or , List.length_map, Bool.or_true, Bool.true_or, Bool.false_or, Bool.or_false, Int.cast_ofNat_Int, r4]
  have a0 := nS_left hx (g := 0) (by omega)
  have a1 := nS_left hx (g := 1) (by omega)
  have b0 := lS_small hx (g := 0) (by omega)
  have b1 := lS_small hx (g := 1) (by omega)
  have k0 := about_ok ha h0 (by omega)
  have k1 := about_ok hb h1 (by omega)
  obtain ⟨_, t0⟩ := told_S hx (g := 0) (by omega) k0.2
  obtain ⟨_, t1⟩ := told_S hx (g := 1) (by omega) k1.2
  have t00 := t0 0 (by omega)
  have t01 := t0 1 (by omega)
  have t10 := t1 0 (by omega)
  have t11 := t1 1 (by omega)
  have m0 : missOne x.book 0 (aboutS (nS x 0) v.a) = ⟨wr ((lS x 0).lo - (aboutS (nS x 0) v.a).hi), wr ((lS x 0).hi - (aboutS (nS x 0) v.a).lo)⟩ := rfl
  have m1 : missOne x.book 1 (aboutS (nS x 1) v.b) = ⟨wr ((lS x 1).lo - (aboutS (nS x 1) v.b).hi), wr ((lS x 1).hi - (aboutS (nS x 1) v.b).lo)⟩ := rfl
  rw [m0, m1]
  have hcs : csS x v = [aboutS (nS x 0) v.a, aboutS (nS x 1) v.b] := rfl
  rw [hcs]
  have v0 : wr ((lS x 0).lo - (aboutS (nS x 0) v.a).hi) ≤ 0 ∧ 0 ≤ wr ((lS x 0).hi - (aboutS (nS x 0) v.a).lo) := by
    rw [show wr ((lS x 0).lo - (aboutS (nS x 0) v.a).hi) = (lS x 0).lo - (aboutS (nS x 0) v.a).hi from w64 (by omega) (by omega), show wr ((lS x 0).hi - (aboutS (nS x 0) v.a).lo) = (lS x 0).hi - (aboutS (nS x 0) v.a).lo from w64 (by omega) (by omega)]; omega
  have v1 : wr ((lS x 1).lo - (aboutS (nS x 1) v.b).hi) ≤ 0 ∧ 0 ≤ wr ((lS x 1).hi - (aboutS (nS x 1) v.b).lo) := by
    rw [show wr ((lS x 1).lo - (aboutS (nS x 1) v.b).hi) = (lS x 1).lo - (aboutS (nS x 1) v.b).hi from w64 (by omega) (by omega), show wr ((lS x 1).hi - (aboutS (nS x 1) v.b).lo) = (lS x 1).hi - (aboutS (nS x 1) v.b).lo from w64 (by omega) (by omega)]; omega
  obtain ⟨v00, v01⟩ := v0
  obtain ⟨v10, v11⟩ := v1
  clear r1 r2 r3 r4 hcl hsz htk hcl2 t0 t1 m0 m1 hcs
  simp only [T4.col, Store.takes, spanB, Store.book, twoB, List.getD_cons_zero, List.getD_cons_succ, if_true, Nat.one_ne_zero, if_false] at t00 t01 t10 t11
  have hbv : bookV x.book = [.d (.sl [.int .i64 (8 * x.s0), .int .i64 (8 * x.s1)]), .d (.sl (x.es.map Ent.d)), .d (.sl [.agg [.sl [(spS x.n0 x.w0).d, (spS x.n1 x.w1).d]], .agg [.sl [(spS x.n2 x.w2).d, (spS x.n3 x.w3).d]]]), .d (.sl (x.ms.map Mad.d))] := rfl
  have hrec : x.book.recs = [[spS x.n0 x.w0, spS x.n1 x.w1], [spS x.n2 x.w2, spS x.n3 x.w3]] := rfl
  simp only [Store.takes]
  generalize aboutS (nS x 0) v.a = c0 at *
  generalize aboutS (nS x 1) v.b = c1 at *
  generalize lS x 0 = L0 at *
  generalize lS x 1 = L1 at *
  have et : toldW (twoB [8 * x.s0, 8 * x.s1] x.es (spS x.n0 x.w0) (spS x.n1 x.w1) (spS x.n2 x.w2) (spS x.n3 x.w3) x.ms) = toldW x.book := rfl
  simp only [twoB] at et
  rw [et] at t00 t01 t10 t11
  generalize toldW x.book 0 c0 = u0 at *
  generalize toldW x.book 1 c1 = u1 at *
  obtain ⟨⟨x1, x2⟩, x3, x4, x5⟩ := t00
  obtain ⟨⟨y1, y2⟩, y3, y4, y5⟩ := t01
  obtain ⟨⟨z1, z2⟩, z3, z4, z5⟩ := t10
  obtain ⟨⟨w1, w2⟩, w3, w4, w5⟩ := t11
  have n0 : ((0 : Nat) : Int) = 0 := rfl
  have n1 : ((1 : Nat) : Int) = 1 := rfl
  have n2 : ((2 : Nat) : Int) = 2 := rfl
  refine ALoop.by (S := Nat) (fun k => [(21, .d (.int .i64 k)), (17, .d (.sl [.sl [(u0.1.at 0).d, (u1.1.at 0).d], .sl [(u0.1.at 1).d, (u1.1.at 1).d]])), (13, .d (.sl [.agg [.int .i64 (wr (L0.lo - c0.hi)), .int .i64 (wr (L0.hi - c0.lo))], .agg [.int .i64 (wr (L1.lo - c1.hi)), .int .i64 (wr (L1.hi - c1.lo))]])), (9, .ref 4 2 0 2), (7, .d (.sl [L0.d, L1.d])), (6, .ptr 3 0), (5, .ptr 2 0)])
    (fun k => [.cells x.vs, .cells [.d (.int .u8 v.a), .d (.int .u8 v.b)], .cells (bookV x.book), .cells [.d (.int .i64 (x.n0 % 12)), .d (.int .i64 (x.n1 % 12)), .d (.int .i64 (x.n2 % 12)), .d (.int .i64 (x.n3 % 12))], .arr 2 false [c0.d, c1.d]]) (fun k => 2 - k) (fun k => k ≤ 2) 0 (Nat.zero_le _) (fun _ h => nomatch h) (Nat.zero_le _) ?_ ?_
  · exact ForgetTo.same' (Nat.zero_le _) (by simp [EWe, Env.look, Sp.d]) (by simp [Store.vs, bookV])
  rintro k hk hn
  have hk3 : k = 0 ∨ k = 1 ∨ k = 2 := by omega
  rcases hk3 with rfl | rfl | rfl
  · refine AWP.runS (fun _ => false) tt_ok (fun _ h => nomatch h) (Nat.zero_le _) rfl ?_
    simp only [go_sem, Nat.reduceBEq, Nat.reduceEqDiff, Nat.reduceLT, Nat.reduceLeDiff, Nat.reduceAdd, Nat.reduceSub, Nat.reduceMul, reduceCtorEq, Int.reduceToNat, Int.reduceEq, Int.reduceLT, Int.reduceLE, Int.reduceNe, Int.reduceNeg , or_self, or_false, false_or , List.length_map, Bool.or_true, Bool.true_or, Bool.false_or, Bool.or_false, Int.cast_ofNat_Int, n0, n1, n2]
    refine ADrw.treeG (fun _ => false) tt_ok (by kernel_rfl) (fun k => if k = 3 ∨ k = 8 ∨ k = 11 ∨ k = 13 ∨ k = 19 ∨ k = 22 ∨ k = 24 ∨ k = 32 ∨ k = 40 ∨ k = 41 then some .L else some .S) (.ones [0, 1, 2, 3, 4, 5, 6, 7, 8, 9, 10, 11, 12, 13, 14, 15, 16, 17, 18, 19, 20, 21, 22, 23, 24, 25, 26, 27, 28, 29, 30, 31, 32, 33, 34, 35, 36, 37, 38, 39, 40, 41, 42, 43] .done) (Nat.zero_le _) (fun _ h => nomatch h) rfl rfl (by kernel_rfl) ?_
    simp only [go_sem, Nat.reduceBEq, Nat.reduceEqDiff, Nat.reduceLT, Nat.reduceLeDiff, Nat.reduceAdd, Nat.reduceSub, Nat.reduceMul, reduceCtorEq, Int.reduceToNat, Int.reduceEq, Int.reduceLT, Int.reduceLE, Int.reduceNe, Int.reduceNeg , or_self, or_false, false_or , List.length_map, Bool.or_true, Bool.true_or, Bool.false_or, Bool.or_false, Int.cast_ofNat_Int, Sp.d]
    refine (c24 _ _).callS rfl rfl rfl rfl rfl rfl ?_
    simp only [go_sem, Nat.reduceBEq, Nat.reduceEqDiff, Nat.reduceLT, Nat.reduceLeDiff, Nat.reduceAdd, Nat.reduceSub, Nat.reduceMul, reduceCtorEq, Int.reduceToNat, Int.reduceEq, Int.reduceLT, Int.reduceLE, Int.reduceNe, Int.reduceNeg , or_self, or_false, false_or , List.length_map, Bool.or_true, Bool.true_or, Bool.false_or, Bool.or_false, Int.cast_ofNat_Int, Sp.d, BEq.rfl]
    refine (c51 0 ⟨wr (L0.lo - c0.hi), wr (L0.hi - c0.lo)⟩).callS rfl rfl rfl rfl rfl rfl ?_
    simp only [go_sem, Nat.reduceBEq, Nat.reduceEqDiff, Nat.reduceLT, Nat.reduceLeDiff, Nat.reduceAdd, Nat.reduceSub, Nat.reduceMul, reduceCtorEq, Int.reduceToNat, Int.reduceEq, Int.reduceLT, Int.reduceLE, Int.reduceNe, Int.reduceNeg , or_self, or_false, false_or , List.length_map, Bool.or_true, Bool.true_or, Bool.false_or, Bool.or_false, Int.cast_ofNat_Int, v00, v01]
    refine ALoop.by (S := Nat) (fun g => [(22, .d (.int .i64 g)), (21, .d (.int .i64 0)), (17, .d (.sl [.sl [(u0.1.at 0).d, (u1.1.at 0).d], .sl [(u0.1.at 1).d, (u1.1.at 1).d]])), (13, .d (.sl [.agg [.int .i64 (wr (L0.lo - c0.hi)), .int .i64 (wr (L0.hi - c0.lo))], .agg [.int .i64 (wr (L1.lo - c1.hi)), .int .i64 (wr (L1.hi - c1.lo))]])), (9, .ref 4 2 0 2), (7, .d (.sl [L0.d, L1.d])), (6, .ptr 3 0), (5, .ptr 2 0)])
      (fun _ => [.cells x.vs, .cells [.d (.int .u8 v.a), .d (.int .u8 v.b)], .cells (bookV x.book), .cells [.d (.int .i64 (x.n0 % 12)), .d (.int .i64 (x.n1 % 12)), .d (.int .i64 (x.n2 % 12)), .d (.int .i64 (x.n3 % 12))], .arr 2 false [c0.d, c1.d]]) (fun g => 2 - g) (fun g => g ≤ 2) 0 (Nat.zero_le _) (fun _ h => nomatch h) (Nat.zero_le _) ?_ ?_
    · exact ForgetTo.same' (Nat.zero_le _) (by simp [EWe, Env.look, Sp.d]) (by simp [Store.vs, bookV, Sp.d])
    rintro g hg hn
    have hg3 : g = 0 ∨ g = 1 ∨ g = 2 := by omega
    rcases hg3 with rfl | rfl | rfl
    · refine AWP.runS (fun _ => false) tt_ok (fun _ h => nomatch h) (Nat.zero_le _) rfl ?_
      simp only [go_sem, Nat.reduceBEq, Nat.reduceEqDiff, Nat.reduceLT, Nat.reduceLeDiff, Nat.reduceAdd, Nat.reduceSub, Nat.reduceMul, reduceCtorEq, Int.reduceToNat, Int.reduceEq, Int.reduceLT, Int.reduceLE, Int.reduceNe, Int.reduceNeg , or_self, or_false, false_or , List.length_map, Bool.or_true, Bool.true_or, Bool.false_or, Bool.or_false, Int.cast_ofNat_Int, n0, n1, n2, hrec, recD]
      refine ADrw.treeG (fun _ => false) tt_ok (by kernel_rfl) (fun k => if k = 4 ∨ k = 8 ∨ k = 11 ∨ k = 18 ∨ k = 21 ∨ k = 23 ∨ k = 27 ∨ k = 30 then some .L else some .S) (.ones (List.range 34) .done) (Nat.zero_le _) (fun _ h => nomatch h) rfl rfl (by kernel_rfl) ?_
      simp only [go_sem, Nat.reduceBEq, Nat.reduceEqDiff, Nat.reduceLT, Nat.reduceLeDiff, Nat.reduceAdd, Nat.reduceSub, Nat.reduceMul, reduceCtorEq, Int.reduceToNat, Int.reduceEq, Int.reduceLT, Int.reduceLE, Int.reduceNe, Int.reduceNeg , or_self, or_false, false_or , List.length_map, Bool.or_true, Bool.true_or, Bool.false_or, Bool.or_false, Int.cast_ofNat_Int, List.range, List.range.loop, Sp.d]
      refine (c51 (x.n0 % 12) (u0.1.at 0)).callS rfl rfl rfl rfl rfl rfl ?_
      simp only [go_sem, Nat.reduceBEq, Nat.reduceEqDiff, Nat.reduceLT, Nat.reduceLeDiff, Nat.reduceAdd, Nat.reduceSub, Nat.reduceMul, reduceCtorEq, Int.reduceToNat, Int.reduceEq, Int.reduceLT, Int.reduceLE, Int.reduceNe, Int.reduceNeg , or_self, or_false, false_or , List.length_map, Bool.or_true, Bool.true_or, Bool.false_or, Bool.or_false, Int.cast_ofNat_Int, x1, x2, Sp.d]
      refine (c54 (u0.1.at 0) (spS x.n0 x.w0)).callS rfl rfl rfl rfl rfl rfl ?_
      simp only [go_sem, Nat.reduceBEq, Nat.reduceEqDiff, Nat.reduceLT, Nat.reduceLeDiff, Nat.reduceAdd, Nat.reduceSub, Nat.reduceMul, reduceCtorEq, Int.reduceToNat, Int.reduceEq, Int.reduceLT, Int.reduceLE, Int.reduceNe, Int.reduceNeg , or_self, or_false, false_or , List.length_map, Bool.or_true, Bool.true_or, Bool.false_or, Bool.or_false, Int.cast_ofNat_Int, x3, x4, x5]
      refine ⟨1, by omega, by omega, ?_⟩
      exact ForgetTo.same' (Nat.zero_le _) (by simp [EWe, Env.look, Sp.d, wrap_i1]) (by simp [Store.vs, bookV, hrec, recD, Sp.d])
    · refine AWP.runS (fun _ => false) tt_ok (fun _ h => nomatch h) (Nat.zero_le _) rfl ?_
      simp only [go_sem, Nat.reduceBEq, Nat.reduceEqDiff, Nat.reduceLT, Nat.reduceLeDiff, Nat.reduceAdd, Nat.reduceSub, Nat.reduceMul, reduceCtorEq, Int.reduceToNat, Int.reduceEq, Int.reduceLT, Int.reduceLE, Int.reduceNe, Int.reduceNeg , or_self, or_false, false_or , List.length_map, Bool.or_true, Bool.true_or, Bool.false_or, Bool.or_false, Int.cast_ofNat_Int, n0, n1, n2, hrec, recD]
      refine ADrw.treeG (fun _ => false) tt_ok (by kernel_rfl) (fun k => if k = 4 ∨ k = 8 ∨ k = 11 ∨ k = 18 ∨ k = 21 ∨ k = 23 ∨ k = 27 ∨ k = 30 then some .L else some .S) (.ones (List.range 34) .done) (Nat.zero_le _) (fun _ h => nomatch h) rfl rfl (by kernel_rfl) ?_
      simp only [go_sem, Nat.reduceBEq, Nat.reduceEqDiff, Nat.reduceLT, Nat.reduceLeDiff, Nat.reduceAdd, Nat.reduceSub, Nat.reduceMul, reduceCtorEq, Int.reduceToNat, Int.reduceEq, Int.reduceLT, Int.reduceLE, Int.reduceNe, Int.reduceNeg , or_self, or_false, false_or , List.length_map, Bool.or_true, Bool.true_or, Bool.false_or, Bool.or_false, Int.cast_ofNat_Int, List.range, List.range.loop, Sp.d]
      refine (c51 (x.n1 % 12) (u1.1.at 0)).callS rfl rfl rfl rfl rfl rfl ?_
      simp only [go_sem, Nat.reduceBEq, Nat.reduceEqDiff, Nat.reduceLT, Nat.reduceLeDiff, Nat.reduceAdd, Nat.reduceSub, Nat.reduceMul, reduceCtorEq, Int.reduceToNat, Int.reduceEq, Int.reduceLT, Int.reduceLE, Int.reduceNe, Int.reduceNeg , or_self, or_false, false_or , List.length_map, Bool.or_true, Bool.true_or, Bool.false_or, Bool.or_false, Int.cast_ofNat_Int, z1, z2, Sp.d]
      refine (c54 (u1.1.at 0) (spS x.n1 x.w1)).callS rfl rfl rfl rfl rfl rfl ?_
      simp only [go_sem, Nat.reduceBEq, Nat.reduceEqDiff, Nat.reduceLT, Nat.reduceLeDiff, Nat.reduceAdd, Nat.reduceSub, Nat.reduceMul, reduceCtorEq, Int.reduceToNat, Int.reduceEq, Int.reduceLT, Int.reduceLE, Int.reduceNe, Int.reduceNeg , or_self, or_false, false_or , List.length_map, Bool.or_true, Bool.true_or, Bool.false_or, Bool.or_false, Int.cast_ofNat_Int, z3, z4, z5]
      refine ⟨2, by omega, by omega, ?_⟩
      exact ForgetTo.same' (Nat.zero_le _) (by simp [EWe, Env.look, Sp.d, wrap_i2]) (by simp [Store.vs, bookV, hrec, recD, Sp.d])
    · refine AWP.runS (fun _ => false) tt_ok (fun _ h => nomatch h) (Nat.zero_le _) rfl ?_
      simp only [go_sem, Nat.reduceBEq, Nat.reduceEqDiff, Nat.reduceLT, Nat.reduceLeDiff, Nat.reduceAdd, Nat.reduceSub, Nat.reduceMul, reduceCtorEq, Int.reduceToNat, Int.reduceEq, Int.reduceLT, Int.reduceLE, Int.reduceNe, Int.reduceNeg , or_self, or_false, false_or , List.length_map, Bool.or_true, Bool.true_or, Bool.false_or, Bool.or_false, Int.cast_ofNat_Int, n0, n1, n2]
      refine ⟨0 + 1, by omega, by omega, ?_⟩
      exact ForgetTo.same' (Nat.zero_le _) (by simp [EWe, Env.look, Sp.d, wrap_i1, wrap_i2]) (by simp [Store.vs, bookV, hrec, recD, Sp.d])

  · refine AWP.runS (fun _ => false) tt_ok (fun _ h => nomatch h) (Nat.zero_le _) rfl ?_
    simp only [go_sem, Nat.reduceBEq, Nat.reduceEqDiff, Nat.reduceLT, Nat.reduceLeDiff, Nat.reduceAdd, Nat.reduceSub, Nat.reduceMul, reduceCtorEq, Int.reduceToNat, Int.reduceEq, Int.reduceLT, Int.reduceLE, Int.reduceNe, Int.reduceNeg , or_self, or_false, false_or , List.length_map, Bool.or_true, Bool.true_or, Bool.false_or, Bool.or_false, Int.cast_ofNat_Int, n0, n1, n2]
    refine ADrw.treeG (fun _ => false) tt_ok (by kernel_rfl) (fun k => if k = 3 ∨ k = 8 ∨ k = 11 ∨ k = 13 ∨ k = 19 ∨ k = 22 ∨ k = 24 ∨ k = 32 ∨ k = 40 ∨ k = 41 then some .L else some .S) (.ones [0, 1, 2, 3, 4, 5, 6, 7, 8, 9, 10, 11, 12, 13, 14, 15, 16, 17, 18, 19, 20, 21, 22, 23, 24, 25, 26, 27, 28, 29, 30, 31, 32, 33, 34, 35, 36, 37, 38, 39, 40, 41, 42, 43] .done) (Nat.zero_le _) (fun _ h => nomatch h) rfl rfl (by kernel_rfl) ?_
    simp only [go_sem, Nat.reduceBEq, Nat.reduceEqDiff, Nat.reduceLT, Nat.reduceLeDiff, Nat.reduceAdd, Nat.reduceSub, Nat.reduceMul, reduceCtorEq, Int.reduceToNat, Int.reduceEq, Int.reduceLT, Int.reduceLE, Int.reduceNe, Int.reduceNeg , or_self, or_false, false_or , List.length_map, Bool.or_true, Bool.true_or, Bool.false_or, Bool.or_false, Int.cast_ofNat_Int, Sp.d]
    refine (c24 _ _).callS rfl rfl rfl rfl rfl rfl ?_
    simp only [go_sem, Nat.reduceBEq, Nat.reduceEqDiff, Nat.reduceLT, Nat.reduceLeDiff, Nat.reduceAdd, Nat.reduceSub, Nat.reduceMul, reduceCtorEq, Int.reduceToNat, Int.reduceEq, Int.reduceLT, Int.reduceLE, Int.reduceNe, Int.reduceNeg , or_self, or_false, false_or , List.length_map, Bool.or_true, Bool.true_or, Bool.false_or, Bool.or_false, Int.cast_ofNat_Int, Sp.d, BEq.rfl]
    refine (c51 0 ⟨wr (L1.lo - c1.hi), wr (L1.hi - c1.lo)⟩).callS rfl rfl rfl rfl rfl rfl ?_
    simp only [go_sem, Nat.reduceBEq, Nat.reduceEqDiff, Nat.reduceLT, Nat.reduceLeDiff, Nat.reduceAdd, Nat.reduceSub, Nat.reduceMul, reduceCtorEq, Int.reduceToNat, Int.reduceEq, Int.reduceLT, Int.reduceLE, Int.reduceNe, Int.reduceNeg , or_self, or_false, false_or , List.length_map, Bool.or_true, Bool.true_or, Bool.false_or, Bool.or_false, Int.cast_ofNat_Int, v10, v11]
    refine ALoop.by (S := Nat) (fun g => [(22, .d (.int .i64 g)), (21, .d (.int .i64 1)), (17, .d (.sl [.sl [(u0.1.at 0).d, (u1.1.at 0).d], .sl [(u0.1.at 1).d, (u1.1.at 1).d]])), (13, .d (.sl [.agg [.int .i64 (wr (L0.lo - c0.hi)), .int .i64 (wr (L0.hi - c0.lo))], .agg [.int .i64 (wr (L1.lo - c1.hi)), .int .i64 (wr (L1.hi - c1.lo))]])), (9, .ref 4 2 0 2), (7, .d (.sl [L0.d, L1.d])), (6, .ptr 3 0), (5, .ptr 2 0)])
      (fun _ => [.cells x.vs, .cells [.d (.int .u8 v.a), .d (.int .u8 v.b)], .cells (bookV x.book), .cells [.d (.int .i64 (x.n0 % 12)), .d (.int .i64 (x.n1 % 12)), .d (.int .i64 (x.n2 % 12)), .d (.int .i64 (x.n3 % 12))], .arr 2 false [c0.d, c1.d]]) (fun g => 2 - g) (fun g => g ≤ 2) 0 (Nat.zero_le _) (fun _ h => nomatch h) (Nat.zero_le _) ?_ ?_
    · exact ForgetTo.same' (Nat.zero_le _) (by simp [EWe, Env.look, Sp.d]) (by simp [Store.vs, bookV, Sp.d])
    rintro g hg hn
    have hg3 : g = 0 ∨ g = 1 ∨ g = 2 := by omega
    rcases hg3 with rfl | rfl | rfl
    · refine AWP.runS (fun _ => false) tt_ok (fun _ h => nomatch h) (Nat.zero_le _) rfl ?_
      simp only [go_sem, Nat.reduceBEq, Nat.reduceEqDiff, Nat.reduceLT, Nat.reduceLeDiff, Nat.reduceAdd, Nat.reduceSub, Nat.reduceMul, reduceCtorEq, Int.reduceToNat, Int.reduceEq, Int.reduceLT, Int.reduceLE, Int.reduceNe, Int.reduceNeg , or_self, or_false, false_or , List.length_map, Bool.or_true, Bool.true_or, Bool.false_or, Bool.or_false, Int.cast_ofNat_Int, n0, n1, n2, hrec, recD]
      refine ADrw.treeG (fun _ => false) tt_ok (by kernel_rfl) (fun k => if k = 4 ∨ k = 8 ∨ k = 11 ∨ k = 18 ∨ k = 21 ∨ k = 23 ∨ k = 27 ∨ k = 30 then some .L else some .S) (.ones (List.range 34) .done) (Nat.zero_le _) (fun _ h => nomatch h) rfl rfl (by kernel_rfl) ?_
      simp only [go_sem, Nat.reduceBEq, Nat.reduceEqDiff, Nat.reduceLT, Nat.reduceLeDiff, Nat.reduceAdd, Nat.reduceSub, Nat.reduceMul, reduceCtorEq, Int.reduceToNat, Int.reduceEq, Int.reduceLT, Int.reduceLE, Int.reduceNe, Int.reduceNeg , or_self, or_false, false_or , List.length_map, Bool.or_true, Bool.true_or, Bool.false_or, Bool.or_false, Int.cast_ofNat_Int, List.range, List.range.loop, Sp.d]
      refine (c51 (x.n2 % 12) (u0.1.at 1)).callS rfl rfl rfl rfl rfl rfl ?_
      simp only [go_sem, Nat.reduceBEq, Nat.reduceEqDiff, Nat.reduceLT, Nat.reduceLeDiff, Nat.reduceAdd, Nat.reduceSub, Nat.reduceMul, reduceCtorEq, Int.reduceToNat, Int.reduceEq, Int.reduceLT, Int.reduceLE, Int.reduceNe, Int.reduceNeg , or_self, or_false, false_or , List.length_map, Bool.or_true, Bool.true_or, Bool.false_or, Bool.or_false, Int.cast_ofNat_Int, y1, y2, Sp.d]
      refine (c54 (u0.1.at 1) (spS x.n2 x.w2)).callS rfl rfl rfl rfl rfl rfl ?_
      simp only [go_sem, Nat.reduceBEq, Nat.reduceEqDiff, Nat.reduceLT, Nat.reduceLeDiff, Nat.reduceAdd, Nat.reduceSub, Nat.reduceMul, reduceCtorEq, Int.reduceToNat, Int.reduceEq, Int.reduceLT, Int.reduceLE, Int.reduceNe, Int.reduceNeg , or_self, or_false, false_or , List.length_map, Bool.or_true, Bool.true_or, Bool.false_or, Bool.or_false, Int.cast_ofNat_Int, y3, y4, y5]
      refine ⟨1, by omega, by omega, ?_⟩
      exact ForgetTo.same' (Nat.zero_le _) (by simp [EWe, Env.look, Sp.d, wrap_i1]) (by simp [Store.vs, bookV, hrec, recD, Sp.d])
    · refine AWP.runS (fun _ => false) tt_ok (fun _ h => nomatch h) (Nat.zero_le _) rfl ?_
      simp only [go_sem, Nat.reduceBEq, Nat.reduceEqDiff, Nat.reduceLT, Nat.reduceLeDiff, Nat.reduceAdd, Nat.reduceSub, Nat.reduceMul, reduceCtorEq, Int.reduceToNat, Int.reduceEq, Int.reduceLT, Int.reduceLE, Int.reduceNe, Int.reduceNeg , or_self, or_false, false_or , List.length_map, Bool.or_true, Bool.true_or, Bool.false_or, Bool.or_false, Int.cast_ofNat_Int, n0, n1, n2, hrec, recD]
      refine ADrw.treeG (fun _ => false) tt_ok (by kernel_rfl) (fun k => if k = 4 ∨ k = 8 ∨ k = 11 ∨ k = 18 ∨ k = 21 ∨ k = 23 ∨ k = 27 ∨ k = 30 then some .L else some .S) (.ones (List.range 34) .done) (Nat.zero_le _) (fun _ h => nomatch h) rfl rfl (by kernel_rfl) ?_
      simp only [go_sem, Nat.reduceBEq, Nat.reduceEqDiff, Nat.reduceLT, Nat.reduceLeDiff, Nat.reduceAdd, Nat.reduceSub, Nat.reduceMul, reduceCtorEq, Int.reduceToNat, Int.reduceEq, Int.reduceLT, Int.reduceLE, Int.reduceNe, Int.reduceNeg , or_self, or_false, false_or , List.length_map, Bool.or_true, Bool.true_or, Bool.false_or, Bool.or_false, Int.cast_ofNat_Int, List.range, List.range.loop, Sp.d]
      refine (c51 (x.n3 % 12) (u1.1.at 1)).callS rfl rfl rfl rfl rfl rfl ?_
      simp only [go_sem, Nat.reduceBEq, Nat.reduceEqDiff, Nat.reduceLT, Nat.reduceLeDiff, Nat.reduceAdd, Nat.reduceSub, Nat.reduceMul, reduceCtorEq, Int.reduceToNat, Int.reduceEq, Int.reduceLT, Int.reduceLE, Int.reduceNe, Int.reduceNeg , or_self, or_false, false_or , List.length_map, Bool.or_true, Bool.true_or, Bool.false_or, Bool.or_false, Int.cast_ofNat_Int, w1, w2, Sp.d]
      refine (c54 (u1.1.at 1) (spS x.n3 x.w3)).callS rfl rfl rfl rfl rfl rfl ?_
      simp only [go_sem, Nat.reduceBEq, Nat.reduceEqDiff, Nat.reduceLT, Nat.reduceLeDiff, Nat.reduceAdd, Nat.reduceSub, Nat.reduceMul, reduceCtorEq, Int.reduceToNat, Int.reduceEq, Int.reduceLT, Int.reduceLE, Int.reduceNe, Int.reduceNeg , or_self, or_false, false_or , List.length_map, Bool.or_true, Bool.true_or, Bool.false_or, Bool.or_false, Int.cast_ofNat_Int, w3, w4, w5]
      refine ⟨2, by omega, by omega, ?_⟩
      exact ForgetTo.same' (Nat.zero_le _) (by simp [EWe, Env.look, Sp.d, wrap_i2]) (by simp [Store.vs, bookV, hrec, recD, Sp.d])
    · refine AWP.runS (fun _ => false) tt_ok (fun _ h => nomatch h) (Nat.zero_le _) rfl ?_
      simp only [go_sem, Nat.reduceBEq, Nat.reduceEqDiff, Nat.reduceLT, Nat.reduceLeDiff, Nat.reduceAdd, Nat.reduceSub, Nat.reduceMul, reduceCtorEq, Int.reduceToNat, Int.reduceEq, Int.reduceLT, Int.reduceLE, Int.reduceNe, Int.reduceNeg , or_self, or_false, false_or , List.length_map, Bool.or_true, Bool.true_or, Bool.false_or, Bool.or_false, Int.cast_ofNat_Int, n0, n1, n2]
      refine ⟨1 + 1, by omega, by omega, ?_⟩
      exact ForgetTo.same' (Nat.zero_le _) (by simp [EWe, Env.look, Sp.d, wrap_i1, wrap_i2]) (by simp [Store.vs, bookV, hrec, recD, Sp.d])
  · refine AWP.runS (fun _ => false) tt_ok (fun _ h => nomatch h) (Nat.zero_le _) rfl ?_
    simp only [go_sem, Nat.reduceBEq, Nat.reduceEqDiff, Nat.reduceLT, Nat.reduceLeDiff, Nat.reduceAdd, Nat.reduceSub, Nat.reduceMul, reduceCtorEq, Int.reduceToNat, Int.reduceEq, Int.reduceLT, Int.reduceLE, Int.reduceNe, Int.reduceNeg , or_self, or_false, false_or , List.length_map, Bool.or_true, Bool.true_or, Bool.false_or, Bool.or_false, Int.cast_ofNat_Int, n0, n1, n2]
    refine c14.call rfl rfl rfl ?_
    simp only [go_sem, Nat.reduceBEq, Nat.reduceEqDiff, Nat.reduceLT, Nat.reduceLeDiff, Nat.reduceAdd, Nat.reduceSub, Nat.reduceMul, reduceCtorEq, Int.reduceToNat, Int.reduceEq, Int.reduceLT, Int.reduceLE, Int.reduceNe, Int.reduceNeg , or_self, or_false, false_or , List.length_map, Bool.or_true, Bool.true_or, Bool.false_or, Bool.or_false, Int.cast_ofNat_Int]
end Go.Aw
end

section
set_option maxRecDepth 100000
namespace Go.Aw
open Go Go.Proofs Go.Proofs.Try

theorem endsT_eq (x : Store) (m : Bool) (g : Nat) : (endsT m (spS x.n0 x.w0) (spS x.n1 x.w1) (spS x.n2 x.w2) (spS x.n3 x.w3)).col g = (endsT m (spS x.n0 x.w0) (spS x.n1 x.w1) (spS x.n2 x.w2) (spS x.n3 x.w3)).col g := rfl

set_option maxHeartbeats 4000000 in
theorem c9 (x : Store) (hx : x.Ok) (v : B2) (ha : Byte v.a) (hb : Byte v.b) : PC prog 9 [.d x.d, .d v.d] (.d (.bool true)) := by
  have hfit := (store_ok hx).fits
  have hacc := fun h : checkP x.book = 0 => checkP_acc h
  have hkind : ∀ m ∈ x.book.made, 0 ≤ m.kind ∧ m.kind < 2 := fun m hm => (ms_ok hx m hm).2.1
  refine PC.of_body tt_ok (fn := f9) (c := bodyOf f9) (rs := [.tmp 4]) rfl rfl rfl rfl rfl rfl ?_
  refine AWP.stepN 6 [(10, .d (.bool (belS x 2))), (9, .ref 4 2 0 2), (7, .d (.sl [(lS x 0).d, (lS x 1).d])), (6, .ptr 3 0), (5, .ptr 2 0), (3, .ptr 1 0)]
      [.cells x.vs, .cells [.d (.int .u8 v.a), .d (.int .u8 v.b)], .cells (bookV x.book), .cells [.d (.int .i64 x.takes.a), .d (.int .i64 x.takes.b), .d (.int .i64 x.takes.c), .d (.int .i64 x.takes.e)], .arr 2 false ((csS x v).map Sp.d)]
      (fun k => k == 41) tt_ok (fun _ h => nomatch h) (Nat.zero_le _) rfl ?_ (f9_6 x hx v ha hb)
  simp only [go_sem, Nat.reduceBEq, Nat.reduceEqDiff, Nat.reduceLT, Nat.reduceLeDiff, Nat.reduceAdd, Nat.reduceSub, Nat.reduceMul, reduceCtorEq, Int.reduceToNat, Int.reduceEq, Int.reduceLT, Int.reduceLE, Int.reduceNe, Int.reduceNeg , or_self, or_false, false_or , List.length_map, Bool.or_true, Bool.true_or, Bool.false_or, Bool.or_false, Int.cast_ofNat_Int, Store.d, B2.d]
  refine (c48 x hx).call rfl rfl rfl ?_
  simp only [go_sem, Nat.reduceBEq, Nat.reduceEqDiff, Nat.reduceLT, Nat.reduceLeDiff, Nat.reduceAdd, Nat.reduceSub, Nat.reduceMul, reduceCtorEq, Int.reduceToNat, Int.reduceEq, Int.reduceLT, Int.reduceLE, Int.reduceNe, Int.reduceNeg , or_self, or_false, false_or , List.length_map, Bool.or_true, Bool.true_or, Bool.false_or, Bool.or_false, Int.cast_ofNat_Int, Book.d, T4.d]
  refine (c49 x.book hfit).call rfl rfl rfl ?_
  simp only [go_sem, Nat.reduceBEq, Nat.reduceEqDiff, Nat.reduceLT, Nat.reduceLeDiff, Nat.reduceAdd, Nat.reduceSub, Nat.reduceMul, reduceCtorEq, Int.reduceToNat, Int.reduceEq, Int.reduceLT, Int.reduceLE, Int.reduceNe, Int.reduceNeg , or_self, or_false, false_or , List.length_map, Bool.or_true, Bool.true_or, Bool.false_or, Bool.or_false, Int.cast_ofNat_Int]
  refine (c17 x.book hfit hacc).call rfl rfl rfl ?_
  have z2 : ((2 : Nat) : Int) = 2 := rfl
  simp only [go_sem, Nat.reduceBEq, Nat.reduceEqDiff, Nat.reduceLT, Nat.reduceLeDiff, Nat.reduceAdd, Nat.reduceSub, Nat.reduceMul, reduceCtorEq, Int.reduceToNat, Int.reduceEq, Int.reduceLT, Int.reduceLE, Int.reduceNe, Int.reduceNeg , or_self, or_false, false_or , List.length_map, Bool.or_true, Bool.true_or, Bool.false_or, Bool.or_false, Int.cast_ofNat_Int, left_store hx, z2]
  have n0 : ((0 : Nat) : Int) = 0 := rfl
  have n1 : ((1 : Nat) : Int) = 1 := rfl
  have htw : (twoB [8 * x.s0, 8 * x.s1] x.es (spS x.n0 x.w0) (spS x.n1 x.w1) (spS x.n2 x.w2) (spS x.n3 x.w3) x.ms) = x.book := rfl
  have ce := fun m => c52 m [8 * x.s0, 8 * x.s1] x.es (spS x.n0 x.w0) (spS x.n1 x.w1) (spS x.n2 x.w2) (spS x.n3 x.w3) x.ms
  rw [htw] at ce
  refine ALoop.by (S := Nat) (fun g => [(11, .d (.int .i64 g)), (10, .d (.bool (belS x g))), (9, .ref 4 g 0 g), (7, .d (.sl [(lS x 0).d, (lS x 1).d])), (6, .ptr 3 0), (5, .ptr 2 0), (3, .ptr 1 0)])
    (fun g => [.cells x.vs, .cells [.d (.int .u8 v.a), .d (.int .u8 v.b)], .cells (bookV x.book), .cells [.d (.int .i64 x.takes.a), .d (.int .i64 x.takes.b), .d (.int .i64 x.takes.c), .d (.int .i64 x.takes.e)], .arr 2 false (((csS x v).take g).map Sp.d)]) (fun g => 2 - g) (fun g => g ≤ 2) 0 (Nat.zero_le _) (fun _ h => nomatch h) (Nat.zero_le _) ?_ ?_
  · exact ForgetTo.same' (Nat.zero_le _) (by simp [EWe, Env.look, belS]) (by simp [Store.vs, bookV])
  rintro g hg hn
  have hg3 : g = 0 ∨ g = 1 ∨ g = 2 := by omega
  rcases hg3 with rfl | rfl | rfl
  · have hl := nS_left hx (g := 0) (by omega)
    have hs := lS_small hx (g := 0) (by omega)
    have hn := hl
    obtain ⟨hl1, hl2⟩ := hl
    obtain ⟨ee1, ee2⟩ := lS_ends hx (g := 0) (by omega)
    refine AWP.runS (fun k => k == 41) tt_ok (fun _ h => nomatch h) (Nat.zero_le _) rfl ?_
    simp only [go_sem, Nat.reduceBEq, Nat.reduceEqDiff, Nat.reduceLT, Nat.reduceLeDiff, Nat.reduceAdd, Nat.reduceSub, Nat.reduceMul, reduceCtorEq, Int.reduceToNat, Int.reduceEq, Int.reduceLT, Int.reduceLE, Int.reduceNe, Int.reduceNeg , or_self, or_false, false_or , List.length_map, Bool.or_true, Bool.true_or, Bool.false_or, Bool.or_false, Int.cast_ofNat_Int, n0, n1, z2]
    refine (c50 x.book hfit 0 (by simp [store_len]) (by omega) 365 x.takes hkind).call rfl rfl rfl ?_
    rw [show restR x.book 0 365 (x.takes.col 0) = nS x 0 from rfl]
    simp only [go_sem, Nat.reduceBEq, Nat.reduceEqDiff, Nat.reduceLT, Nat.reduceLeDiff, Nat.reduceAdd, Nat.reduceSub, Nat.reduceMul, reduceCtorEq, Int.reduceToNat, Int.reduceEq, Int.reduceLT, Int.reduceLE, Int.reduceNe, Int.reduceNeg , or_self, or_false, false_or , List.length_map, Bool.or_true, Bool.true_or, Bool.false_or, Bool.or_false, Int.cast_ofNat_Int]
    refine ADrw.treeG (fun k => k == 41) tt_ok (by kernel_rfl) (fun k => if k = 4 ∨ k = 11 ∨ k = 12 ∨ k = 13 ∨ k = 17 ∨ k = 18 then some .L else some .S) (.ones (List.range 25) .done) (Nat.zero_le _) (fun _ h => nomatch h) rfl rfl (by kernel_rfl) ?_
    simp only [go_sem, Nat.reduceBEq, Nat.reduceEqDiff, Nat.reduceLT, Nat.reduceLeDiff, Nat.reduceAdd, Nat.reduceSub, Nat.reduceMul, reduceCtorEq, Int.reduceToNat, Int.reduceEq, Int.reduceLT, Int.reduceLE, Int.reduceNe, Int.reduceNeg , or_self, or_false, false_or , List.length_map, Bool.or_true, Bool.true_or, Bool.false_or, Bool.or_false, Int.cast_ofNat_Int, List.range, List.range.loop, Sp.d]
    refine (c51 (nS x 0) (lS x 0)).callS rfl rfl rfl rfl rfl rfl ?_
    simp only [go_sem, Nat.reduceBEq, Nat.reduceEqDiff, Nat.reduceLT, Nat.reduceLeDiff, Nat.reduceAdd, Nat.reduceSub, Nat.reduceMul, reduceCtorEq, Int.reduceToNat, Int.reduceEq, Int.reduceLT, Int.reduceLE, Int.reduceNe, Int.reduceNeg , or_self, or_false, false_or , List.length_map, Bool.or_true, Bool.true_or, Bool.false_or, Bool.or_false, Int.cast_ofNat_Int, hl1, hl2]
    refine (ce true).callS rfl rfl rfl rfl rfl rfl ?_
    simp only [go_sem, Nat.reduceBEq, Nat.reduceEqDiff, Nat.reduceLT, Nat.reduceLeDiff, Nat.reduceAdd, Nat.reduceSub, Nat.reduceMul, reduceCtorEq, Int.reduceToNat, Int.reduceEq, Int.reduceLT, Int.reduceLE, Int.reduceNe, Int.reduceNeg , or_self, or_false, false_or , List.length_map, Bool.or_true, Bool.true_or, Bool.false_or, Bool.or_false, Int.cast_ofNat_Int]
    refine (c50 x.book hfit 0 (by simp [store_len]) (by omega) 365 _ hkind).callS rfl rfl rfl rfl rfl rfl ?_
    rw [ee1]
    simp only [go_sem, Nat.reduceBEq, Nat.reduceEqDiff, Nat.reduceLT, Nat.reduceLeDiff, Nat.reduceAdd, Nat.reduceSub, Nat.reduceMul, reduceCtorEq, Int.reduceToNat, Int.reduceEq, Int.reduceLT, Int.reduceLE, Int.reduceNe, Int.reduceNeg , or_self, or_false, false_or , List.length_map, Bool.or_true, Bool.true_or, Bool.false_or, Bool.or_false, Int.cast_ofNat_Int]
    refine (ce false).callS rfl rfl rfl rfl rfl rfl ?_
    simp only [go_sem, Nat.reduceBEq, Nat.reduceEqDiff, Nat.reduceLT, Nat.reduceLeDiff, Nat.reduceAdd, Nat.reduceSub, Nat.reduceMul, reduceCtorEq, Int.reduceToNat, Int.reduceEq, Int.reduceLT, Int.reduceLE, Int.reduceNe, Int.reduceNeg , or_self, or_false, false_or , List.length_map, Bool.or_true, Bool.true_or, Bool.false_or, Bool.or_false, Int.cast_ofNat_Int]
    refine (c50 x.book hfit 0 (by simp [store_len]) (by omega) 365 _ hkind).callS rfl rfl rfl rfl rfl rfl ?_
    rw [ee2]
    simp only [go_sem, Nat.reduceBEq, Nat.reduceEqDiff, Nat.reduceLT, Nat.reduceLeDiff, Nat.reduceAdd, Nat.reduceSub, Nat.reduceMul, reduceCtorEq, Int.reduceToNat, Int.reduceEq, Int.reduceLT, Int.reduceLE, Int.reduceNe, Int.reduceNeg , or_self, or_false, false_or , List.length_map, Bool.or_true, Bool.true_or, Bool.false_or, Bool.or_false, Int.cast_ofNat_Int]
    refine (c24 _ _).callS rfl rfl rfl rfl rfl rfl ?_
    simp only [go_sem, Nat.reduceBEq, Nat.reduceEqDiff, Nat.reduceLT, Nat.reduceLeDiff, Nat.reduceAdd, Nat.reduceSub, Nat.reduceMul, reduceCtorEq, Int.reduceToNat, Int.reduceEq, Int.reduceLT, Int.reduceLE, Int.reduceNe, Int.reduceNeg , or_self, or_false, false_or , List.length_map, Bool.or_true, Bool.true_or, Bool.false_or, Bool.or_false, Int.cast_ofNat_Int, Sp.d, BEq.rfl]
    have hbs : belS x (0 + 1) = (belS x 0 || decide (nS x 0 < 0)) := by simp [belS]
    have hcs : (csS x v).take (0 + 1) = (csS x v).take 0 ++ [aboutS (nS x 0) v.a] := rfl
    have hl0 : ((csS x v).take 0).length = 0 := rfl
    cases hbg : belS x 0 <;> simp only [go_sem, Nat.reduceBEq, Nat.reduceEqDiff, Nat.reduceLT, Nat.reduceLeDiff, Nat.reduceAdd, Nat.reduceSub, Nat.reduceMul, reduceCtorEq, Int.reduceToNat, Int.reduceEq, Int.reduceLT, Int.reduceLE, Int.reduceNe, Int.reduceNeg , or_self, or_false, false_or , List.length_map, Bool.or_true, Bool.true_or, Bool.false_or, Bool.or_false, Int.cast_ofNat_Int]
    all_goals
      refine (c53 (nS x 0) v.a ha (by omega)).call rfl rfl rfl ?_
      rw [show (⟨max 0 (nS x 0 - v.a % 16), max 0 (nS x 0 + v.a / 16)⟩ : Sp) = aboutS (nS x 0) v.a from rfl]
      simp only [go_sem, Nat.reduceBEq, Nat.reduceEqDiff, Nat.reduceLT, Nat.reduceLeDiff, Nat.reduceAdd, Nat.reduceSub, Nat.reduceMul, reduceCtorEq, Int.reduceToNat, Int.reduceEq, Int.reduceLT, Int.reduceLE, Int.reduceNe, Int.reduceNeg , or_self, or_false, false_or , List.length_map, Bool.or_true, Bool.true_or, Bool.false_or, Bool.or_false, Int.cast_ofNat_Int, Sp.d, hl0]
      refine ⟨0 + 1, by omega, by omega, ?_⟩
      rw [hcs, hbs, hbg]
      exact ForgetTo.same' (Nat.zero_le _) (by simp [EWe, Env.look, wrap_i1, wrap_i2, Sp.d]) (by simp [Store.vs, bookV, Sp.d])

  · have hl := nS_left hx (g := 1) (by omega)
    have hs := lS_small hx (g := 1) (by omega)
    have hn := hl
    obtain ⟨hl1, hl2⟩ := hl
    obtain ⟨ee1, ee2⟩ := lS_ends hx (g := 1) (by omega)
    refine AWP.runS (fun k => k == 41) tt_ok (fun _ h => nomatch h) (Nat.zero_le _) rfl ?_
    simp only [go_sem, Nat.reduceBEq, Nat.reduceEqDiff, Nat.reduceLT, Nat.reduceLeDiff, Nat.reduceAdd, Nat.reduceSub, Nat.reduceMul, reduceCtorEq, Int.reduceToNat, Int.reduceEq, Int.reduceLT, Int.reduceLE, Int.reduceNe, Int.reduceNeg , or_self, or_false, false_or , List.length_map, Bool.or_true, Bool.true_or, Bool.false_or, Bool.or_false, Int.cast_ofNat_Int, n0, n1, z2]
    refine (c50 x.book hfit 1 (by simp [store_len]) (by omega) 365 x.takes hkind).call rfl rfl rfl ?_
    rw [show restR x.book 1 365 (x.takes.col 1) = nS x 1 from rfl]
    simp only [go_sem, Nat.reduceBEq, Nat.reduceEqDiff, Nat.reduceLT, Nat.reduceLeDiff, Nat.reduceAdd, Nat.reduceSub, Nat.reduceMul, reduceCtorEq, Int.reduceToNat, Int.reduceEq, Int.reduceLT, Int.reduceLE, Int.reduceNe, Int.reduceNeg , or_self, or_false, false_or , List.length_map, Bool.or_true, Bool.true_or, Bool.false_or, Bool.or_false, Int.cast_ofNat_Int]
    refine ADrw.treeG (fun k => k == 41) tt_ok (by kernel_rfl) (fun k => if k = 4 ∨ k = 11 ∨ k = 12 ∨ k = 13 ∨ k = 17 ∨ k = 18 then some .L else some .S) (.ones (List.range 25) .done) (Nat.zero_le _) (fun _ h => nomatch h) rfl rfl (by kernel_rfl) ?_
    simp only [go_sem, Nat.reduceBEq, Nat.reduceEqDiff, Nat.reduceLT, Nat.reduceLeDiff, Nat.reduceAdd, Nat.reduceSub, Nat.reduceMul, reduceCtorEq, Int.reduceToNat, Int.reduceEq, Int.reduceLT, Int.reduceLE, Int.reduceNe, Int.reduceNeg , or_self, or_false, false_or , List.length_map, Bool.or_true, Bool.true_or, Bool.false_or, Bool.or_false, Int.cast_ofNat_Int, List.range, List.range.loop, Sp.d]
    refine (c51 (nS x 1) (lS x 1)).callS rfl rfl rfl rfl rfl rfl ?_
    simp only [go_sem, Nat.reduceBEq, Nat.reduceEqDiff, Nat.reduceLT, Nat.reduceLeDiff, Nat.reduceAdd, Nat.reduceSub, Nat.reduceMul, reduceCtorEq, Int.reduceToNat, Int.reduceEq, Int.reduceLT, Int.reduceLE, Int.reduceNe, Int.reduceNeg , or_self, or_false, false_or , List.length_map, Bool.or_true, Bool.true_or, Bool.false_or, Bool.or_false, Int.cast_ofNat_Int, hl1, hl2]
    refine (ce true).callS rfl rfl rfl rfl rfl rfl ?_
    simp only [go_sem, Nat.reduceBEq, Nat.reduceEqDiff, Nat.reduceLT, Nat.reduceLeDiff, Nat.reduceAdd, Nat.reduceSub, Nat.reduceMul, reduceCtorEq, Int.reduceToNat, Int.reduceEq, Int.reduceLT, Int.reduceLE, Int.reduceNe, Int.reduceNeg , or_self, or_false, false_or , List.length_map, Bool.or_true, Bool.true_or, Bool.false_or, Bool.or_false, Int.cast_ofNat_Int]
    refine (c50 x.book hfit 1 (by simp [store_len]) (by omega) 365 _ hkind).callS rfl rfl rfl rfl rfl rfl ?_
    rw [ee1]
    simp only [go_sem, Nat.reduceBEq, Nat.reduceEqDiff, Nat.reduceLT, Nat.reduceLeDiff, Nat.reduceAdd, Nat.reduceSub, Nat.reduceMul, reduceCtorEq, Int.reduceToNat, Int.reduceEq, Int.reduceLT, Int.reduceLE, Int.reduceNe, Int.reduceNeg , or_self, or_false, false_or , List.length_map, Bool.or_true, Bool.true_or, Bool.false_or, Bool.or_false, Int.cast_ofNat_Int]
    refine (ce false).callS rfl rfl rfl rfl rfl rfl ?_
    simp only [go_sem, Nat.reduceBEq, Nat.reduceEqDiff, Nat.reduceLT, Nat.reduceLeDiff, Nat.reduceAdd, Nat.reduceSub, Nat.reduceMul, reduceCtorEq, Int.reduceToNat, Int.reduceEq, Int.reduceLT, Int.reduceLE, Int.reduceNe, Int.reduceNeg , or_self, or_false, false_or , List.length_map, Bool.or_true, Bool.true_or, Bool.false_or, Bool.or_false, Int.cast_ofNat_Int]
    refine (c50 x.book hfit 1 (by simp [store_len]) (by omega) 365 _ hkind).callS rfl rfl rfl rfl rfl rfl ?_
    rw [ee2]
    simp only [go_sem, Nat.reduceBEq, Nat.reduceEqDiff, Nat.reduceLT, Nat.reduceLeDiff, Nat.reduceAdd, Nat.reduceSub, Nat.reduceMul, reduceCtorEq, Int.reduceToNat, Int.reduceEq, Int.reduceLT, Int.reduceLE, Int.reduceNe, Int.reduceNeg , or_self, or_false, false_or , List.length_map, Bool.or_true, Bool.true_or, Bool.false_or, Bool.or_false, Int.cast_ofNat_Int]
    refine (c24 _ _).callS rfl rfl rfl rfl rfl rfl ?_
    simp only [go_sem, Nat.reduceBEq, Nat.reduceEqDiff, Nat.reduceLT, Nat.reduceLeDiff, Nat.reduceAdd, Nat.reduceSub, Nat.reduceMul, reduceCtorEq, Int.reduceToNat, Int.reduceEq, Int.reduceLT, Int.reduceLE, Int.reduceNe, Int.reduceNeg , or_self, or_false, false_or , List.length_map, Bool.or_true, Bool.true_or, Bool.false_or, Bool.or_false, Int.cast_ofNat_Int, Sp.d, BEq.rfl]
    have hbs : belS x (1 + 1) = (belS x 1 || decide (nS x 1 < 0)) := by simp [belS]
    have hcs : (csS x v).take (1 + 1) = (csS x v).take 1 ++ [aboutS (nS x 1) v.b] := rfl
    have hl0 : ((csS x v).take 1).length = 1 := rfl
    cases hbg : belS x 1 <;> simp only [go_sem, Nat.reduceBEq, Nat.reduceEqDiff, Nat.reduceLT, Nat.reduceLeDiff, Nat.reduceAdd, Nat.reduceSub, Nat.reduceMul, reduceCtorEq, Int.reduceToNat, Int.reduceEq, Int.reduceLT, Int.reduceLE, Int.reduceNe, Int.reduceNeg , or_self, or_false, false_or , List.length_map, Bool.or_true, Bool.true_or, Bool.false_or, Bool.or_false, Int.cast_ofNat_Int]
    all_goals
      refine (c53 (nS x 1) v.b hb (by omega)).call rfl rfl rfl ?_
      rw [show (⟨max 0 (nS x 1 - v.b % 16), max 0 (nS x 1 + v.b / 16)⟩ : Sp) = aboutS (nS x 1) v.b from rfl]
      simp only [go_sem, Nat.reduceBEq, Nat.reduceEqDiff, Nat.reduceLT, Nat.reduceLeDiff, Nat.reduceAdd, Nat.reduceSub, Nat.reduceMul, reduceCtorEq, Int.reduceToNat, Int.reduceEq, Int.reduceLT, Int.reduceLE, Int.reduceNe, Int.reduceNeg , or_self, or_false, false_or , List.length_map, Bool.or_true, Bool.true_or, Bool.false_or, Bool.or_false, Int.cast_ofNat_Int, Sp.d, hl0]
      refine ⟨1 + 1, by omega, by omega, ?_⟩
      rw [hcs, hbs, hbg]
      exact ForgetTo.same' (Nat.zero_le _) (by simp [EWe, Env.look, wrap_i1, wrap_i2, Sp.d]) (by simp [Store.vs, bookV, Sp.d])
  · refine AWP.runS (fun k => k == 41) tt_ok (fun _ h => nomatch h) (Nat.zero_le _) rfl ?_
    simp only [go_sem, Nat.reduceBEq, Nat.reduceEqDiff, Nat.reduceLT, Nat.reduceLeDiff, Nat.reduceAdd, Nat.reduceSub, Nat.reduceMul, reduceCtorEq, Int.reduceToNat, Int.reduceEq, Int.reduceLT, Int.reduceLE, Int.reduceNe, Int.reduceNeg , or_self, or_false, false_or , List.length_map, Bool.or_true, Bool.true_or, Bool.false_or, Bool.or_false, Int.cast_ofNat_Int, z2]
    exact ForgetTo.same' (Nat.zero_le _) (by simp [EWe, Env.look]) (by simp [Store.vs, bookV, csS])
end Go.Aw
end

section
set_option maxRecDepth 100000
namespace Go.Aw
open Go Go.Proofs

theorem has_b2 {f : Nat} {y : D} (h : HasT Try.prog (f + 2) 84 y) : ∃ v : B2, y = v.d ∧ Byte v.a ∧ Byte v.b := by
  unfold HasT at h
  rw [Try.underlying84] at h
  obtain ⟨l, rfl, h⟩ := h
  simp only [HasN] at h
  obtain ⟨y1, r1, rfl, h1, y2, r2, rfl, h2, rfl⟩ := h
  obtain ⟨n1, rfl, b1⟩ := has_u8 h1
  obtain ⟨n2, rfl, b2⟩ := has_u8 h2
  exact ⟨⟨n1, n2⟩, rfl, b1, b2⟩

theorem has_b3s {f : Nat} {y : D} (h : HasT Try.prog (f + 4) 85 y) : ∃ l : List B3, y = .sl (l.map B3.d) ∧ ∀ p ∈ l, p.Ok := by
  unfold HasT at h
  rw [Try.underlying85] at h
  obtain ⟨l, rfl, _, hl⟩ := h
  have hb3 : ∀ y, HasT Try.prog (f + 3) 157 y → ∃ s : {s : B3 // s.Ok}, y = s.1.d := by
    intro y h
    unfold HasT at h
    rw [Try.underlying157] at h
    obtain ⟨l, rfl, h⟩ := h
    simp only [HasN] at h
    obtain ⟨y1, r1, rfl, h1, y2, r2, rfl, h2, y3, r3, rfl, h3, rfl⟩ := h
    obtain ⟨n1, rfl, b1⟩ := has_u8 h1
    obtain ⟨n2, rfl, b2⟩ := has_u8 h2
    obtain ⟨n3, rfl, b3⟩ := has_u8 h3
    exact ⟨⟨⟨n1, n2, n3⟩, ⟨b1, b2, b3⟩⟩, rfl⟩
  obtain ⟨ss, rfl⟩ := has_list (enc := fun n : {n : B3 // n.Ok} => n.1.d) hb3 l hl
  refine ⟨ss.map Subtype.val, by simp, fun n hn => ?_⟩
  obtain ⟨x, _, rfl⟩ := List.mem_map.1 hn
  exact x.2

theorem has_store {f : Nat} {y : D} (h : HasT Try.prog (f + 6) 89 y) : ∃ x : Store, y = x.d ∧ x.Ok := by
  unfold HasT at h
  rw [Try.underlying89] at h
  obtain ⟨l, rfl, h⟩ := h
  simp only [HasFs] at h
  obtain ⟨y1, r1, rfl, h1, y2, r2, rfl, h2, y3, r3, rfl, h3, y4, r4, rfl, h4, rfl⟩ := h
  obtain ⟨v, rfl, v1, v2⟩ := has_b2 h1
  obtain ⟨es, rfl, he⟩ := has_b3s h2
  obtain ⟨ms, rfl, hm⟩ := has_b3s h4
  have pair : ∀ y, HasT Try.prog (f + 4) 86 y → ∃ a b : B2, y = .agg (dcells a.d ++ dcells b.d) ∧ (Byte a.a ∧ Byte a.b) ∧ (Byte b.a ∧ Byte b.b) := by
    intro y h
    unfold HasT at h
    rw [Try.underlying86] at h
    obtain ⟨l, rfl, h⟩ := h
    simp only [HasN] at h
    obtain ⟨y1, r1, rfl, h1, y2, r2, rfl, h2, rfl⟩ := h
    obtain ⟨a, rfl, a1⟩ := has_b2 h1
    obtain ⟨b, rfl, b1⟩ := has_b2 h2
    exact ⟨a, b, by simp, a1, b1⟩
  unfold HasT at h3
  rw [Try.underlying87] at h3
  obtain ⟨l, rfl, h⟩ := h3
  simp only [HasN] at h
  obtain ⟨z1, q1, rfl, g1, z2, q2, rfl, g2, rfl⟩ := h
  obtain ⟨a, b, rfl, ⟨a1, a2⟩, b1, b2⟩ := pair _ g1
  obtain ⟨c, e, rfl, ⟨c1, c2⟩, e1, e2⟩ := pair _ g2
  exact ⟨⟨v.a, v.b, es, a.a, a.b, b.a, b.b, c.a, c.b, e.a, e.b, ms⟩, rfl, ⟨v1, v2, a1, a2, b1, b2, c1, c2, e1, e2, he, hm⟩⟩
end Go.Aw
end
