/- told. amounts; odd; Odd. Told. Fix. Sorting by insertion; the comparison of Share. Share: the numbers. Share. What a book that Check lets through is. The document's examples. known. Arguments of the program's types. -/
import Derived.Test.YtglcghgokedbcaaL1
set_option linter.unusedSimpArgs false
set_option linter.unusedVariables false

section
namespace Go.Aw
open Go Go.Proofs.Try

structure O3 where
  a : Sp
  b : Sp
  c : Sp
deriving DecidableEq

def O3.cs (o : O3) : List D := [.int .i64 o.a.lo, .int .i64 o.a.hi, .int .i64 o.b.lo, .int .i64 o.b.hi, .int .i64 o.c.lo, .int .i64 o.c.hi]
def O3.d (o : O3) : D := .agg o.cs
@[go_sem] def O3.vs (o : O3) : List V := [.d (.int .i64 o.a.lo), .d (.int .i64 o.a.hi), .d (.int .i64 o.b.lo), .d (.int .i64 o.b.hi), .d (.int .i64 o.c.lo), .d (.int .i64 o.c.hi)]

def joinSp (ok : Bool) (s : Sp) (n : Int) : Sp := ⟨min (if ok then s.lo else n) n, max (if ok then s.hi else n) n⟩

def toldI (ok : Bool) (o : O3) (t : T3) : Nat → O3
  | 0 => o
  | 1 => ⟨joinSp ok o.a t.x, o.b, o.c⟩
  | 2 => ⟨joinSp ok o.a t.x, joinSp ok o.b t.y, o.c⟩
  | _ => ⟨joinSp ok o.a t.x, joinSp ok o.b t.y, joinSp ok o.c t.z⟩

def toldStep (c : Sp) (s : O3 × Bool) (p : T3 × Int) : O3 × Bool := if within c.lo c.hi [p.2] = true then (toldI s.2 s.1 p.1 3, true) else s

def O3.zero : O3 := ⟨⟨0, 0⟩, ⟨0, 0⟩, ⟨0, 0⟩⟩

def truL (a : Acct) : List (T3 × Int) := truF a a.kinds.toNat 0 ⟨0, 0, 0⟩ a.sum

def toldW (b : Book) (g : Nat) (c : Sp) : O3 × Bool := (truL (acctW b g 365)).foldl (toldStep c) (O3.zero, false)

@[go_sem] def toldH (b : Book) (c : Sp) (s : O3 × Bool) : Heap := [.cells (bookV b), .cells [.d (.int .i64 c.lo), .d (.int .i64 c.hi)], .cells s.1.vs, .cells [.d (.bool s.2)]]

theorem ForgetTo.same' {n0 : Nat} {E E' : Env} {H H' : Heap} (hn : n0 ≤ H.length) (he : EWe E E') (hH : H = H') : ForgetTo n0 E H E' H' := by
  subst hH
  exact ForgetTo.same hn he

theorem c73 (b : Book) (g : Nat) (c : Sp) (h : b.Acc g) (ha : (acctW b g 365).Ok) : PC prog 73 [.d b.d, .d (.int .i64 g), .d c.d] (.tup [.d (toldW b g c).1.d, .d (.bool (toldW b g c).2)]) := by
  refine PC.run (fun _ => false) tt_ok (fn := f73) (rs := [.cell 6 134, .cell 7 4]) rfl rfl rfl rfl rfl rfl rfl ?_
  simp only [go_sem, Nat.reduceBEq, Nat.reduceEqDiff, Nat.reduceLT, Nat.reduceLeDiff, Nat.reduceAdd, Nat.reduceSub, Nat.reduceMul, reduceCtorEq, Int.reduceToNat, Int.reduceEq, Int.reduceLT, Int.reduceLE, Int.reduceNe, Int.reduceNeg , or_self, or_false, false_or , List.length_map, Book.d, Sp.d]
  refine (c67 b g h).call rfl rfl rfl ?_
  simp only [go_sem, Nat.reduceBEq, Nat.reduceEqDiff, Nat.reduceLT, Nat.reduceLeDiff, Nat.reduceAdd, Nat.reduceSub, Nat.reduceMul, reduceCtorEq, Int.reduceToNat, Int.reduceEq, Int.reduceLT, Int.reduceLE, Int.reduceNe, Int.reduceNeg , or_self, or_false, false_or , List.length_map]
  refine ARng.iter (items := truItems (acctW b g 365)) (J := fun l Hc => ∃ pre rest, truL (acctW b g 365) = pre ++ rest ∧ l = rest.map truI ∧ Hc = toldH b c (pre.foldl (toldStep c) (O3.zero, false)))
    (Nat.zero_le _) (fun _ h => nomatch h) rfl (c91 _ ha) rfl rfl ?_ ?_ ?_ ?_ ?_
  · rintro l Hc ⟨pre, rest, _, _, rfl⟩
    simp [BBs, BB, VBs, VB, bookV, toldH, O3.vs]
  · exact ⟨[], _, rfl, rfl, rfl⟩
  · rintro Hc ⟨pre, rest, hp, hl, rfl⟩
    have hr : rest = [] := by simpa using hl.symm
    subst hr
    rw [List.append_nil] at hp
    rw [← hp]
    rw [show (truL (acctW b g 365)).foldl (toldStep c) (O3.zero, false) = toldW b g c from rfl]
    generalize toldW b g c = s
    simp only [go_sem, Nat.reduceBEq, Nat.reduceEqDiff, Nat.reduceLT, Nat.reduceLeDiff, Nat.reduceAdd, Nat.reduceSub, Nat.reduceMul, reduceCtorEq, Int.reduceToNat, Int.reduceEq, Int.reduceLT, Int.reduceLE, Int.reduceNe, Int.reduceNeg , or_self, or_false, false_or , List.length_map]
    refine ADrw.tree (fun _ => false) tt_ok (by kernel_rfl) (fun k => if k = 0 ∨ k = 1 then .L else if k = 2 ∨ k = 3 then .W else .S) (.ones [0] (.two 1 (.ones [2, 3] .done) 2 (.ones [1, 3] .done))) (by simp) (fun _ h => nomatch h) rfl rfl (by kernel_rfl) ?_
    simp only [go_sem, Nat.reduceBEq, Nat.reduceEqDiff, Nat.reduceLT, Nat.reduceLeDiff, Nat.reduceAdd, Nat.reduceSub, Nat.reduceMul, reduceCtorEq, Int.reduceToNat, Int.reduceEq, Int.reduceLT, Int.reduceLE, Int.reduceNe, Int.reduceNeg , or_self, or_false, false_or , List.length_map]
    simp [O3.d, O3.cs]
  · intro xs hxs
    obtain ⟨d, _, rfl⟩ := List.mem_map.1 hxs
    rfl
  · rintro L L' xs rest' Hc hxs ⟨pre, rest, hp, hl, rfl⟩
    cases rest with
    | nil => cases hl
    | cons p rest =>
      obtain ⟨rfl, rfl⟩ := List.cons.inj hl
      generalize hs : pre.foldl (toldStep c) (O3.zero, false) = s
      have next : ∀ s', toldStep c s p = s' → ∃ pre' rest'', truL (acctW b g 365) = pre' ++ rest'' ∧ rest.map truI = rest''.map truI ∧ toldH b c s' = toldH b c (pre'.foldl (toldStep c) (O3.zero, false)) := by
        rintro s' rfl
        exact ⟨pre ++ [p], rest, by rw [hp]; simp, rfl, by rw [List.foldl_append, hs]; rfl⟩
      refine AWP.run (fun _ => false) tt_ok (fun _ h => by cases h; exact Nat.lt_succ_self _) (by simp [toldH]) rfl ?_
      simp only [go_sem, Nat.reduceBEq, Nat.reduceEqDiff, Nat.reduceLT, Nat.reduceLeDiff, Nat.reduceAdd, Nat.reduceSub, Nat.reduceMul, reduceCtorEq, Int.reduceToNat, Int.reduceEq, Int.reduceLT, Int.reduceLE, Int.reduceNe, Int.reduceNeg , or_self, or_false, false_or , List.length_map, truI, T3.d]
      refine AWP.run (fun _ => false) tt_ok (fun _ h => by cases h; exact Nat.lt_succ_self _) (by simp [toldH]) rfl ?_
      simp only [go_sem, Nat.reduceBEq, Nat.reduceEqDiff, Nat.reduceLT, Nat.reduceLeDiff, Nat.reduceAdd, Nat.reduceSub, Nat.reduceMul, reduceCtorEq, Int.reduceToNat, Int.reduceEq, Int.reduceLT, Int.reduceLE, Int.reduceNe, Int.reduceNeg , or_self, or_false, false_or , List.length_map]
      refine (c57 c.lo c.hi [p.2] (by simp)).call rfl rfl rfl ?_
      simp only [go_sem, Nat.reduceBEq, Nat.reduceEqDiff, Nat.reduceLT, Nat.reduceLeDiff, Nat.reduceAdd, Nat.reduceSub, Nat.reduceMul, reduceCtorEq, Int.reduceToNat, Int.reduceEq, Int.reduceLT, Int.reduceLE, Int.reduceNe, Int.reduceNeg , or_self, or_false, false_or , List.length_map]
      refine Br_split (fun h1 => ?_) (fun h1 => ?_) <;> simp only [go_sem, Nat.reduceBEq, Nat.reduceEqDiff, Nat.reduceLT, Nat.reduceLeDiff, Nat.reduceAdd, Nat.reduceSub, Nat.reduceMul, reduceCtorEq, Int.reduceToNat, Int.reduceEq, Int.reduceLT, Int.reduceLE, Int.reduceNe, Int.reduceNeg , or_self, or_false, false_or , List.length_map, h1]
      · have hw : within c.lo c.hi [p.2] = false := by simpa using h1
        exact next s (by simp [toldStep, hw])
      · have hw : within c.lo c.hi [p.2] = true := by simpa using h1
        refine ALoop.by (S := Nat) (fun k => [(27, .d (.int .i64 k)), (26, .d (.agg [.int .i64 p.1.x, .int .i64 p.1.y, .int .i64 p.1.z])), (6, .ptr 2 0), (7, .ptr 3 0)])
          (fun k => [.cells (bookV b), .cells [.d (.int .i64 c.lo), .d (.int .i64 c.hi)], .cells (toldI s.2 s.1 p.1 k).vs, .cells [.d (.bool s.2)], L', .cells p.1.vs]) (fun k => 3 - k) (fun k => k ≤ 3) 0 (by simp) (fun _ h => by cases h; exact Nat.lt_succ_self _) (Nat.zero_le _) ?_ ?_
        · exact ForgetTo.same (by simp) (by simp [EWe, Env.look])
        · rintro k hk hn
          have hc : k = 0 ∨ k = 1 ∨ k = 2 ∨ k = 3 := by omega
          refine AWP.run (fun _ => false) tt_ok (fun _ h => by cases h; exact Nat.lt_succ_self _) hn rfl ?_
          simp only [go_sem, Nat.reduceBEq, Nat.reduceEqDiff, Nat.reduceLT, Nat.reduceLeDiff, Nat.reduceAdd, Nat.reduceSub, Nat.reduceMul, reduceCtorEq, Int.reduceToNat, Int.reduceEq, Int.reduceLT, Int.reduceLE, Int.reduceNe, Int.reduceNeg , or_self, or_false, false_or , List.length_map]
          rcases hc with rfl | rfl | rfl | rfl
          · simp only [go_sem, Nat.reduceBEq, Nat.reduceEqDiff, Nat.reduceLT, Nat.reduceLeDiff, Nat.reduceAdd, Nat.reduceSub, Nat.reduceMul, reduceCtorEq, Int.reduceToNat, Int.reduceEq, Int.reduceLT, Int.reduceLE, Int.reduceNe, Int.reduceNeg , or_self, or_false, false_or , List.length_map, Int.cast_ofNat_Int]
            refine Br_split (fun h2 => ?_) (fun h2 => ?_) <;> simp only [go_sem, Nat.reduceBEq, Nat.reduceEqDiff, Nat.reduceLT, Nat.reduceLeDiff, Nat.reduceAdd, Nat.reduceSub, Nat.reduceMul, reduceCtorEq, Int.reduceToNat, Int.reduceEq, Int.reduceLT, Int.reduceLE, Int.reduceNe, Int.reduceNeg , or_self, or_false, false_or , List.length_map, h2, Int.cast_ofNat_Int]
            · have hok : s.2 = false := by simpa using h2
              refine ADrw.walk (fun _ => false) tt_ok (by kernel_rfl) (fun k => if k = 4 ∨ k = 10 then .L else if k = 15 then .W else .S) (by simp) (fun _ h => by cases h; exact Nat.lt_succ_self _) rfl (by kernel_rfl) ?_
              simp only [go_sem, Nat.reduceBEq, Nat.reduceEqDiff, Nat.reduceLT, Nat.reduceLeDiff, Nat.reduceAdd, Nat.reduceSub, Nat.reduceMul, reduceCtorEq, Int.reduceToNat, Int.reduceEq, Int.reduceLT, Int.reduceLE, Int.reduceNe, Int.reduceNeg , or_self, or_false, false_or , List.length_map, Int.cast_ofNat_Int]
              exact ⟨1, by omega, by omega, ForgetTo.same' (by simp) (by simp [EWe, Env.look, w64 (n := 1) (by omega) (by omega)]) (by simp [toldI, joinSp, hok, O3.vs, bookV, T3.vs])⟩
            · have hok : s.2 = true := by simpa using h2
              refine ADrw.walk (fun _ => false) tt_ok (by kernel_rfl) (fun k => if k = 4 ∨ k = 10 then .L else if k = 15 then .W else .S) (by simp) (fun _ h => by cases h; exact Nat.lt_succ_self _) rfl (by kernel_rfl) ?_
              simp only [go_sem, Nat.reduceBEq, Nat.reduceEqDiff, Nat.reduceLT, Nat.reduceLeDiff, Nat.reduceAdd, Nat.reduceSub, Nat.reduceMul, reduceCtorEq, Int.reduceToNat, Int.reduceEq, Int.reduceLT, Int.reduceLE, Int.reduceNe, Int.reduceNeg , or_self, or_false, false_or , List.length_map, Int.cast_ofNat_Int]
              exact ⟨1, by omega, by omega, ForgetTo.same' (by simp) (by simp [EWe, Env.look, w64 (n := 1) (by omega) (by omega)]) (by simp [toldI, joinSp, hok, O3.vs, bookV, T3.vs])⟩

          · simp only [go_sem, Nat.reduceBEq, Nat.reduceEqDiff, Nat.reduceLT, Nat.reduceLeDiff, Nat.reduceAdd, Nat.reduceSub, Nat.reduceMul, reduceCtorEq, Int.reduceToNat, Int.reduceEq, Int.reduceLT, Int.reduceLE, Int.reduceNe, Int.reduceNeg , or_self, or_false, false_or , List.length_map, Int.cast_ofNat_Int]
            refine Br_split (fun h2 => ?_) (fun h2 => ?_) <;> simp only [go_sem, Nat.reduceBEq, Nat.reduceEqDiff, Nat.reduceLT, Nat.reduceLeDiff, Nat.reduceAdd, Nat.reduceSub, Nat.reduceMul, reduceCtorEq, Int.reduceToNat, Int.reduceEq, Int.reduceLT, Int.reduceLE, Int.reduceNe, Int.reduceNeg , or_self, or_false, false_or , List.length_map, h2, Int.cast_ofNat_Int]
            · have hok : s.2 = false := by simpa using h2
              refine ADrw.walk (fun _ => false) tt_ok (by kernel_rfl) (fun k => if k = 4 ∨ k = 10 then .L else if k = 15 then .W else .S) (by simp) (fun _ h => by cases h; exact Nat.lt_succ_self _) rfl (by kernel_rfl) ?_
              simp only [go_sem, Nat.reduceBEq, Nat.reduceEqDiff, Nat.reduceLT, Nat.reduceLeDiff, Nat.reduceAdd, Nat.reduceSub, Nat.reduceMul, reduceCtorEq, Int.reduceToNat, Int.reduceEq, Int.reduceLT, Int.reduceLE, Int.reduceNe, Int.reduceNeg , or_self, or_false, false_or , List.length_map, Int.cast_ofNat_Int]
              exact ⟨2, by omega, by omega, ForgetTo.same' (by simp) (by simp [EWe, Env.look, w64 (n := 2) (by omega) (by omega)]) (by simp [toldI, joinSp, hok, O3.vs, bookV, T3.vs])⟩
            · have hok : s.2 = true := by simpa using h2
              refine ADrw.walk (fun _ => false) tt_ok (by kernel_rfl) (fun k => if k = 4 ∨ k = 10 then .L else if k = 15 then .W else .S) (by simp) (fun _ h => by cases h; exact Nat.lt_succ_self _) rfl (by kernel_rfl) ?_
              simp only [go_sem, Nat.reduceBEq, Nat.reduceEqDiff, Nat.reduceLT, Nat.reduceLeDiff, Nat.reduceAdd, Nat.reduceSub, Nat.reduceMul, reduceCtorEq, Int.reduceToNat, Int.reduceEq, Int.reduceLT, Int.reduceLE, Int.reduceNe, Int.reduceNeg , or_self, or_false, false_or , List.length_map, Int.cast_ofNat_Int]
              exact ⟨2, by omega, by omega, ForgetTo.same' (by simp) (by simp [EWe, Env.look, w64 (n := 2) (by omega) (by omega)]) (by simp [toldI, joinSp, hok, O3.vs, bookV, T3.vs])⟩

          · simp only [go_sem, Nat.reduceBEq, Nat.reduceEqDiff, Nat.reduceLT, Nat.reduceLeDiff, Nat.reduceAdd, Nat.reduceSub, Nat.reduceMul, reduceCtorEq, Int.reduceToNat, Int.reduceEq, Int.reduceLT, Int.reduceLE, Int.reduceNe, Int.reduceNeg , or_self, or_false, false_or , List.length_map, Int.cast_ofNat_Int]
            refine Br_split (fun h2 => ?_) (fun h2 => ?_) <;> simp only [go_sem, Nat.reduceBEq, Nat.reduceEqDiff, Nat.reduceLT, Nat.reduceLeDiff, Nat.reduceAdd, Nat.reduceSub, Nat.reduceMul, reduceCtorEq, Int.reduceToNat, Int.reduceEq, Int.reduceLT, Int.reduceLE, Int.reduceNe, Int.reduceNeg , or_self, or_false, false_or , List.length_map, h2, Int.cast_ofNat_Int]
            · have hok : s.2 = false := by simpa using h2
              refine ADrw.walk (fun _ => false) tt_ok (by kernel_rfl) (fun k => if k = 4 ∨ k = 10 then .L else if k = 15 then .W else .S) (by simp) (fun _ h => by cases h; exact Nat.lt_succ_self _) rfl (by kernel_rfl) ?_
              simp only [go_sem, Nat.reduceBEq, Nat.reduceEqDiff, Nat.reduceLT, Nat.reduceLeDiff, Nat.reduceAdd, Nat.reduceSub, Nat.reduceMul, reduceCtorEq, Int.reduceToNat, Int.reduceEq, Int.reduceLT, Int.reduceLE, Int.reduceNe, Int.reduceNeg , or_self, or_false, false_or , List.length_map, Int.cast_ofNat_Int]
              exact ⟨3, by omega, by omega, ForgetTo.same' (by simp) (by simp [EWe, Env.look, w64 (n := 3) (by omega) (by omega)]) (by simp [toldI, joinSp, hok, O3.vs, bookV, T3.vs])⟩
            · have hok : s.2 = true := by simpa using h2
              refine ADrw.walk (fun _ => false) tt_ok (by kernel_rfl) (fun k => if k = 4 ∨ k = 10 then .L else if k = 15 then .W else .S) (by simp) (fun _ h => by cases h; exact Nat.lt_succ_self _) rfl (by kernel_rfl) ?_
              simp only [go_sem, Nat.reduceBEq, Nat.reduceEqDiff, Nat.reduceLT, Nat.reduceLeDiff, Nat.reduceAdd, Nat.reduceSub, Nat.reduceMul, reduceCtorEq, Int.reduceToNat, Int.reduceEq, Int.reduceLT, Int.reduceLE, Int.reduceNe, Int.reduceNeg , or_self, or_false, false_or , List.length_map, Int.cast_ofNat_Int]
              exact ⟨3, by omega, by omega, ForgetTo.same' (by simp) (by simp [EWe, Env.look, w64 (n := 3) (by omega) (by omega)]) (by simp [toldI, joinSp, hok, O3.vs, bookV, T3.vs])⟩
          · simp only [go_sem, Nat.reduceBEq, Nat.reduceEqDiff, Nat.reduceLT, Nat.reduceLeDiff, Nat.reduceAdd, Nat.reduceSub, Nat.reduceMul, reduceCtorEq, Int.reduceToNat, Int.reduceEq, Int.reduceLT, Int.reduceLE, Int.reduceNe, Int.reduceNeg , or_self, or_false, false_or , List.length_map, Int.cast_ofNat_Int]
            exact next (toldI s.2 s.1 p.1 3, true) (by simp [toldStep, hw])
end Go.Aw
end

section
namespace Go.Aw
open Go Go.Proofs.Try

def amtCan (y : Ent) : Sp := if y.amount < 0 then ⟨-1000, -1⟩ else ⟨1, 1000⟩

def amtOf (y : Ent) (c : Sp) (left : Int) : Sp := ⟨max (amtCan y).lo (wr (c.lo - wr (left - y.amount))), min (amtCan y).hi (wr (c.hi - wr (left - y.amount)))⟩

def amtStep (y : Ent) (c : Sp) (s : Sp × Bool) (p : T3 × Int) : Sp × Bool :=
  if (amtOf y c p.2).lo > (amtOf y c p.2).hi then s else (⟨min (if s.2 then s.1.lo else (amtOf y c p.2).lo) (amtOf y c p.2).lo, max (if s.2 then s.1.hi else (amtOf y c p.2).hi) (amtOf y c p.2).hi⟩, true)

def amtW (b : Book) (y : Ent) (c : Sp) : Sp × Bool := (truL (acctW b y.goods.toNat 365)).foldl (amtStep y c) (⟨0, 0⟩, false)

@[go_sem] def amtH (b : Book) (y : Ent) (c : Sp) (s : Sp × Bool) : Heap := [.cells (bookV b), .cells [.d (.int .i64 y.day), .d (.int .i64 y.goods), .d (.int .i64 y.amount)], .cells [.d (.int .i64 c.lo), .d (.int .i64 c.hi)], .cells [.d (.int .i64 s.1.lo), .d (.int .i64 s.1.hi)], .cells [.d (.bool s.2)], .cells [.d (.int .i64 (amtCan y).lo), .d (.int .i64 (amtCan y).hi)]]

theorem c75 (b : Book) (y : Ent) (c : Sp) (h : b.Acc y.goods.toNat) (h0 : 0 ≤ y.goods) (ha : (acctW b y.goods.toNat 365).Ok) : PC prog 75 [.d b.d, .d y.d, .d c.d] (.tup [.d (amtW b y c).1.d, .d (.bool (amtW b y c).2)]) := by
  have hg : ((y.goods.toNat : Nat) : Int) = y.goods := Int.toNat_of_nonneg h0
  refine PC.run (fun _ => false) tt_ok (fn := f75) (rs := [.cell 6 40, .cell 7 4]) rfl rfl rfl rfl rfl rfl rfl ?_
  simp only [go_sem, Nat.reduceBEq, Nat.reduceEqDiff, Nat.reduceLT, Nat.reduceLeDiff, Nat.reduceAdd, Nat.reduceSub, Nat.reduceMul, reduceCtorEq, Int.reduceToNat, Int.reduceEq, Int.reduceLT, Int.reduceLE, Int.reduceNe, Int.reduceNeg , or_self, or_false, false_or , List.length_map, Book.d, Ent.d, Sp.d]
  have rest : ∀ (E0 : Env) (lo hi : Int), lo = (amtCan y).lo → hi = (amtCan y).hi → True := fun _ _ _ _ _ => trivial
  have c67' := c67 b y.goods.toNat h
  rw [hg] at c67'
  refine Br_split (fun h1 => ?_) (fun h1 => ?_) <;> simp only [go_sem, Nat.reduceBEq, Nat.reduceEqDiff, Nat.reduceLT, Nat.reduceLeDiff, Nat.reduceAdd, Nat.reduceSub, Nat.reduceMul, reduceCtorEq, Int.reduceToNat, Int.reduceEq, Int.reduceLT, Int.reduceLE, Int.reduceNe, Int.reduceNeg , or_self, or_false, false_or , List.length_map, h1]
  · have h1' : y.amount<0 := by simpa using h1
    have hcl : (amtCan y).lo = (-1000) ∧ (amtCan y).hi = (-1) := by simp only [amtCan, h1', if_true, if_false, and_self]
    refine c67'.call rfl rfl rfl ?_
    simp only [go_sem, Nat.reduceBEq, Nat.reduceEqDiff, Nat.reduceLT, Nat.reduceLeDiff, Nat.reduceAdd, Nat.reduceSub, Nat.reduceMul, reduceCtorEq, Int.reduceToNat, Int.reduceEq, Int.reduceLT, Int.reduceLE, Int.reduceNe, Int.reduceNeg , or_self, or_false, false_or , List.length_map]
    refine ARng.iter (items := truItems (acctW b y.goods.toNat 365)) (J := fun l Hc => ∃ pre rest, truL (acctW b y.goods.toNat 365) = pre ++ rest ∧ l = rest.map truI ∧ Hc = amtH b y c (pre.foldl (amtStep y c) (⟨0, 0⟩, false)))
      (Nat.zero_le _) (fun _ h => nomatch h) rfl (c91 _ ha) rfl rfl ?_ ?_ ?_ ?_ ?_
    · rintro l Hc ⟨pre, rest, _, _, rfl⟩
      simp [BBs, BB, VBs, VB, bookV, amtH]
    · exact ⟨[], _, rfl, rfl, by simp [amtH, bookV, hcl]⟩
    · rintro Hc ⟨pre, rest, hp, hl, rfl⟩
      have hr : rest = [] := by simpa using hl.symm
      subst hr
      rw [List.append_nil] at hp
      rw [← hp]
      rw [show (truL (acctW b y.goods.toNat 365)).foldl (amtStep y c) (⟨0, 0⟩, false) = amtW b y c from rfl]
      generalize amtW b y c = s
      simp only [go_sem, Nat.reduceBEq, Nat.reduceEqDiff, Nat.reduceLT, Nat.reduceLeDiff, Nat.reduceAdd, Nat.reduceSub, Nat.reduceMul, reduceCtorEq, Int.reduceToNat, Int.reduceEq, Int.reduceLT, Int.reduceLE, Int.reduceNe, Int.reduceNeg , or_self, or_false, false_or , List.length_map]
      refine ADrw.tree (fun _ => false) tt_ok (by kernel_rfl) (fun k => if k = 0 ∨ k = 1 then .L else if k = 2 ∨ k = 3 then .W else .S) (.ones [0] (.two 1 (.ones [2, 3] .done) 2 (.ones [1, 3] .done))) (by simp) (fun _ h => nomatch h) rfl rfl (by kernel_rfl) ?_
      simp only [go_sem, Nat.reduceBEq, Nat.reduceEqDiff, Nat.reduceLT, Nat.reduceLeDiff, Nat.reduceAdd, Nat.reduceSub, Nat.reduceMul, reduceCtorEq, Int.reduceToNat, Int.reduceEq, Int.reduceLT, Int.reduceLE, Int.reduceNe, Int.reduceNeg , or_self, or_false, false_or , List.length_map]
    · intro xs hxs
      obtain ⟨d, _, rfl⟩ := List.mem_map.1 hxs
      rfl
    · rintro L L' xs rest' Hc hxs ⟨pre, rest, hp, hl, rfl⟩
      cases rest with
      | nil => cases hl
      | cons p rest =>
        obtain ⟨rfl, rfl⟩ := List.cons.inj hl
        generalize hs : pre.foldl (amtStep y c) (⟨0, 0⟩, false) = s
        have next : ∀ s', amtStep y c s p = s' → ∃ pre' rest'', truL (acctW b y.goods.toNat 365) = pre' ++ rest'' ∧ rest.map truI = rest''.map truI ∧ amtH b y c s' = amtH b y c (pre'.foldl (amtStep y c) (⟨0, 0⟩, false)) := by
          rintro s' rfl
          exact ⟨pre ++ [p], rest, by rw [hp]; simp, rfl, by rw [List.foldl_append, hs]; rfl⟩
        refine AWP.run (fun _ => false) tt_ok (fun _ h => by cases h; exact Nat.lt_succ_self _) (by simp [amtH]) rfl ?_
        simp only [go_sem, Nat.reduceBEq, Nat.reduceEqDiff, Nat.reduceLT, Nat.reduceLeDiff, Nat.reduceAdd, Nat.reduceSub, Nat.reduceMul, reduceCtorEq, Int.reduceToNat, Int.reduceEq, Int.reduceLT, Int.reduceLE, Int.reduceNe, Int.reduceNeg , or_self, or_false, false_or , List.length_map, truI, T3.d]
        refine AWP.run (fun _ => false) tt_ok (fun _ h => by cases h; exact Nat.lt_succ_self _) (by simp [amtH]) rfl ?_
        simp only [go_sem, Nat.reduceBEq, Nat.reduceEqDiff, Nat.reduceLT, Nat.reduceLeDiff, Nat.reduceAdd, Nat.reduceSub, Nat.reduceMul, reduceCtorEq, Int.reduceToNat, Int.reduceEq, Int.reduceLT, Int.reduceLE, Int.reduceNe, Int.reduceNeg , or_self, or_false, false_or , List.length_map]
        refine Br_split (fun h2 => ?_) (fun h2 => ?_) <;> simp only [go_sem, Nat.reduceBEq, Nat.reduceEqDiff, Nat.reduceLT, Nat.reduceLeDiff, Nat.reduceAdd, Nat.reduceSub, Nat.reduceMul, reduceCtorEq, Int.reduceToNat, Int.reduceEq, Int.reduceLT, Int.reduceLE, Int.reduceNe, Int.reduceNeg , or_self, or_false, false_or , List.length_map, h2]
        · have hgt : (amtOf y c p.2).lo > (amtOf y c p.2).hi := by simpa [amtOf] using h2
          exact next s (by simp [amtStep, hgt])
        · have hgt : ¬ (amtOf y c p.2).lo > (amtOf y c p.2).hi := by simpa [amtOf] using h2
          refine Br_split (fun h3 => ?_) (fun h3 => ?_) <;> simp only [go_sem, Nat.reduceBEq, Nat.reduceEqDiff, Nat.reduceLT, Nat.reduceLeDiff, Nat.reduceAdd, Nat.reduceSub, Nat.reduceMul, reduceCtorEq, Int.reduceToNat, Int.reduceEq, Int.reduceLT, Int.reduceLE, Int.reduceNe, Int.reduceNeg , or_self, or_false, false_or , List.length_map, h3]
          · have hok : s.2 = false := by simpa using h3
            have hn := next _ (by rw [amtStep, if_neg hgt])
            rw [hok] at hn
            simp only [Bool.false_eq_true, if_false] at hn
            exact hn
          · have hok : s.2 = true := by simpa using h3
            have hn := next _ (by rw [amtStep, if_neg hgt])
            rw [hok] at hn
            simp only [if_true] at hn
            exact hn

  · have h1' : ¬y.amount<0 := by simpa using h1
    have hcl : (amtCan y).lo = 1 ∧ (amtCan y).hi = 1000 := by simp only [amtCan, h1', if_true, if_false, and_self]
    refine c67'.call rfl rfl rfl ?_
    simp only [go_sem, Nat.reduceBEq, Nat.reduceEqDiff, Nat.reduceLT, Nat.reduceLeDiff, Nat.reduceAdd, Nat.reduceSub, Nat.reduceMul, reduceCtorEq, Int.reduceToNat, Int.reduceEq, Int.reduceLT, Int.reduceLE, Int.reduceNe, Int.reduceNeg , or_self, or_false, false_or , List.length_map]
    refine ARng.iter (items := truItems (acctW b y.goods.toNat 365)) (J := fun l Hc => ∃ pre rest, truL (acctW b y.goods.toNat 365) = pre ++ rest ∧ l = rest.map truI ∧ Hc = amtH b y c (pre.foldl (amtStep y c) (⟨0, 0⟩, false)))
      (Nat.zero_le _) (fun _ h => nomatch h) rfl (c91 _ ha) rfl rfl ?_ ?_ ?_ ?_ ?_
    · rintro l Hc ⟨pre, rest, _, _, rfl⟩
      simp [BBs, BB, VBs, VB, bookV, amtH]
    · exact ⟨[], _, rfl, rfl, by simp [amtH, bookV, hcl]⟩
    · rintro Hc ⟨pre, rest, hp, hl, rfl⟩
      have hr : rest = [] := by simpa using hl.symm
      subst hr
      rw [List.append_nil] at hp
      rw [← hp]
      rw [show (truL (acctW b y.goods.toNat 365)).foldl (amtStep y c) (⟨0, 0⟩, false) = amtW b y c from rfl]
      generalize amtW b y c = s
      simp only [go_sem, Nat.reduceBEq, Nat.reduceEqDiff, Nat.reduceLT, Nat.reduceLeDiff, Nat.reduceAdd, Nat.reduceSub, Nat.reduceMul, reduceCtorEq, Int.reduceToNat, Int.reduceEq, Int.reduceLT, Int.reduceLE, Int.reduceNe, Int.reduceNeg , or_self, or_false, false_or , List.length_map]
      refine ADrw.tree (fun _ => false) tt_ok (by kernel_rfl) (fun k => if k = 0 ∨ k = 1 then .L else if k = 2 ∨ k = 3 then .W else .S) (.ones [0] (.two 1 (.ones [2, 3] .done) 2 (.ones [1, 3] .done))) (by simp) (fun _ h => nomatch h) rfl rfl (by kernel_rfl) ?_
      simp only [go_sem, Nat.reduceBEq, Nat.reduceEqDiff, Nat.reduceLT, Nat.reduceLeDiff, Nat.reduceAdd, Nat.reduceSub, Nat.reduceMul, reduceCtorEq, Int.reduceToNat, Int.reduceEq, Int.reduceLT, Int.reduceLE, Int.reduceNe, Int.reduceNeg , or_self, or_false, false_or , List.length_map]
    · intro xs hxs
      obtain ⟨d, _, rfl⟩ := List.mem_map.1 hxs
      rfl
    · rintro L L' xs rest' Hc hxs ⟨pre, rest, hp, hl, rfl⟩
      cases rest with
      | nil => cases hl
      | cons p rest =>
        obtain ⟨rfl, rfl⟩ := List.cons.inj hl
        generalize hs : pre.foldl (amtStep y c) (⟨0, 0⟩, false) = s
        have next : ∀ s', amtStep y c s p = s' → ∃ pre' rest'', truL (acctW b y.goods.toNat 365) = pre' ++ rest'' ∧ rest.map truI = rest''.map truI ∧ amtH b y c s' = amtH b y c (pre'.foldl (amtStep y c) (⟨0, 0⟩, false)) := by
          rintro s' rfl
          exact ⟨pre ++ [p], rest, by rw [hp]; simp, rfl, by rw [List.foldl_append, hs]; rfl⟩
        refine AWP.run (fun _ => false) tt_ok (fun _ h => by cases h; exact Nat.lt_succ_self _) (by simp [amtH]) rfl ?_
        simp only [go_sem, Nat.reduceBEq, Nat.reduceEqDiff, Nat.reduceLT, Nat.reduceLeDiff, Nat.reduceAdd, Nat.reduceSub, Nat.reduceMul, reduceCtorEq, Int.reduceToNat, Int.reduceEq, Int.reduceLT, Int.reduceLE, Int.reduceNe, Int.reduceNeg , or_self, or_false, false_or , List.length_map, truI, T3.d]
        refine AWP.run (fun _ => false) tt_ok (fun _ h => by cases h; exact Nat.lt_succ_self _) (by simp [amtH]) rfl ?_
        simp only [go_sem, Nat.reduceBEq, Nat.reduceEqDiff, Nat.reduceLT, Nat.reduceLeDiff, Nat.reduceAdd, Nat.reduceSub, Nat.reduceMul, reduceCtorEq, Int.reduceToNat, Int.reduceEq, Int.reduceLT, Int.reduceLE, Int.reduceNe, Int.reduceNeg , or_self, or_false, false_or , List.length_map]
        refine Br_split (fun h2 => ?_) (fun h2 => ?_) <;> simp only [go_sem, Nat.reduceBEq, Nat.reduceEqDiff, Nat.reduceLT, Nat.reduceLeDiff, Nat.reduceAdd, Nat.reduceSub, Nat.reduceMul, reduceCtorEq, Int.reduceToNat, Int.reduceEq, Int.reduceLT, Int.reduceLE, Int.reduceNe, Int.reduceNeg , or_self, or_false, false_or , List.length_map, h2]
        · have hgt : (amtOf y c p.2).lo > (amtOf y c p.2).hi := by simpa [amtOf] using h2
          exact next s (by simp [amtStep, hgt])
        · have hgt : ¬ (amtOf y c p.2).lo > (amtOf y c p.2).hi := by simpa [amtOf] using h2
          refine Br_split (fun h3 => ?_) (fun h3 => ?_) <;> simp only [go_sem, Nat.reduceBEq, Nat.reduceEqDiff, Nat.reduceLT, Nat.reduceLeDiff, Nat.reduceAdd, Nat.reduceSub, Nat.reduceMul, reduceCtorEq, Int.reduceToNat, Int.reduceEq, Int.reduceLT, Int.reduceLE, Int.reduceNe, Int.reduceNeg , or_self, or_false, false_or , List.length_map, h3]
          · have hok : s.2 = false := by simpa using h3
            have hn := next _ (by rw [amtStep, if_neg hgt])
            rw [hok] at hn
            simp only [Bool.false_eq_true, if_false] at hn
            exact hn
          · have hok : s.2 = true := by simpa using h3
            have hn := next _ (by rw [amtStep, if_neg hgt])
            rw [hok] at hn
            simp only [if_true] at hn
            exact hn

/-- Nothing that the account leans on is missing. -/
structure Book.Good (b : Book) : Prop where
  acc : ∀ g, g < b.stock.length → b.Acc g
  ok : ∀ g, g < b.stock.length → (acctW b g 365).Ok

def oddI (b : Book) (cs : List Sp) : List Int := (cs.mapIdx fun g c => (g, (toldW b g c).2)).flatMap fun p => if p.2 = true then [] else [(p.1 : Int)]

theorem oddI_succ (b : Book) {cs : List Sp} {i : Nat} (h : i < cs.length) : oddI b (cs.take (i + 1)) = oddI b (cs.take i) ++ (if (toldW b i cs[i]).2 = true then [] else [(i : Int)]) := by
  unfold oddI
  rw [mapIdx_take_succ _ h, List.flatMap_append]
  simp

theorem oddI_len (b : Book) {cs : List Sp} : ∀ i, i ≤ cs.length → (oddI b (cs.take i)).length ≤ i
  | 0, _ => by simp [oddI]
  | i + 1, h => by
    rw [oddI_succ b (by omega), List.length_append]
    have := oddI_len b (cs := cs) i (by omega)
    split <;> simp <;> omega

theorem c72 (b : Book) (cs : List Sp) (hb : b.Fits) (hg : b.Good) (hl : cs.length = b.stock.length) : PC prog 72 [.d b.d, .d (.sl (cs.map Sp.d))] (.d (.sl ((oddI b cs).map (.int .i64)))) := by
  have hst := hb.stock
  refine PC.run (fun k => k == 4) tt_ok (fn := f72) (rs := [.tmp 4]) rfl rfl rfl rfl rfl rfl rfl ?_
  simp only [go_sem, Nat.reduceBEq, Nat.reduceEqDiff, Nat.reduceLT, Nat.reduceLeDiff, Nat.reduceAdd, Nat.reduceSub, Nat.reduceMul, reduceCtorEq, Int.reduceToNat, Int.reduceEq, Int.reduceLT, Int.reduceLE, Int.reduceNe, Int.reduceNeg , or_self, or_false, false_or , List.length_map, Book.d]
  refine ALoop.by (S := Nat) (fun i => [(11, .d (.int .i64 i)), (10, .d (.int .i64 cs.length)), (9, .d (.sl (cs.map Sp.d))), (4, .ref 1 (oddI b (cs.take i)).length 0 (oddI b (cs.take i)).length), (2, .ptr 0 0)])
    (fun i => [.cells (bookV b), .arr 1 (oddI b (cs.take i)).isEmpty ((oddI b (cs.take i)).map (.int .i64))]) (fun i => cs.length - i) (fun i => i ≤ cs.length) 0 (by simp) (fun _ h => nomatch h) (Nat.zero_le _) ?_ ?_
  · exact ForgetTo.same' (by simp) (by simp [EWe, Env.look, oddI]) (by simp [bookV, oddI])
  · rintro i hi hn
    have hlen := oddI_len b (cs := cs) i hi
    refine AWP.run (fun k => k == 4) tt_ok (fun _ h => nomatch h) (by simp) rfl ?_
    simp only [go_sem, Nat.reduceBEq, Nat.reduceEqDiff, Nat.reduceLT, Nat.reduceLeDiff, Nat.reduceAdd, Nat.reduceSub, Nat.reduceMul, reduceCtorEq, Int.reduceToNat, Int.reduceEq, Int.reduceLT, Int.reduceLE, Int.reduceNe, Int.reduceNeg , or_self, or_false, false_or , List.length_map]
    refine Br_split (fun hd => ?_) (fun hd => ?_) <;> simp only [go_sem, Nat.reduceBEq, Nat.reduceEqDiff, Nat.reduceLT, Nat.reduceLeDiff, Nat.reduceAdd, Nat.reduceSub, Nat.reduceMul, reduceCtorEq, Int.reduceToNat, Int.reduceEq, Int.reduceLT, Int.reduceLE, Int.reduceNe, Int.reduceNeg , or_self, or_false, false_or , List.length_map, hd]
    · have hlt : i < cs.length := by simpa using hd
      have hle : (oddI b (cs.take i)).length + 1 ≤ 4294967296 := by omega
      simp only [go_sem, Nat.reduceBEq, Nat.reduceEqDiff, Nat.reduceLT, Nat.reduceLeDiff, Nat.reduceAdd, Nat.reduceSub, Nat.reduceMul, reduceCtorEq, Int.reduceToNat, Int.reduceEq, Int.reduceLT, Int.reduceLE, Int.reduceNe, Int.reduceNeg , or_self, or_false, false_or , List.length_map, idx_nat, List.getElem?_map, List.getElem?_eq_getElem hlt, Sp.d]
      refine (c73 b i cs[i] (hg.acc i (by omega)) (hg.ok i (by omega))).call rfl rfl rfl ?_
      simp only [go_sem, Nat.reduceBEq, Nat.reduceEqDiff, Nat.reduceLT, Nat.reduceLeDiff, Nat.reduceAdd, Nat.reduceSub, Nat.reduceMul, reduceCtorEq, Int.reduceToNat, Int.reduceEq, Int.reduceLT, Int.reduceLE, Int.reduceNe, Int.reduceNeg , or_self, or_false, false_or , List.length_map, O3.d, O3.cs]
      refine Br_split (fun h1 => ?_) (fun h1 => ?_) <;> simp only [go_sem, Nat.reduceBEq, Nat.reduceEqDiff, Nat.reduceLT, Nat.reduceLeDiff, Nat.reduceAdd, Nat.reduceSub, Nat.reduceMul, reduceCtorEq, Int.reduceToNat, Int.reduceEq, Int.reduceLT, Int.reduceLE, Int.reduceNe, Int.reduceNeg , or_self, or_false, false_or , List.length_map, h1, hle]
      · have h1' : (toldW b i cs[i]).2 = false := by simpa using h1
        refine ⟨i + 1, hlt, by omega, ?_⟩
        rw [oddI_succ b hlt, h1']
        simp [ForgetTo, EW, VW, BBq, BBs, BB, VBs, VB, Env.look, pubV, bookV, w64 (n := (i : Int) + 1) (by omega) (by omega)]
      · have h1' : (toldW b i cs[i]).2 = true := by simpa using h1
        refine ⟨i + 1, hlt, by omega, ?_⟩
        rw [oddI_succ b hlt, h1']
        simp [ForgetTo, EW, VW, BBq, BBs, BB, VBs, VB, Env.look, pubV, bookV, w64 (n := (i : Int) + 1) (by omega) (by omega)]
    · have hlt : ¬ i < cs.length := by simpa using hd
      rw [show cs.take i = cs from List.take_of_length_le (by omega)]
      have ht : ∀ l : List Int, (l.map (D.int .i64)).take l.length = l.map (D.int .i64) := fun l => List.take_of_length_le (by simp)
      simp only [go_sem, Nat.reduceBEq, Nat.reduceEqDiff, Nat.reduceLT, Nat.reduceLeDiff, Nat.reduceAdd, Nat.reduceSub, Nat.reduceMul, reduceCtorEq, Int.reduceToNat, Int.reduceEq, Int.reduceLT, Int.reduceLE, Int.reduceNe, Int.reduceNeg , or_self, or_false, false_or , List.length_map, ht]

def oddP (b : Book) (cs : List Sp) : List Int × Int := if (openP b [cs]).2 ≠ 0 then ([], (openP b [cs]).2) else (oddI b cs, 0)

theorem c25 (b : Book) (cs : List Sp) (hb : b.Fits) (hc : cs.length ≤ 4294967296) (hg : checkP b = 0 → b.Good) : PC prog 25 [.d b.d, .d (.sl (cs.map Sp.d))] (.tup [.d (.sl ((oddP b cs).1.map (.int .i64))), .d (.int .i64 (oddP b cs).2)]) := by
  refine PC.run (fun k => k == 4) tt_ok (fn := f25) (rs := [.tmp 4, .tmp 5]) rfl rfl rfl rfl rfl rfl rfl ?_
  simp only [go_sem, Nat.reduceBEq, Nat.reduceEqDiff, Nat.reduceLT, Nat.reduceLeDiff, Nat.reduceAdd, Nat.reduceSub, Nat.reduceMul, reduceCtorEq, Int.reduceToNat, Int.reduceEq, Int.reduceLT, Int.reduceLE, Int.reduceNe, Int.reduceNeg , or_self, or_false, false_or , List.length_map, Book.d]
  refine (c66 b hb [cs] (by simp) (by simpa using hc)).call rfl rfl rfl ?_
  by_cases hk : (openP b [cs]).2 = 0
  · obtain ⟨h0, h1, h2⟩ := openP_ok hk
    have hl : oddP b cs = (oddI b cs, 0) := by simp [oddP, hk]
    rw [hl]
    simp only [go_sem, Nat.reduceBEq, Nat.reduceEqDiff, Nat.reduceLT, Nat.reduceLeDiff, Nat.reduceAdd, Nat.reduceSub, Nat.reduceMul, reduceCtorEq, Int.reduceToNat, Int.reduceEq, Int.reduceLT, Int.reduceLE, Int.reduceNe, Int.reduceNeg , or_self, or_false, false_or , List.length_map, Book.d, h2]
    refine (c72 b cs hb (hg h0) h1).call rfl rfl rfl ?_
    simp only [go_sem, Nat.reduceBEq, Nat.reduceEqDiff, Nat.reduceLT, Nat.reduceLeDiff, Nat.reduceAdd, Nat.reduceSub, Nat.reduceMul, reduceCtorEq, Int.reduceToNat, Int.reduceEq, Int.reduceLT, Int.reduceLE, Int.reduceNe, Int.reduceNeg , or_self, or_false, false_or , List.length_map]
  · have hl : oddP b cs = ([], (openP b [cs]).2) := by simp [oddP, hk]
    rw [hl]
    simp only [go_sem, Nat.reduceBEq, Nat.reduceEqDiff, Nat.reduceLT, Nat.reduceLeDiff, Nat.reduceAdd, Nat.reduceSub, Nat.reduceMul, reduceCtorEq, Int.reduceToNat, Int.reduceEq, Int.reduceLT, Int.reduceLE, Int.reduceNe, Int.reduceNeg , or_self, or_false, false_or , List.length_map, Book.d, hk]
end Go.Aw
end

section
namespace Go.Aw
open Go Go.Proofs.Try

def O3.at (o : O3) : Nat → Sp
  | 0 => o.a
  | 1 => o.b
  | _ => o.c

/-- What signs of a kind take, of all goods. -/
def colI (b : Book) (k : Nat) (cs : List Sp) : List Sp := cs.mapIdx fun g c => (toldW b g c).1.at k

theorem colI_succ (b : Book) (k : Nat) {cs : List Sp} {i : Nat} (h : i < cs.length) : colI b k (cs.take (i + 1)) = colI b k (cs.take i) ++ [(toldW b i cs[i]).1.at k] := mapIdx_take_succ _ h

theorem colI_len (b : Book) (k : Nat) {cs : List Sp} {i : Nat} (h : i ≤ cs.length) : (colI b k (cs.take i)).length = i := by simp [colI, h]

theorem colI_zero (b : Book) (k : Nat) (cs : List Sp) : colI b k (cs.take 0) = [] := rfl

def allTold (b : Book) (cs : List Sp) : Bool := (cs.mapIdx fun g c => (toldW b g c).2).all id

theorem allTold_succ (b : Book) {cs : List Sp} {i : Nat} (h : i < cs.length) : allTold b (cs.take (i + 1)) = (allTold b (cs.take i) && (toldW b i cs[i]).2) := by
  unfold allTold
  rw [mapIdx_take_succ _ h, List.all_append]
  simp

theorem allTold_false (b : Book) {cs : List Sp} {i : Nat} (h : i < cs.length) (hf : (toldW b i cs[i]).2 = false) : allTold b cs = false := by
  cases hc : allTold b cs with
  | false => rfl
  | true =>
    rw [allTold, List.all_eq_true] at hc
    have := hc (toldW b i cs[i]).2 (by rw [List.mem_mapIdx]; exact ⟨i, h, rfl⟩)
    rw [hf] at this; cases this

theorem checkP_pos {b : Book} (h : b.stock.length = 0) : ¬ checkP b = 0 := by
  simp [checkP, h, within]

theorem checkP_recs {b : Book} (h : checkP b = 0) : b.recs.length ≤ 3 := by
  unfold checkP at h
  split at h
  · simp at h
  · split at h
    · simp at h
    · rename_i h2
      simp at h2
      omega

def toldP (b : Book) (cs : List Sp) : List (List Sp) × Int :=
  if (openP b [cs]).2 ≠ 0 then ([], (openP b [cs]).2) else if allTold b cs = true then ((List.range b.recs.length).map fun k => colI b k cs, 0) else ([], 9)

def pick2 (z : Heap) (s : Nat → Heap) : Nat → Heap
  | 0 => z
  | n + 1 => s (n + 1)
@[go_sem] theorem pick2_zero (z : Heap) (s : Nat → Heap) : pick2 z s 0 = z := (Eq.refl _).trans rfl
@[go_sem] theorem pick2_succ (z : Heap) (s : Nat → Heap) (n : Nat) : pick2 z s (n + 1) = s (n + 1) := (Eq.refl _).trans rfl

def pick4 (a b c d : Heap) : Nat → Heap
  | 0 => a
  | 1 => b
  | 2 => c
  | _ => d
@[go_sem] theorem pick4_0 (a b c d : Heap) : pick4 a b c d 0 = a := (Eq.refl _).trans rfl
@[go_sem] theorem pick4_1 (a b c d : Heap) : pick4 a b c d 1 = b := (Eq.refl _).trans rfl
@[go_sem] theorem pick4_2 (a b c d : Heap) : pick4 a b c d 2 = c := (Eq.refl _).trans rfl
@[go_sem] theorem pick4_3 (a b c d : Heap) : pick4 a b c d 3 = d := (Eq.refl _).trans rfl


theorem c26_0 (b : Book) (cs : List Sp) (hb : b.Fits) (hcl : cs.length ≤ 4294967296) (hg : checkP b = 0 → b.Good) (hK : b.recs.length = 0) (hk : (openP b [cs]).2 = 0) : PC prog 26 [.d b.d, .d (.sl (cs.map Sp.d))] (.tup [.d (lists (toldP b cs).1), .d (.int .i64 (toldP b cs).2)]) := by
  obtain ⟨h0, h1, h2⟩ := openP_ok hk
  refine PC.run (fun k => k == 4 || k == 28 || k == 60) tt_ok (fn := f26) (rs := [.tmp 4, .tmp 5]) rfl rfl rfl rfl rfl rfl rfl ?_
  simp only [go_sem, Nat.reduceBEq, Nat.reduceEqDiff, Nat.reduceLT, Nat.reduceLeDiff, Nat.reduceAdd, Nat.reduceSub, Nat.reduceMul, reduceCtorEq, Int.reduceToNat, Int.reduceEq, Int.reduceLT, Int.reduceLE, Int.reduceNe, Int.reduceNeg , or_self, or_false, false_or , List.length_map, Book.d, Bool.or_true, Bool.true_or, Bool.or_false, Bool.false_or]
  refine (c66 b hb [cs] (by simp) (by simpa using hcl)).call rfl rfl rfl ?_
  simp only [go_sem, Nat.reduceBEq, Nat.reduceEqDiff, Nat.reduceLT, Nat.reduceLeDiff, Nat.reduceAdd, Nat.reduceSub, Nat.reduceMul, reduceCtorEq, Int.reduceToNat, Int.reduceEq, Int.reduceLT, Int.reduceLE, Int.reduceNe, Int.reduceNeg , or_self, or_false, false_or , List.length_map, Book.d, h2, Bool.or_true, Bool.true_or, Bool.or_false, Bool.false_or, hK, Int.cast_ofNat_Int, hasSl, zcells, dcells, List.any_cons, List.any_nil, rep, List.replicate, List.flatten_cons, List.flatten_nil]
  refine ALoop.by (S := Nat) (fun i => [(31, .d (.int .i64 i)), (30, .d (.int .i64 cs.length)), (29, .d (.sl (cs.map Sp.d))), (8, .csl 3 1 0), (6, .ptr 2 0)])
    (pick2 [.cells (bookV b), .arr 1 true [], .cells (bookV b), .cells []] (fun i => [.cells (bookV b), .arr 1 true [], .cells (bookV b), .cells []])) (fun i => cs.length - i) (fun i => i ≤ cs.length ∧ allTold b (cs.take i) = true) 0 (by simp [pick2]) (fun _ h => nomatch h) ⟨Nat.zero_le _, rfl⟩ ?_ ?_
  · exact ForgetTo.same' (by simp) (by simp [EWe, Env.look]) (by simp [pick2, bookV])
  · rintro i ⟨hi, hall⟩ hn
    refine AWP.run (fun k => k == 4 || k == 28 || k == 60) tt_ok (fun _ h => nomatch h) hn rfl ?_
    have fin : i = cs.length → toldP b cs = ((List.range b.recs.length).map fun k => colI b k cs, 0) := fun h => by
      rw [h, List.take_length] at hall
      simp [toldP, hk, hall]
    cases i with
    | zero =>
      simp only [go_sem, Nat.reduceBEq, Nat.reduceEqDiff, Nat.reduceLT, Nat.reduceLeDiff, Nat.reduceAdd, Nat.reduceSub, Nat.reduceMul, reduceCtorEq, Int.reduceToNat, Int.reduceEq, Int.reduceLT, Int.reduceLE, Int.reduceNe, Int.reduceNeg , or_self, or_false, false_or , List.length_map, Bool.or_true, Bool.true_or, Bool.or_false, Bool.false_or]
      refine Br_split (fun hd => ?_) (fun hd => ?_) <;> simp only [go_sem, Nat.reduceBEq, Nat.reduceEqDiff, Nat.reduceLT, Nat.reduceLeDiff, Nat.reduceAdd, Nat.reduceSub, Nat.reduceMul, reduceCtorEq, Int.reduceToNat, Int.reduceEq, Int.reduceLT, Int.reduceLE, Int.reduceNe, Int.reduceNeg , or_self, or_false, false_or , List.length_map, hd]
      · have hlt : 0 < cs.length := by simpa [-Int.natCast_add] using hd
        simp only [go_sem, Nat.reduceBEq, Nat.reduceEqDiff, Nat.reduceLT, Nat.reduceLeDiff, Nat.reduceAdd, Nat.reduceSub, Nat.reduceMul, reduceCtorEq, Int.reduceToNat, Int.reduceEq, Int.reduceLT, Int.reduceLE, Int.reduceNe, Int.reduceNeg , or_self, or_false, false_or , List.length_map, idx_nat, List.getElem?_map, List.getElem?_eq_getElem hlt, Sp.d, Bool.or_true, Bool.true_or, Bool.or_false, Bool.false_or]
        refine (c73 b (0) cs[0] ((hg h0).acc _ (by omega)) ((hg h0).ok _ (by omega))).call rfl rfl rfl ?_
        simp only [go_sem, Nat.reduceBEq, Nat.reduceEqDiff, Nat.reduceLT, Nat.reduceLeDiff, Nat.reduceAdd, Nat.reduceSub, Nat.reduceMul, reduceCtorEq, Int.reduceToNat, Int.reduceEq, Int.reduceLT, Int.reduceLE, Int.reduceNe, Int.reduceNeg , or_self, or_false, false_or , List.length_map, O3.d, O3.cs, Bool.or_true, Bool.true_or, Bool.or_false, Bool.false_or]
        refine Br_split (fun he => ?_) (fun he => ?_) <;> simp only [go_sem, Nat.reduceBEq, Nat.reduceEqDiff, Nat.reduceLT, Nat.reduceLeDiff, Nat.reduceAdd, Nat.reduceSub, Nat.reduceMul, reduceCtorEq, Int.reduceToNat, Int.reduceEq, Int.reduceLT, Int.reduceLE, Int.reduceNe, Int.reduceNeg , or_self, or_false, false_or , List.length_map, he, Bool.or_true, Bool.true_or, Bool.or_false, Bool.false_or]
        · have hf := allTold_false b hlt (by simpa using he)
          simp [toldP, hk, hf, lists]
        · have hok : (toldW b (0) cs[0]).2 = true := by simpa using he
          refine ALoop.by (S := Nat) (fun k => [(47, .d (.int .i64 k)), (46, .d (.int .i64 0)), (31, .d (.int .i64 (0 : Nat))), (30, .d (.int .i64 cs.length)), (29, .d (.sl (cs.map Sp.d))), (8, .csl 3 1 0), (6, .ptr 2 0), (11, .pp (toldW b (0) cs[0]).1.cs)])
            (pick4 [.cells (bookV b), .arr 1 true [], .cells (bookV b), .cells []] [.cells (bookV b), .arr 1 true [], .cells (bookV b), .cells []] [.cells (bookV b), .arr 1 true [], .cells (bookV b), .cells []] [.cells (bookV b), .arr 1 true [], .cells (bookV b), .cells []]) (fun k => 0 - k) (fun k => k ≤ 0) 0 (by simp [pick4]) (fun _ h => nomatch h) (Nat.zero_le _) ?_ ?_
          · simp [ForgetTo, EW, VW, BBq, BBs, BB, VBs, VB, Env.look, pubV, bookV, pick4, toDs, toD, O3.cs]
          · rintro k hkk hnk
            have hkc : k = 0 := by omega
            refine AWP.run (fun k => k == 4 || k == 28 || k == 60) tt_ok (fun _ h => nomatch h) hnk rfl ?_
            obtain rfl := hkc
            simp only [go_sem, Nat.reduceBEq, Nat.reduceEqDiff, Nat.reduceLT, Nat.reduceLeDiff, Nat.reduceAdd, Nat.reduceSub, Nat.reduceMul, reduceCtorEq, Int.reduceToNat, Int.reduceEq, Int.reduceLT, Int.reduceLE, Int.reduceNe, Int.reduceNeg , or_self, or_false, false_or , List.length_map, Int.cast_ofNat_Int, Bool.or_true, Bool.true_or, Bool.or_false, Bool.false_or]
            refine ⟨0 + 1, ⟨hlt, by rw [allTold_succ b hlt, hall, hok]; rfl⟩, by omega, ?_⟩
            exact ForgetTo.same' (by simp) (by simp [EWe, Env.look, w64 (n := 1) (by omega) (by omega)]) (by simp [pick2, bookV])
      · have hlt : ¬ 0 < cs.length := by simpa [-Int.natCast_add] using hd
        have hlen : 0 = cs.length := by omega
        rw [fin hlen]
        have hgs : b.stock.length = 0 := by omega
        have := (hg h0)
        exact absurd h0 (checkP_pos hgs)
    | succ m =>
      simp only [go_sem, Nat.reduceBEq, Nat.reduceEqDiff, Nat.reduceLT, Nat.reduceLeDiff, Nat.reduceAdd, Nat.reduceSub, Nat.reduceMul, reduceCtorEq, Int.reduceToNat, Int.reduceEq, Int.reduceLT, Int.reduceLE, Int.reduceNe, Int.reduceNeg , or_self, or_false, false_or , List.length_map, Bool.or_true, Bool.true_or, Bool.or_false, Bool.false_or]
      refine Br_split (fun hd => ?_) (fun hd => ?_) <;> simp only [go_sem, Nat.reduceBEq, Nat.reduceEqDiff, Nat.reduceLT, Nat.reduceLeDiff, Nat.reduceAdd, Nat.reduceSub, Nat.reduceMul, reduceCtorEq, Int.reduceToNat, Int.reduceEq, Int.reduceLT, Int.reduceLE, Int.reduceNe, Int.reduceNeg , or_self, or_false, false_or , List.length_map, hd]
      · have hlt : m + 1 < cs.length := by simpa [-Int.natCast_add] using hd
        simp only [go_sem, Nat.reduceBEq, Nat.reduceEqDiff, Nat.reduceLT, Nat.reduceLeDiff, Nat.reduceAdd, Nat.reduceSub, Nat.reduceMul, reduceCtorEq, Int.reduceToNat, Int.reduceEq, Int.reduceLT, Int.reduceLE, Int.reduceNe, Int.reduceNeg , or_self, or_false, false_or , List.length_map, idx_nat, List.getElem?_map, List.getElem?_eq_getElem hlt, Sp.d, Bool.or_true, Bool.true_or, Bool.or_false, Bool.false_or]
        refine (c73 b (m + 1) cs[m + 1] ((hg h0).acc _ (by omega)) ((hg h0).ok _ (by omega))).call rfl rfl rfl ?_
        simp only [go_sem, Nat.reduceBEq, Nat.reduceEqDiff, Nat.reduceLT, Nat.reduceLeDiff, Nat.reduceAdd, Nat.reduceSub, Nat.reduceMul, reduceCtorEq, Int.reduceToNat, Int.reduceEq, Int.reduceLT, Int.reduceLE, Int.reduceNe, Int.reduceNeg , or_self, or_false, false_or , List.length_map, O3.d, O3.cs, Bool.or_true, Bool.true_or, Bool.or_false, Bool.false_or]
        refine Br_split (fun he => ?_) (fun he => ?_) <;> simp only [go_sem, Nat.reduceBEq, Nat.reduceEqDiff, Nat.reduceLT, Nat.reduceLeDiff, Nat.reduceAdd, Nat.reduceSub, Nat.reduceMul, reduceCtorEq, Int.reduceToNat, Int.reduceEq, Int.reduceLT, Int.reduceLE, Int.reduceNe, Int.reduceNeg , or_self, or_false, false_or , List.length_map, he, Bool.or_true, Bool.true_or, Bool.or_false, Bool.false_or]
        · have hf := allTold_false b hlt (by simpa using he)
          simp [toldP, hk, hf, lists]
        · have hok : (toldW b (m + 1) cs[m + 1]).2 = true := by simpa using he
          refine ALoop.by (S := Nat) (fun k => [(47, .d (.int .i64 k)), (46, .d (.int .i64 0)), (31, .d (.int .i64 (m + 1 : Nat))), (30, .d (.int .i64 cs.length)), (29, .d (.sl (cs.map Sp.d))), (8, .csl 3 1 0), (6, .ptr 2 0), (11, .pp (toldW b (m + 1) cs[m + 1]).1.cs)])
            (pick4 [.cells (bookV b), .arr 1 true [], .cells (bookV b), .cells []] [.cells (bookV b), .arr 1 true [], .cells (bookV b), .cells []] [.cells (bookV b), .arr 1 true [], .cells (bookV b), .cells []] [.cells (bookV b), .arr 1 true [], .cells (bookV b), .cells []]) (fun k => 0 - k) (fun k => k ≤ 0) 0 (by simp [pick4]) (fun _ h => nomatch h) (Nat.zero_le _) ?_ ?_
          · simp [ForgetTo, EW, VW, BBq, BBs, BB, VBs, VB, Env.look, pubV, bookV, pick4, toDs, toD, O3.cs]
          · rintro k hkk hnk
            have hkc : k = 0 := by omega
            refine AWP.run (fun k => k == 4 || k == 28 || k == 60) tt_ok (fun _ h => nomatch h) hnk rfl ?_
            obtain rfl := hkc
            simp only [go_sem, Nat.reduceBEq, Nat.reduceEqDiff, Nat.reduceLT, Nat.reduceLeDiff, Nat.reduceAdd, Nat.reduceSub, Nat.reduceMul, reduceCtorEq, Int.reduceToNat, Int.reduceEq, Int.reduceLT, Int.reduceLE, Int.reduceNe, Int.reduceNeg , or_self, or_false, false_or , List.length_map, Int.cast_ofNat_Int, Bool.or_true, Bool.true_or, Bool.or_false, Bool.false_or]
            refine ⟨m + 1 + 1, ⟨hlt, by rw [allTold_succ b hlt, hall, hok]; rfl⟩, by omega, ?_⟩
            exact ForgetTo.same' (by simp) (by simp [EWe, Env.look, w64 (n := (m : Int) + 1 + 1) (by omega) (by omega)]) (by simp [pick2, bookV])
      · have hlt : ¬ m + 1 < cs.length := by simpa [-Int.natCast_add] using hd
        have hlen : m + 1 = cs.length := by omega
        rw [fin hlen]
        simp only [go_sem, Nat.reduceBEq, Nat.reduceEqDiff, Nat.reduceLT, Nat.reduceLeDiff, Nat.reduceAdd, Nat.reduceSub, Nat.reduceMul, reduceCtorEq, Int.reduceToNat, Int.reduceEq, Int.reduceLT, Int.reduceLE, Int.reduceNe, Int.reduceNeg , or_self, or_false, false_or , List.length_map, Bool.or_true, Bool.true_or, Bool.or_false, Bool.false_or, hK, lists]
        simp

theorem c26_1 (b : Book) (cs : List Sp) (hb : b.Fits) (hcl : cs.length ≤ 4294967296) (hg : checkP b = 0 → b.Good) (hK : b.recs.length = 1) (hk : (openP b [cs]).2 = 0) : PC prog 26 [.d b.d, .d (.sl (cs.map Sp.d))] (.tup [.d (lists (toldP b cs).1), .d (.int .i64 (toldP b cs).2)]) := by
  obtain ⟨h0, h1, h2⟩ := openP_ok hk
  refine PC.run (fun k => k == 4 || k == 28 || k == 60) tt_ok (fn := f26) (rs := [.tmp 4, .tmp 5]) rfl rfl rfl rfl rfl rfl rfl ?_
  simp only [go_sem, Nat.reduceBEq, Nat.reduceEqDiff, Nat.reduceLT, Nat.reduceLeDiff, Nat.reduceAdd, Nat.reduceSub, Nat.reduceMul, reduceCtorEq, Int.reduceToNat, Int.reduceEq, Int.reduceLT, Int.reduceLE, Int.reduceNe, Int.reduceNeg , or_self, or_false, false_or , List.length_map, Book.d, Bool.or_true, Bool.true_or, Bool.or_false, Bool.false_or]
  refine (c66 b hb [cs] (by simp) (by simpa using hcl)).call rfl rfl rfl ?_
  simp only [go_sem, Nat.reduceBEq, Nat.reduceEqDiff, Nat.reduceLT, Nat.reduceLeDiff, Nat.reduceAdd, Nat.reduceSub, Nat.reduceMul, reduceCtorEq, Int.reduceToNat, Int.reduceEq, Int.reduceLT, Int.reduceLE, Int.reduceNe, Int.reduceNeg , or_self, or_false, false_or , List.length_map, Book.d, h2, Bool.or_true, Bool.true_or, Bool.or_false, Bool.false_or, hK, Int.cast_ofNat_Int, hasSl, zcells, dcells, List.any_cons, List.any_nil, rep, List.replicate, List.flatten_cons, List.flatten_nil]
  refine ALoop.by (S := Nat) (fun i => [(31, .d (.int .i64 i)), (30, .d (.int .i64 cs.length)), (29, .d (.sl (cs.map Sp.d))), (8, .csl 3 1 1), (6, .ptr 2 0)])
    (pick2 [.cells (bookV b), .arr 1 true [], .cells (bookV b), .cells [.slx (some true) []]] (fun i => [.cells (bookV b), .arr 1 true [], .cells (bookV b), .cells [.ref 4 (i) 0 (i)], .arr 2 false ((colI b 0 (cs.take (i))).map Sp.d)])) (fun i => cs.length - i) (fun i => i ≤ cs.length ∧ allTold b (cs.take i) = true) 0 (by simp [pick2]) (fun _ h => nomatch h) ⟨Nat.zero_le _, rfl⟩ ?_ ?_
  · exact ForgetTo.same' (by simp) (by simp [EWe, Env.look]) (by simp [pick2, bookV])
  · rintro i ⟨hi, hall⟩ hn
    refine AWP.run (fun k => k == 4 || k == 28 || k == 60) tt_ok (fun _ h => nomatch h) hn rfl ?_
    have fin : i = cs.length → toldP b cs = ((List.range b.recs.length).map fun k => colI b k cs, 0) := fun h => by
      rw [h, List.take_length] at hall
      simp [toldP, hk, hall]
    have cl : ∀ k j, j ≤ cs.length → ((colI b k (cs.take j)).map Sp.d).length = j := fun k j hj => by rw [List.length_map, colI_len b k hj]
    cases i with
    | zero =>
      simp only [go_sem, Nat.reduceBEq, Nat.reduceEqDiff, Nat.reduceLT, Nat.reduceLeDiff, Nat.reduceAdd, Nat.reduceSub, Nat.reduceMul, reduceCtorEq, Int.reduceToNat, Int.reduceEq, Int.reduceLT, Int.reduceLE, Int.reduceNe, Int.reduceNeg , or_self, or_false, false_or , List.length_map, Bool.or_true, Bool.true_or, Bool.or_false, Bool.false_or]
      refine Br_split (fun hd => ?_) (fun hd => ?_) <;> simp only [go_sem, Nat.reduceBEq, Nat.reduceEqDiff, Nat.reduceLT, Nat.reduceLeDiff, Nat.reduceAdd, Nat.reduceSub, Nat.reduceMul, reduceCtorEq, Int.reduceToNat, Int.reduceEq, Int.reduceLT, Int.reduceLE, Int.reduceNe, Int.reduceNeg , or_self, or_false, false_or , List.length_map, hd]
      · have hlt : 0 < cs.length := by simpa [-Int.natCast_add] using hd
        simp only [go_sem, Nat.reduceBEq, Nat.reduceEqDiff, Nat.reduceLT, Nat.reduceLeDiff, Nat.reduceAdd, Nat.reduceSub, Nat.reduceMul, reduceCtorEq, Int.reduceToNat, Int.reduceEq, Int.reduceLT, Int.reduceLE, Int.reduceNe, Int.reduceNeg , or_self, or_false, false_or , List.length_map, idx_nat, List.getElem?_map, List.getElem?_eq_getElem hlt, Sp.d, Bool.or_true, Bool.true_or, Bool.or_false, Bool.false_or]
        refine (c73 b (0) cs[0] ((hg h0).acc _ (by omega)) ((hg h0).ok _ (by omega))).call rfl rfl rfl ?_
        simp only [go_sem, Nat.reduceBEq, Nat.reduceEqDiff, Nat.reduceLT, Nat.reduceLeDiff, Nat.reduceAdd, Nat.reduceSub, Nat.reduceMul, reduceCtorEq, Int.reduceToNat, Int.reduceEq, Int.reduceLT, Int.reduceLE, Int.reduceNe, Int.reduceNeg , or_self, or_false, false_or , List.length_map, O3.d, O3.cs, Bool.or_true, Bool.true_or, Bool.or_false, Bool.false_or]
        refine Br_split (fun he => ?_) (fun he => ?_) <;> simp only [go_sem, Nat.reduceBEq, Nat.reduceEqDiff, Nat.reduceLT, Nat.reduceLeDiff, Nat.reduceAdd, Nat.reduceSub, Nat.reduceMul, reduceCtorEq, Int.reduceToNat, Int.reduceEq, Int.reduceLT, Int.reduceLE, Int.reduceNe, Int.reduceNeg , or_self, or_false, false_or , List.length_map, he, Bool.or_true, Bool.true_or, Bool.or_false, Bool.false_or]
        · have hf := allTold_false b hlt (by simpa using he)
          simp [toldP, hk, hf, lists]
        · have hok : (toldW b (0) cs[0]).2 = true := by simpa using he
          refine ALoop.by (S := Nat) (fun k => [(47, .d (.int .i64 k)), (46, .d (.int .i64 1)), (31, .d (.int .i64 (0 : Nat))), (30, .d (.int .i64 cs.length)), (29, .d (.sl (cs.map Sp.d))), (8, .csl 3 1 1), (6, .ptr 2 0), (11, .pp (toldW b (0) cs[0]).1.cs)])
            (pick4 [.cells (bookV b), .arr 1 true [], .cells (bookV b), .cells [.slx (some true) []]] [.cells (bookV b), .arr 1 true [], .cells (bookV b), .cells [.ref 4 (0 + 1) 0 (0 + 1)], .arr 2 false ((colI b 0 (cs.take (0 + 1))).map Sp.d)] [.cells (bookV b), .arr 1 true [], .cells (bookV b), .cells [.ref 4 (0 + 1) 0 (0 + 1)], .arr 2 false ((colI b 0 (cs.take (0 + 1))).map Sp.d)] [.cells (bookV b), .arr 1 true [], .cells (bookV b), .cells [.ref 4 (0 + 1) 0 (0 + 1)], .arr 2 false ((colI b 0 (cs.take (0 + 1))).map Sp.d)]) (fun k => 1 - k) (fun k => k ≤ 1) 0 (by simp [pick4]) (fun _ h => nomatch h) (Nat.zero_le _) ?_ ?_
          · simp [ForgetTo, EW, VW, BBq, BBs, BB, VBs, VB, Env.look, pubV, bookV, pick4, toDs, toD, O3.cs]
          · rintro k hkk hnk
            have hkc : k = 0 ∨ k = 1 := by omega
            refine AWP.run (fun k => k == 4 || k == 28 || k == 60) tt_ok (fun _ h => nomatch h) hnk rfl ?_
            rcases hkc with rfl | rfl
            · have hle : (0) + 1 ≤ 4294967296 := by omega
              simp only [go_sem, Nat.reduceBEq, Nat.reduceEqDiff, Nat.reduceLT, Nat.reduceLeDiff, Nat.reduceAdd, Nat.reduceSub, Nat.reduceMul, reduceCtorEq, Int.reduceToNat, Int.reduceEq, Int.reduceLT, Int.reduceLE, Int.reduceNe, Int.reduceNeg , or_self, or_false, false_or , List.length_map, Int.cast_ofNat_Int, Bool.or_true, Bool.true_or, Bool.or_false, Bool.false_or]
              refine ADrw.treeG (fun k => k == 4 || k == 28 || k == 60) tt_ok (by kernel_rfl) (fun k => if k = 5 ∨ k = 8 then some .L else if k = 10 ∨ k = 12 then some .W else some .S) (.ones [0, 1, 2, 3, 4, 5, 6, 7, 8, 9, 10, 11, 12] .done) (by simp) (fun _ h => nomatch h) rfl rfl (by kernel_rfl) ?_
              simp only [go_sem, Nat.reduceBEq, Nat.reduceEqDiff, Nat.reduceLT, Nat.reduceLeDiff, Nat.reduceAdd, Nat.reduceSub, Nat.reduceMul, reduceCtorEq, Int.reduceToNat, Int.reduceEq, Int.reduceLT, Int.reduceLE, Int.reduceNe, Int.reduceNeg , or_self, or_false, false_or , List.length_map, Int.cast_ofNat_Int, Bool.or_true, Bool.true_or, Bool.or_false, Bool.false_or, O3.cs, cl _ _ (Nat.le_of_lt hlt), hle]
              refine ⟨1, by omega, by omega, ?_⟩
              refine ForgetTo.same' (by simp) (by simp [EWe, Env.look, w64 (n := 1) (by omega) (by omega), O3.cs]) ?_
              simp only [pick4, colI_succ b _ hlt, O3.at]
              simp [bookV, Sp.d, colI]
            · simp only [go_sem, Nat.reduceBEq, Nat.reduceEqDiff, Nat.reduceLT, Nat.reduceLeDiff, Nat.reduceAdd, Nat.reduceSub, Nat.reduceMul, reduceCtorEq, Int.reduceToNat, Int.reduceEq, Int.reduceLT, Int.reduceLE, Int.reduceNe, Int.reduceNeg , or_self, or_false, false_or , List.length_map, Int.cast_ofNat_Int, Bool.or_true, Bool.true_or, Bool.or_false, Bool.false_or]
              refine ⟨0 + 1, ⟨hlt, by rw [allTold_succ b hlt, hall, hok]; rfl⟩, by omega, ?_⟩
              exact ForgetTo.same' (by simp) (by simp [EWe, Env.look, w64 (n := 1) (by omega) (by omega)]) (by simp [pick2, bookV])
      · have hlt : ¬ 0 < cs.length := by simpa [-Int.natCast_add] using hd
        have hlen : 0 = cs.length := by omega
        rw [fin hlen]
        have hgs : b.stock.length = 0 := by omega
        have := (hg h0)
        exact absurd h0 (checkP_pos hgs)
    | succ m =>
      simp only [go_sem, Nat.reduceBEq, Nat.reduceEqDiff, Nat.reduceLT, Nat.reduceLeDiff, Nat.reduceAdd, Nat.reduceSub, Nat.reduceMul, reduceCtorEq, Int.reduceToNat, Int.reduceEq, Int.reduceLT, Int.reduceLE, Int.reduceNe, Int.reduceNeg , or_self, or_false, false_or , List.length_map, Bool.or_true, Bool.true_or, Bool.or_false, Bool.false_or]
      refine Br_split (fun hd => ?_) (fun hd => ?_) <;> simp only [go_sem, Nat.reduceBEq, Nat.reduceEqDiff, Nat.reduceLT, Nat.reduceLeDiff, Nat.reduceAdd, Nat.reduceSub, Nat.reduceMul, reduceCtorEq, Int.reduceToNat, Int.reduceEq, Int.reduceLT, Int.reduceLE, Int.reduceNe, Int.reduceNeg , or_self, or_false, false_or , List.length_map, hd]
      · have hlt : m + 1 < cs.length := by simpa [-Int.natCast_add] using hd
        simp only [go_sem, Nat.reduceBEq, Nat.reduceEqDiff, Nat.reduceLT, Nat.reduceLeDiff, Nat.reduceAdd, Nat.reduceSub, Nat.reduceMul, reduceCtorEq, Int.reduceToNat, Int.reduceEq, Int.reduceLT, Int.reduceLE, Int.reduceNe, Int.reduceNeg , or_self, or_false, false_or , List.length_map, idx_nat, List.getElem?_map, List.getElem?_eq_getElem hlt, Sp.d, Bool.or_true, Bool.true_or, Bool.or_false, Bool.false_or]
        refine (c73 b (m + 1) cs[m + 1] ((hg h0).acc _ (by omega)) ((hg h0).ok _ (by omega))).call rfl rfl rfl ?_
        simp only [go_sem, Nat.reduceBEq, Nat.reduceEqDiff, Nat.reduceLT, Nat.reduceLeDiff, Nat.reduceAdd, Nat.reduceSub, Nat.reduceMul, reduceCtorEq, Int.reduceToNat, Int.reduceEq, Int.reduceLT, Int.reduceLE, Int.reduceNe, Int.reduceNeg , or_self, or_false, false_or , List.length_map, O3.d, O3.cs, Bool.or_true, Bool.true_or, Bool.or_false, Bool.false_or]
        refine Br_split (fun he => ?_) (fun he => ?_) <;> simp only [go_sem, Nat.reduceBEq, Nat.reduceEqDiff, Nat.reduceLT, Nat.reduceLeDiff, Nat.reduceAdd, Nat.reduceSub, Nat.reduceMul, reduceCtorEq, Int.reduceToNat, Int.reduceEq, Int.reduceLT, Int.reduceLE, Int.reduceNe, Int.reduceNeg , or_self, or_false, false_or , List.length_map, he, Bool.or_true, Bool.true_or, Bool.or_false, Bool.false_or]
        · have hf := allTold_false b hlt (by simpa using he)
          simp [toldP, hk, hf, lists]
        · have hok : (toldW b (m + 1) cs[m + 1]).2 = true := by simpa using he
          refine ALoop.by (S := Nat) (fun k => [(47, .d (.int .i64 k)), (46, .d (.int .i64 1)), (31, .d (.int .i64 (m + 1 : Nat))), (30, .d (.int .i64 cs.length)), (29, .d (.sl (cs.map Sp.d))), (8, .csl 3 1 1), (6, .ptr 2 0), (11, .pp (toldW b (m + 1) cs[m + 1]).1.cs)])
            (pick4 [.cells (bookV b), .arr 1 true [], .cells (bookV b), .cells [.ref 4 (m + 1) 0 (m + 1)], .arr 2 false ((colI b 0 (cs.take (m + 1))).map Sp.d)] [.cells (bookV b), .arr 1 true [], .cells (bookV b), .cells [.ref 4 (m + 1 + 1) 0 (m + 1 + 1)], .arr 2 false ((colI b 0 (cs.take (m + 1 + 1))).map Sp.d)] [.cells (bookV b), .arr 1 true [], .cells (bookV b), .cells [.ref 4 (m + 1 + 1) 0 (m + 1 + 1)], .arr 2 false ((colI b 0 (cs.take (m + 1 + 1))).map Sp.d)] [.cells (bookV b), .arr 1 true [], .cells (bookV b), .cells [.ref 4 (m + 1 + 1) 0 (m + 1 + 1)], .arr 2 false ((colI b 0 (cs.take (m + 1 + 1))).map Sp.d)]) (fun k => 1 - k) (fun k => k ≤ 1) 0 (by simp [pick4]) (fun _ h => nomatch h) (Nat.zero_le _) ?_ ?_
          · simp [ForgetTo, EW, VW, BBq, BBs, BB, VBs, VB, Env.look, pubV, bookV, pick4, toDs, toD, O3.cs]
          · rintro k hkk hnk
            have hkc : k = 0 ∨ k = 1 := by omega
            refine AWP.run (fun k => k == 4 || k == 28 || k == 60) tt_ok (fun _ h => nomatch h) hnk rfl ?_
            rcases hkc with rfl | rfl
            · have hle : (m + 1) + 1 ≤ 4294967296 := by omega
              simp only [go_sem, Nat.reduceBEq, Nat.reduceEqDiff, Nat.reduceLT, Nat.reduceLeDiff, Nat.reduceAdd, Nat.reduceSub, Nat.reduceMul, reduceCtorEq, Int.reduceToNat, Int.reduceEq, Int.reduceLT, Int.reduceLE, Int.reduceNe, Int.reduceNeg , or_self, or_false, false_or , List.length_map, Int.cast_ofNat_Int, Bool.or_true, Bool.true_or, Bool.or_false, Bool.false_or]
              refine ADrw.treeG (fun k => k == 4 || k == 28 || k == 60) tt_ok (by kernel_rfl) (fun k => if k = 5 ∨ k = 8 then some .L else if k = 10 ∨ k = 12 then some .W else some .S) (.ones [0, 1, 2, 3, 4, 5, 6, 7, 8, 9, 10, 11, 12] .done) (by simp) (fun _ h => nomatch h) rfl rfl (by kernel_rfl) ?_
              simp only [go_sem, Nat.reduceBEq, Nat.reduceEqDiff, Nat.reduceLT, Nat.reduceLeDiff, Nat.reduceAdd, Nat.reduceSub, Nat.reduceMul, reduceCtorEq, Int.reduceToNat, Int.reduceEq, Int.reduceLT, Int.reduceLE, Int.reduceNe, Int.reduceNeg , or_self, or_false, false_or , List.length_map, Int.cast_ofNat_Int, Bool.or_true, Bool.true_or, Bool.or_false, Bool.false_or, O3.cs, cl _ _ (Nat.le_of_lt hlt), hle]
              refine ⟨1, by omega, by omega, ?_⟩
              refine ForgetTo.same' (by simp) (by simp [EWe, Env.look, w64 (n := 1) (by omega) (by omega), O3.cs]) ?_
              simp only [pick4, colI_succ b _ hlt, O3.at]
              simp [bookV, Sp.d, colI]
            · simp only [go_sem, Nat.reduceBEq, Nat.reduceEqDiff, Nat.reduceLT, Nat.reduceLeDiff, Nat.reduceAdd, Nat.reduceSub, Nat.reduceMul, reduceCtorEq, Int.reduceToNat, Int.reduceEq, Int.reduceLT, Int.reduceLE, Int.reduceNe, Int.reduceNeg , or_self, or_false, false_or , List.length_map, Int.cast_ofNat_Int, Bool.or_true, Bool.true_or, Bool.or_false, Bool.false_or]
              refine ⟨m + 1 + 1, ⟨hlt, by rw [allTold_succ b hlt, hall, hok]; rfl⟩, by omega, ?_⟩
              exact ForgetTo.same' (by simp) (by simp [EWe, Env.look, w64 (n := (m : Int) + 1 + 1) (by omega) (by omega)]) (by simp [pick2, bookV])
      · have hlt : ¬ m + 1 < cs.length := by simpa [-Int.natCast_add] using hd
        have hlen : m + 1 = cs.length := by omega
        rw [fin hlen]
        have ht : ∀ l : List D, l.length = m + 1 → l.take (m + 1) = l := fun l hl => List.take_of_length_le (by omega)
        have hc2 : ∀ k, ((colI b k (cs.take (m + 1))).map Sp.d).length = m + 1 := fun k => cl k _ (by omega)
        have hcs : cs.take (m + 1) = cs := List.take_of_length_le (by omega)
        simp only [go_sem, Nat.reduceBEq, Nat.reduceEqDiff, Nat.reduceLT, Nat.reduceLeDiff, Nat.reduceAdd, Nat.reduceSub, Nat.reduceMul, reduceCtorEq, Int.reduceToNat, Int.reduceEq, Int.reduceLT, Int.reduceLE, Int.reduceNe, Int.reduceNeg , or_self, or_false, false_or , List.length_map, Bool.or_true, Bool.true_or, Bool.or_false, Bool.false_or, hc2, ht _ (hc2 _), hK, lists]
        rw [hcs]
        simp [List.range_succ]

theorem c26_2 (b : Book) (cs : List Sp) (hb : b.Fits) (hcl : cs.length ≤ 4294967296) (hg : checkP b = 0 → b.Good) (hK : b.recs.length = 2) (hk : (openP b [cs]).2 = 0) : PC prog 26 [.d b.d, .d (.sl (cs.map Sp.d))] (.tup [.d (lists (toldP b cs).1), .d (.int .i64 (toldP b cs).2)]) := by
  obtain ⟨h0, h1, h2⟩ := openP_ok hk
  refine PC.run (fun k => k == 4 || k == 28 || k == 60) tt_ok (fn := f26) (rs := [.tmp 4, .tmp 5]) rfl rfl rfl rfl rfl rfl rfl ?_
  simp only [go_sem, Nat.reduceBEq, Nat.reduceEqDiff, Nat.reduceLT, Nat.reduceLeDiff, Nat.reduceAdd, Nat.reduceSub, Nat.reduceMul, reduceCtorEq, Int.reduceToNat, Int.reduceEq, Int.reduceLT, Int.reduceLE, Int.reduceNe, Int.reduceNeg , or_self, or_false, false_or , List.length_map, Book.d, Bool.or_true, Bool.true_or, Bool.or_false, Bool.false_or]
  refine (c66 b hb [cs] (by simp) (by simpa using hcl)).call rfl rfl rfl ?_
  simp only [go_sem, Nat.reduceBEq, Nat.reduceEqDiff, Nat.reduceLT, Nat.reduceLeDiff, Nat.reduceAdd, Nat.reduceSub, Nat.reduceMul, reduceCtorEq, Int.reduceToNat, Int.reduceEq, Int.reduceLT, Int.reduceLE, Int.reduceNe, Int.reduceNeg , or_self, or_false, false_or , List.length_map, Book.d, h2, Bool.or_true, Bool.true_or, Bool.or_false, Bool.false_or, hK, Int.cast_ofNat_Int, hasSl, zcells, dcells, List.any_cons, List.any_nil, rep, List.replicate, List.flatten_cons, List.flatten_nil]
  refine ALoop.by (S := Nat) (fun i => [(31, .d (.int .i64 i)), (30, .d (.int .i64 cs.length)), (29, .d (.sl (cs.map Sp.d))), (8, .csl 3 1 2), (6, .ptr 2 0)])
    (pick2 [.cells (bookV b), .arr 1 true [], .cells (bookV b), .cells [.slx (some true) [], .slx (some true) []]] (fun i => [.cells (bookV b), .arr 1 true [], .cells (bookV b), .cells [.ref 4 (i) 0 (i), .ref 5 (i) 0 (i)], .arr 2 false ((colI b 0 (cs.take (i))).map Sp.d), .arr 2 false ((colI b 1 (cs.take (i))).map Sp.d)])) (fun i => cs.length - i) (fun i => i ≤ cs.length ∧ allTold b (cs.take i) = true) 0 (by simp [pick2]) (fun _ h => nomatch h) ⟨Nat.zero_le _, rfl⟩ ?_ ?_
  · exact ForgetTo.same' (by simp) (by simp [EWe, Env.look]) (by simp [pick2, bookV])
  · rintro i ⟨hi, hall⟩ hn
    refine AWP.run (fun k => k == 4 || k == 28 || k == 60) tt_ok (fun _ h => nomatch h) hn rfl ?_
    have fin : i = cs.length → toldP b cs = ((List.range b.recs.length).map fun k => colI b k cs, 0) := fun h => by
      rw [h, List.take_length] at hall
      simp [toldP, hk, hall]
    have cl : ∀ k j, j ≤ cs.length → ((colI b k (cs.take j)).map Sp.d).length = j := fun k j hj => by rw [List.length_map, colI_len b k hj]
    cases i with
    | zero =>
      simp only [go_sem, Nat.reduceBEq, Nat.reduceEqDiff, Nat.reduceLT, Nat.reduceLeDiff, Nat.reduceAdd, Nat.reduceSub, Nat.reduceMul, reduceCtorEq, Int.reduceToNat, Int.reduceEq, Int.reduceLT, Int.reduceLE, Int.reduceNe, Int.reduceNeg , or_self, or_false, false_or , List.length_map, Bool.or_true, Bool.true_or, Bool.or_false, Bool.false_or]
      refine Br_split (fun hd => ?_) (fun hd => ?_) <;> simp only [go_sem, Nat.reduceBEq, Nat.reduceEqDiff, Nat.reduceLT, Nat.reduceLeDiff, Nat.reduceAdd, Nat.reduceSub, Nat.reduceMul, reduceCtorEq, Int.reduceToNat, Int.reduceEq, Int.reduceLT, Int.reduceLE, Int.reduceNe, Int.reduceNeg , or_self, or_false, false_or , List.length_map, hd]
      · have hlt : 0 < cs.length := by simpa [-Int.natCast_add] using hd
        simp only [go_sem, Nat.reduceBEq, Nat.reduceEqDiff, Nat.reduceLT, Nat.reduceLeDiff, Nat.reduceAdd, Nat.reduceSub, Nat.reduceMul, reduceCtorEq, Int.reduceToNat, Int.reduceEq, Int.reduceLT, Int.reduceLE, Int.reduceNe, Int.reduceNeg , or_self, or_false, false_or , List.length_map, idx_nat, List.getElem?_map, List.getElem?_eq_getElem hlt, Sp.d, Bool.or_true, Bool.true_or, Bool.or_false, Bool.false_or]
        refine (c73 b (0) cs[0] ((hg h0).acc _ (by omega)) ((hg h0).ok _ (by omega))).call rfl rfl rfl ?_
        simp only [go_sem, Nat.reduceBEq, Nat.reduceEqDiff, Nat.reduceLT, Nat.reduceLeDiff, Nat.reduceAdd, Nat.reduceSub, Nat.reduceMul, reduceCtorEq, Int.reduceToNat, Int.reduceEq, Int.reduceLT, Int.reduceLE, Int.reduceNe, Int.reduceNeg , or_self, or_false, false_or , List.length_map, O3.d, O3.cs, Bool.or_true, Bool.true_or, Bool.or_false, Bool.false_or]
        refine Br_split (fun he => ?_) (fun he => ?_) <;> simp only [go_sem, Nat.reduceBEq, Nat.reduceEqDiff, Nat.reduceLT, Nat.reduceLeDiff, Nat.reduceAdd, Nat.reduceSub, Nat.reduceMul, reduceCtorEq, Int.reduceToNat, Int.reduceEq, Int.reduceLT, Int.reduceLE, Int.reduceNe, Int.reduceNeg , or_self, or_false, false_or , List.length_map, he, Bool.or_true, Bool.true_or, Bool.or_false, Bool.false_or]
        · have hf := allTold_false b hlt (by simpa using he)
          simp [toldP, hk, hf, lists]
        · have hok : (toldW b (0) cs[0]).2 = true := by simpa using he
          refine ALoop.by (S := Nat) (fun k => [(47, .d (.int .i64 k)), (46, .d (.int .i64 2)), (31, .d (.int .i64 (0 : Nat))), (30, .d (.int .i64 cs.length)), (29, .d (.sl (cs.map Sp.d))), (8, .csl 3 1 2), (6, .ptr 2 0), (11, .pp (toldW b (0) cs[0]).1.cs)])
            (pick4 [.cells (bookV b), .arr 1 true [], .cells (bookV b), .cells [.slx (some true) [], .slx (some true) []]] [.cells (bookV b), .arr 1 true [], .cells (bookV b), .cells [.ref 4 (0 + 1) 0 (0 + 1), .slx (some true) []], .arr 2 false ((colI b 0 (cs.take (0 + 1))).map Sp.d)] [.cells (bookV b), .arr 1 true [], .cells (bookV b), .cells [.ref 4 (0 + 1) 0 (0 + 1), .ref 5 (0 + 1) 0 (0 + 1)], .arr 2 false ((colI b 0 (cs.take (0 + 1))).map Sp.d), .arr 2 false ((colI b 1 (cs.take (0 + 1))).map Sp.d)] [.cells (bookV b), .arr 1 true [], .cells (bookV b), .cells [.ref 4 (0 + 1) 0 (0 + 1), .ref 5 (0 + 1) 0 (0 + 1)], .arr 2 false ((colI b 0 (cs.take (0 + 1))).map Sp.d), .arr 2 false ((colI b 1 (cs.take (0 + 1))).map Sp.d)]) (fun k => 2 - k) (fun k => k ≤ 2) 0 (by simp [pick4]) (fun _ h => nomatch h) (Nat.zero_le _) ?_ ?_
          · simp [ForgetTo, EW, VW, BBq, BBs, BB, VBs, VB, Env.look, pubV, bookV, pick4, toDs, toD, O3.cs]
          · rintro k hkk hnk
            have hkc : k = 0 ∨ k = 1 ∨ k = 2 := by omega
            refine AWP.run (fun k => k == 4 || k == 28 || k == 60) tt_ok (fun _ h => nomatch h) hnk rfl ?_
            rcases hkc with rfl | rfl | rfl
            · have hle : (0) + 1 ≤ 4294967296 := by omega
              simp only [go_sem, Nat.reduceBEq, Nat.reduceEqDiff, Nat.reduceLT, Nat.reduceLeDiff, Nat.reduceAdd, Nat.reduceSub, Nat.reduceMul, reduceCtorEq, Int.reduceToNat, Int.reduceEq, Int.reduceLT, Int.reduceLE, Int.reduceNe, Int.reduceNeg , or_self, or_false, false_or , List.length_map, Int.cast_ofNat_Int, Bool.or_true, Bool.true_or, Bool.or_false, Bool.false_or]
              refine ADrw.treeG (fun k => k == 4 || k == 28 || k == 60) tt_ok (by kernel_rfl) (fun k => if k = 5 ∨ k = 8 then some .L else if k = 10 ∨ k = 12 then some .W else some .S) (.ones [0, 1, 2, 3, 4, 5, 6, 7, 8, 9, 10, 11, 12] .done) (by simp) (fun _ h => nomatch h) rfl rfl (by kernel_rfl) ?_
              simp only [go_sem, Nat.reduceBEq, Nat.reduceEqDiff, Nat.reduceLT, Nat.reduceLeDiff, Nat.reduceAdd, Nat.reduceSub, Nat.reduceMul, reduceCtorEq, Int.reduceToNat, Int.reduceEq, Int.reduceLT, Int.reduceLE, Int.reduceNe, Int.reduceNeg , or_self, or_false, false_or , List.length_map, Int.cast_ofNat_Int, Bool.or_true, Bool.true_or, Bool.or_false, Bool.false_or, O3.cs, cl _ _ (Nat.le_of_lt hlt), hle]
              refine ⟨1, by omega, by omega, ?_⟩
              refine ForgetTo.same' (by simp) (by simp [EWe, Env.look, w64 (n := 1) (by omega) (by omega), O3.cs]) ?_
              simp only [pick4, colI_succ b _ hlt, O3.at]
              simp [bookV, Sp.d, colI]
            · have hle : (0) + 1 ≤ 4294967296 := by omega
              simp only [go_sem, Nat.reduceBEq, Nat.reduceEqDiff, Nat.reduceLT, Nat.reduceLeDiff, Nat.reduceAdd, Nat.reduceSub, Nat.reduceMul, reduceCtorEq, Int.reduceToNat, Int.reduceEq, Int.reduceLT, Int.reduceLE, Int.reduceNe, Int.reduceNeg , or_self, or_false, false_or , List.length_map, Int.cast_ofNat_Int, Bool.or_true, Bool.true_or, Bool.or_false, Bool.false_or]
              refine ADrw.treeG (fun k => k == 4 || k == 28 || k == 60) tt_ok (by kernel_rfl) (fun k => if k = 5 ∨ k = 8 then some .L else if k = 10 ∨ k = 12 then some .W else some .S) (.ones [0, 1, 2, 3, 4, 5, 6, 7, 8, 9, 10, 11, 12] .done) (by simp) (fun _ h => nomatch h) rfl rfl (by kernel_rfl) ?_
              simp only [go_sem, Nat.reduceBEq, Nat.reduceEqDiff, Nat.reduceLT, Nat.reduceLeDiff, Nat.reduceAdd, Nat.reduceSub, Nat.reduceMul, reduceCtorEq, Int.reduceToNat, Int.reduceEq, Int.reduceLT, Int.reduceLE, Int.reduceNe, Int.reduceNeg , or_self, or_false, false_or , List.length_map, Int.cast_ofNat_Int, Bool.or_true, Bool.true_or, Bool.or_false, Bool.false_or, O3.cs, cl _ _ (Nat.le_of_lt hlt), hle]
              refine ⟨2, by omega, by omega, ?_⟩
              refine ForgetTo.same' (by simp) (by simp [EWe, Env.look, w64 (n := 2) (by omega) (by omega), O3.cs]) ?_
              simp only [pick4, colI_succ b _ hlt, O3.at]
              simp [bookV, Sp.d, colI]
            · simp only [go_sem, Nat.reduceBEq, Nat.reduceEqDiff, Nat.reduceLT, Nat.reduceLeDiff, Nat.reduceAdd, Nat.reduceSub, Nat.reduceMul, reduceCtorEq, Int.reduceToNat, Int.reduceEq, Int.reduceLT, Int.reduceLE, Int.reduceNe, Int.reduceNeg , or_self, or_false, false_or , List.length_map, Int.cast_ofNat_Int, Bool.or_true, Bool.true_or, Bool.or_false, Bool.false_or]
              refine ⟨0 + 1, ⟨hlt, by rw [allTold_succ b hlt, hall, hok]; rfl⟩, by omega, ?_⟩
              exact ForgetTo.same' (by simp) (by simp [EWe, Env.look, w64 (n := 1) (by omega) (by omega)]) (by simp [pick2, bookV])
      · have hlt : ¬ 0 < cs.length := by simpa [-Int.natCast_add] using hd
        have hlen : 0 = cs.length := by omega
        rw [fin hlen]
        have hgs : b.stock.length = 0 := by omega
        have := (hg h0)
        exact absurd h0 (checkP_pos hgs)
    | succ m =>
      simp only [go_sem, Nat.reduceBEq, Nat.reduceEqDiff, Nat.reduceLT, Nat.reduceLeDiff, Nat.reduceAdd, Nat.reduceSub, Nat.reduceMul, reduceCtorEq, Int.reduceToNat, Int.reduceEq, Int.reduceLT, Int.reduceLE, Int.reduceNe, Int.reduceNeg , or_self, or_false, false_or , List.length_map, Bool.or_true, Bool.true_or, Bool.or_false, Bool.false_or]
      refine Br_split (fun hd => ?_) (fun hd => ?_) <;> simp only [go_sem, Nat.reduceBEq, Nat.reduceEqDiff, Nat.reduceLT, Nat.reduceLeDiff, Nat.reduceAdd, Nat.reduceSub, Nat.reduceMul, reduceCtorEq, Int.reduceToNat, Int.reduceEq, Int.reduceLT, Int.reduceLE, Int.reduceNe, Int.reduceNeg , or_self, or_false, false_or , List.length_map, hd]
      · have hlt : m + 1 < cs.length := by simpa [-Int.natCast_add] using hd
        simp only [go_sem, Nat.reduceBEq, Nat.reduceEqDiff, Nat.reduceLT, Nat.reduceLeDiff, Nat.reduceAdd, Nat.reduceSub, Nat.reduceMul, reduceCtorEq, Int.reduceToNat, Int.reduceEq, Int.reduceLT, Int.reduceLE, Int.reduceNe, Int.reduceNeg , or_self, or_false, false_or , List.length_map, idx_nat, List.getElem?_map, List.getElem?_eq_getElem hlt, Sp.d, Bool.or_true, Bool.true_or, Bool.or_false, Bool.false_or]
        refine (c73 b (m + 1) cs[m + 1] ((hg h0).acc _ (by omega)) ((hg h0).ok _ (by omega))).call rfl rfl rfl ?_
        simp only [go_sem, Nat.reduceBEq, Nat.reduceEqDiff, Nat.reduceLT, Nat.reduceLeDiff, Nat.reduceAdd, Nat.reduceSub, Nat.reduceMul, reduceCtorEq, Int.reduceToNat, Int.reduceEq, Int.reduceLT, Int.reduceLE, Int.reduceNe, Int.reduceNeg , or_self, or_false, false_or , List.length_map, O3.d, O3.cs, Bool.or_true, Bool.true_or, Bool.or_false, Bool.false_or]
        refine Br_split (fun he => ?_) (fun he => ?_) <;> simp only [go_sem, Nat.reduceBEq, Nat.reduceEqDiff, Nat.reduceLT, Nat.reduceLeDiff, Nat.reduceAdd, Nat.reduceSub, Nat.reduceMul, reduceCtorEq, Int.reduceToNat, Int.reduceEq, Int.reduceLT, Int.reduceLE, Int.reduceNe, Int.reduceNeg , or_self, or_false, false_or , List.length_map, he, Bool.or_true, Bool.true_or, Bool.or_false, Bool.false_or]
        · have hf := allTold_false b hlt (by simpa using he)
          simp [toldP, hk, hf, lists]
        · have hok : (toldW b (m + 1) cs[m + 1]).2 = true := by simpa using he
          refine ALoop.by (S := Nat) (fun k => [(47, .d (.int .i64 k)), (46, .d (.int .i64 2)), (31, .d (.int .i64 (m + 1 : Nat))), (30, .d (.int .i64 cs.length)), (29, .d (.sl (cs.map Sp.d))), (8, .csl 3 1 2), (6, .ptr 2 0), (11, .pp (toldW b (m + 1) cs[m + 1]).1.cs)])
            (pick4 [.cells (bookV b), .arr 1 true [], .cells (bookV b), .cells [.ref 4 (m + 1) 0 (m + 1), .ref 5 (m + 1) 0 (m + 1)], .arr 2 false ((colI b 0 (cs.take (m + 1))).map Sp.d), .arr 2 false ((colI b 1 (cs.take (m + 1))).map Sp.d)] [.cells (bookV b), .arr 1 true [], .cells (bookV b), .cells [.ref 4 (m + 1 + 1) 0 (m + 1 + 1), .ref 5 (m + 1) 0 (m + 1)], .arr 2 false ((colI b 0 (cs.take (m + 1 + 1))).map Sp.d), .arr 2 false ((colI b 1 (cs.take (m + 1))).map Sp.d)] [.cells (bookV b), .arr 1 true [], .cells (bookV b), .cells [.ref 4 (m + 1 + 1) 0 (m + 1 + 1), .ref 5 (m + 1 + 1) 0 (m + 1 + 1)], .arr 2 false ((colI b 0 (cs.take (m + 1 + 1))).map Sp.d), .arr 2 false ((colI b 1 (cs.take (m + 1 + 1))).map Sp.d)] [.cells (bookV b), .arr 1 true [], .cells (bookV b), .cells [.ref 4 (m + 1 + 1) 0 (m + 1 + 1), .ref 5 (m + 1 + 1) 0 (m + 1 + 1)], .arr 2 false ((colI b 0 (cs.take (m + 1 + 1))).map Sp.d), .arr 2 false ((colI b 1 (cs.take (m + 1 + 1))).map Sp.d)]) (fun k => 2 - k) (fun k => k ≤ 2) 0 (by simp [pick4]) (fun _ h => nomatch h) (Nat.zero_le _) ?_ ?_
          · simp [ForgetTo, EW, VW, BBq, BBs, BB, VBs, VB, Env.look, pubV, bookV, pick4, toDs, toD, O3.cs]
          · rintro k hkk hnk
            have hkc : k = 0 ∨ k = 1 ∨ k = 2 := by omega
            refine AWP.run (fun k => k == 4 || k == 28 || k == 60) tt_ok (fun _ h => nomatch h) hnk rfl ?_
            rcases hkc with rfl | rfl | rfl
            · have hle : (m + 1) + 1 ≤ 4294967296 := by omega
              simp only [go_sem, Nat.reduceBEq, Nat.reduceEqDiff, Nat.reduceLT, Nat.reduceLeDiff, Nat.reduceAdd, Nat.reduceSub, Nat.reduceMul, reduceCtorEq, Int.reduceToNat, Int.reduceEq, Int.reduceLT, Int.reduceLE, Int.reduceNe, Int.reduceNeg , or_self, or_false, false_or , List.length_map, Int.cast_ofNat_Int, Bool.or_true, Bool.true_or, Bool.or_false, Bool.false_or]
              refine ADrw.treeG (fun k => k == 4 || k == 28 || k == 60) tt_ok (by kernel_rfl) (fun k => if k = 5 ∨ k = 8 then some .L else if k = 10 ∨ k = 12 then some .W else some .S) (.ones [0, 1, 2, 3, 4, 5, 6, 7, 8, 9, 10, 11, 12] .done) (by simp) (fun _ h => nomatch h) rfl rfl (by kernel_rfl) ?_
              simp only [go_sem, Nat.reduceBEq, Nat.reduceEqDiff, Nat.reduceLT, Nat.reduceLeDiff, Nat.reduceAdd, Nat.reduceSub, Nat.reduceMul, reduceCtorEq, Int.reduceToNat, Int.reduceEq, Int.reduceLT, Int.reduceLE, Int.reduceNe, Int.reduceNeg , or_self, or_false, false_or , List.length_map, Int.cast_ofNat_Int, Bool.or_true, Bool.true_or, Bool.or_false, Bool.false_or, O3.cs, cl _ _ (Nat.le_of_lt hlt), hle]
              refine ⟨1, by omega, by omega, ?_⟩
              refine ForgetTo.same' (by simp) (by simp [EWe, Env.look, w64 (n := 1) (by omega) (by omega), O3.cs]) ?_
              simp only [pick4, colI_succ b _ hlt, O3.at]
              simp [bookV, Sp.d, colI]
            · have hle : (m + 1) + 1 ≤ 4294967296 := by omega
              simp only [go_sem, Nat.reduceBEq, Nat.reduceEqDiff, Nat.reduceLT, Nat.reduceLeDiff, Nat.reduceAdd, Nat.reduceSub, Nat.reduceMul, reduceCtorEq, Int.reduceToNat, Int.reduceEq, Int.reduceLT, Int.reduceLE, Int.reduceNe, Int.reduceNeg , or_self, or_false, false_or , List.length_map, Int.cast_ofNat_Int, Bool.or_true, Bool.true_or, Bool.or_false, Bool.false_or]
              refine ADrw.treeG (fun k => k == 4 || k == 28 || k == 60) tt_ok (by kernel_rfl) (fun k => if k = 5 ∨ k = 8 then some .L else if k = 10 ∨ k = 12 then some .W else some .S) (.ones [0, 1, 2, 3, 4, 5, 6, 7, 8, 9, 10, 11, 12] .done) (by simp) (fun _ h => nomatch h) rfl rfl (by kernel_rfl) ?_
              simp only [go_sem, Nat.reduceBEq, Nat.reduceEqDiff, Nat.reduceLT, Nat.reduceLeDiff, Nat.reduceAdd, Nat.reduceSub, Nat.reduceMul, reduceCtorEq, Int.reduceToNat, Int.reduceEq, Int.reduceLT, Int.reduceLE, Int.reduceNe, Int.reduceNeg , or_self, or_false, false_or , List.length_map, Int.cast_ofNat_Int, Bool.or_true, Bool.true_or, Bool.or_false, Bool.false_or, O3.cs, cl _ _ (Nat.le_of_lt hlt), hle]
              refine ⟨2, by omega, by omega, ?_⟩
              refine ForgetTo.same' (by simp) (by simp [EWe, Env.look, w64 (n := 2) (by omega) (by omega), O3.cs]) ?_
              simp only [pick4, colI_succ b _ hlt, O3.at]
              simp [bookV, Sp.d, colI]
            · simp only [go_sem, Nat.reduceBEq, Nat.reduceEqDiff, Nat.reduceLT, Nat.reduceLeDiff, Nat.reduceAdd, Nat.reduceSub, Nat.reduceMul, reduceCtorEq, Int.reduceToNat, Int.reduceEq, Int.reduceLT, Int.reduceLE, Int.reduceNe, Int.reduceNeg , or_self, or_false, false_or , List.length_map, Int.cast_ofNat_Int, Bool.or_true, Bool.true_or, Bool.or_false, Bool.false_or]
              refine ⟨m + 1 + 1, ⟨hlt, by rw [allTold_succ b hlt, hall, hok]; rfl⟩, by omega, ?_⟩
              exact ForgetTo.same' (by simp) (by simp [EWe, Env.look, w64 (n := (m : Int) + 1 + 1) (by omega) (by omega)]) (by simp [pick2, bookV])
      · have hlt : ¬ m + 1 < cs.length := by simpa [-Int.natCast_add] using hd
        have hlen : m + 1 = cs.length := by omega
        rw [fin hlen]
        have ht : ∀ l : List D, l.length = m + 1 → l.take (m + 1) = l := fun l hl => List.take_of_length_le (by omega)
        have hc2 : ∀ k, ((colI b k (cs.take (m + 1))).map Sp.d).length = m + 1 := fun k => cl k _ (by omega)
        have hcs : cs.take (m + 1) = cs := List.take_of_length_le (by omega)
        simp only [go_sem, Nat.reduceBEq, Nat.reduceEqDiff, Nat.reduceLT, Nat.reduceLeDiff, Nat.reduceAdd, Nat.reduceSub, Nat.reduceMul, reduceCtorEq, Int.reduceToNat, Int.reduceEq, Int.reduceLT, Int.reduceLE, Int.reduceNe, Int.reduceNeg , or_self, or_false, false_or , List.length_map, Bool.or_true, Bool.true_or, Bool.or_false, Bool.false_or, hc2, ht _ (hc2 _), hK, lists]
        rw [hcs]
        simp [List.range_succ]

theorem c26_3 (b : Book) (cs : List Sp) (hb : b.Fits) (hcl : cs.length ≤ 4294967296) (hg : checkP b = 0 → b.Good) (hK : b.recs.length = 3) (hk : (openP b [cs]).2 = 0) : PC prog 26 [.d b.d, .d (.sl (cs.map Sp.d))] (.tup [.d (lists (toldP b cs).1), .d (.int .i64 (toldP b cs).2)]) := by
  obtain ⟨h0, h1, h2⟩ := openP_ok hk
  refine PC.run (fun k => k == 4 || k == 28 || k == 60) tt_ok (fn := f26) (rs := [.tmp 4, .tmp 5]) rfl rfl rfl rfl rfl rfl rfl ?_
  simp only [go_sem, Nat.reduceBEq, Nat.reduceEqDiff, Nat.reduceLT, Nat.reduceLeDiff, Nat.reduceAdd, Nat.reduceSub, Nat.reduceMul, reduceCtorEq, Int.reduceToNat, Int.reduceEq, Int.reduceLT, Int.reduceLE, Int.reduceNe, Int.reduceNeg , or_self, or_false, false_or , List.length_map, Book.d, Bool.or_true, Bool.true_or, Bool.or_false, Bool.false_or]
  refine (c66 b hb [cs] (by simp) (by simpa using hcl)).call rfl rfl rfl ?_
  simp only [go_sem, Nat.reduceBEq, Nat.reduceEqDiff, Nat.reduceLT, Nat.reduceLeDiff, Nat.reduceAdd, Nat.reduceSub, Nat.reduceMul, reduceCtorEq, Int.reduceToNat, Int.reduceEq, Int.reduceLT, Int.reduceLE, Int.reduceNe, Int.reduceNeg , or_self, or_false, false_or , List.length_map, Book.d, h2, Bool.or_true, Bool.true_or, Bool.or_false, Bool.false_or, hK, Int.cast_ofNat_Int, hasSl, zcells, dcells, List.any_cons, List.any_nil, rep, List.replicate, List.flatten_cons, List.flatten_nil]
  refine ALoop.by (S := Nat) (fun i => [(31, .d (.int .i64 i)), (30, .d (.int .i64 cs.length)), (29, .d (.sl (cs.map Sp.d))), (8, .csl 3 1 3), (6, .ptr 2 0)])
    (pick2 [.cells (bookV b), .arr 1 true [], .cells (bookV b), .cells [.slx (some true) [], .slx (some true) [], .slx (some true) []]] (fun i => [.cells (bookV b), .arr 1 true [], .cells (bookV b), .cells [.ref 4 (i) 0 (i), .ref 5 (i) 0 (i), .ref 6 (i) 0 (i)], .arr 2 false ((colI b 0 (cs.take (i))).map Sp.d), .arr 2 false ((colI b 1 (cs.take (i))).map Sp.d), .arr 2 false ((colI b 2 (cs.take (i))).map Sp.d)])) (fun i => cs.length - i) (fun i => i ≤ cs.length ∧ allTold b (cs.take i) = true) 0 (by simp [pick2]) (fun _ h => nomatch h) ⟨Nat.zero_le _, rfl⟩ ?_ ?_
  · exact ForgetTo.same' (by simp) (by simp [EWe, Env.look]) (by simp [pick2, bookV])
  · rintro i ⟨hi, hall⟩ hn
    refine AWP.run (fun k => k == 4 || k == 28 || k == 60) tt_ok (fun _ h => nomatch h) hn rfl ?_
    have fin : i = cs.length → toldP b cs = ((List.range b.recs.length).map fun k => colI b k cs, 0) := fun h => by
      rw [h, List.take_length] at hall
      simp [toldP, hk, hall]
    have cl : ∀ k j, j ≤ cs.length → ((colI b k (cs.take j)).map Sp.d).length = j := fun k j hj => by rw [List.length_map, colI_len b k hj]
    cases i with
    | zero =>
      simp only [go_sem, Nat.reduceBEq, Nat.reduceEqDiff, Nat.reduceLT, Nat.reduceLeDiff, Nat.reduceAdd, Nat.reduceSub, Nat.reduceMul, reduceCtorEq, Int.reduceToNat, Int.reduceEq, Int.reduceLT, Int.reduceLE, Int.reduceNe, Int.reduceNeg , or_self, or_false, false_or , List.length_map, Bool.or_true, Bool.true_or, Bool.or_false, Bool.false_or]
      refine Br_split (fun hd => ?_) (fun hd => ?_) <;> simp only [go_sem, Nat.reduceBEq, Nat.reduceEqDiff, Nat.reduceLT, Nat.reduceLeDiff, Nat.reduceAdd, Nat.reduceSub, Nat.reduceMul, reduceCtorEq, Int.reduceToNat, Int.reduceEq, Int.reduceLT, Int.reduceLE, Int.reduceNe, Int.reduceNeg , or_self, or_false, false_or , List.length_map, hd]
      · have hlt : 0 < cs.length := by simpa [-Int.natCast_add] using hd
        simp only [go_sem, Nat.reduceBEq, Nat.reduceEqDiff, Nat.reduceLT, Nat.reduceLeDiff, Nat.reduceAdd, Nat.reduceSub, Nat.reduceMul, reduceCtorEq, Int.reduceToNat, Int.reduceEq, Int.reduceLT, Int.reduceLE, Int.reduceNe, Int.reduceNeg , or_self, or_false, false_or , List.length_map, idx_nat, List.getElem?_map, List.getElem?_eq_getElem hlt, Sp.d, Bool.or_true, Bool.true_or, Bool.or_false, Bool.false_or]
        refine (c73 b (0) cs[0] ((hg h0).acc _ (by omega)) ((hg h0).ok _ (by omega))).call rfl rfl rfl ?_
        simp only [go_sem, Nat.reduceBEq, Nat.reduceEqDiff, Nat.reduceLT, Nat.reduceLeDiff, Nat.reduceAdd, Nat.reduceSub, Nat.reduceMul, reduceCtorEq, Int.reduceToNat, Int.reduceEq, Int.reduceLT, Int.reduceLE, Int.reduceNe, Int.reduceNeg , or_self, or_false, false_or , List.length_map, O3.d, O3.cs, Bool.or_true, Bool.true_or, Bool.or_false, Bool.false_or]
        refine Br_split (fun he => ?_) (fun he => ?_) <;> simp only [go_sem, Nat.reduceBEq, Nat.reduceEqDiff, Nat.reduceLT, Nat.reduceLeDiff, Nat.reduceAdd, Nat.reduceSub, Nat.reduceMul, reduceCtorEq, Int.reduceToNat, Int.reduceEq, Int.reduceLT, Int.reduceLE, Int.reduceNe, Int.reduceNeg , or_self, or_false, false_or , List.length_map, he, Bool.or_true, Bool.true_or, Bool.or_false, Bool.false_or]
        · have hf := allTold_false b hlt (by simpa using he)
          simp [toldP, hk, hf, lists]
        · have hok : (toldW b (0) cs[0]).2 = true := by simpa using he
          refine ALoop.by (S := Nat) (fun k => [(47, .d (.int .i64 k)), (46, .d (.int .i64 3)), (31, .d (.int .i64 (0 : Nat))), (30, .d (.int .i64 cs.length)), (29, .d (.sl (cs.map Sp.d))), (8, .csl 3 1 3), (6, .ptr 2 0), (11, .pp (toldW b (0) cs[0]).1.cs)])
            (pick4 [.cells (bookV b), .arr 1 true [], .cells (bookV b), .cells [.slx (some true) [], .slx (some true) [], .slx (some true) []]] [.cells (bookV b), .arr 1 true [], .cells (bookV b), .cells [.ref 4 (0 + 1) 0 (0 + 1), .slx (some true) [], .slx (some true) []], .arr 2 false ((colI b 0 (cs.take (0 + 1))).map Sp.d)] [.cells (bookV b), .arr 1 true [], .cells (bookV b), .cells [.ref 4 (0 + 1) 0 (0 + 1), .ref 5 (0 + 1) 0 (0 + 1), .slx (some true) []], .arr 2 false ((colI b 0 (cs.take (0 + 1))).map Sp.d), .arr 2 false ((colI b 1 (cs.take (0 + 1))).map Sp.d)] [.cells (bookV b), .arr 1 true [], .cells (bookV b), .cells [.ref 4 (0 + 1) 0 (0 + 1), .ref 5 (0 + 1) 0 (0 + 1), .ref 6 (0 + 1) 0 (0 + 1)], .arr 2 false ((colI b 0 (cs.take (0 + 1))).map Sp.d), .arr 2 false ((colI b 1 (cs.take (0 + 1))).map Sp.d), .arr 2 false ((colI b 2 (cs.take (0 + 1))).map Sp.d)]) (fun k => 3 - k) (fun k => k ≤ 3) 0 (by simp [pick4]) (fun _ h => nomatch h) (Nat.zero_le _) ?_ ?_
          · simp [ForgetTo, EW, VW, BBq, BBs, BB, VBs, VB, Env.look, pubV, bookV, pick4, toDs, toD, O3.cs]
          · rintro k hkk hnk
            have hkc : k = 0 ∨ k = 1 ∨ k = 2 ∨ k = 3 := by omega
            refine AWP.run (fun k => k == 4 || k == 28 || k == 60) tt_ok (fun _ h => nomatch h) hnk rfl ?_
            rcases hkc with rfl | rfl | rfl | rfl
            · have hle : (0) + 1 ≤ 4294967296 := by omega
              simp only [go_sem, Nat.reduceBEq, Nat.reduceEqDiff, Nat.reduceLT, Nat.reduceLeDiff, Nat.reduceAdd, Nat.reduceSub, Nat.reduceMul, reduceCtorEq, Int.reduceToNat, Int.reduceEq, Int.reduceLT, Int.reduceLE, Int.reduceNe, Int.reduceNeg , or_self, or_false, false_or , List.length_map, Int.cast_ofNat_Int, Bool.or_true, Bool.true_or, Bool.or_false, Bool.false_or]
              refine ADrw.treeG (fun k => k == 4 || k == 28 || k == 60) tt_ok (by kernel_rfl) (fun k => if k = 5 ∨ k = 8 then some .L else if k = 10 ∨ k = 12 then some .W else some .S) (.ones [0, 1, 2, 3, 4, 5, 6, 7, 8, 9, 10, 11, 12] .done) (by simp) (fun _ h => nomatch h) rfl rfl (by kernel_rfl) ?_
              simp only [go_sem, Nat.reduceBEq, Nat.reduceEqDiff, Nat.reduceLT, Nat.reduceLeDiff, Nat.reduceAdd, Nat.reduceSub, Nat.reduceMul, reduceCtorEq, Int.reduceToNat, Int.reduceEq, Int.reduceLT, Int.reduceLE, Int.reduceNe, Int.reduceNeg , or_self, or_false, false_or , List.length_map, Int.cast_ofNat_Int, Bool.or_true, Bool.true_or, Bool.or_false, Bool.false_or, O3.cs, cl _ _ (Nat.le_of_lt hlt), hle]
              refine ⟨1, by omega, by omega, ?_⟩
              refine ForgetTo.same' (by simp) (by simp [EWe, Env.look, w64 (n := 1) (by omega) (by omega), O3.cs]) ?_
              simp only [pick4, colI_succ b _ hlt, O3.at]
              simp [bookV, Sp.d, colI]
            · have hle : (0) + 1 ≤ 4294967296 := by omega
              simp only [go_sem, Nat.reduceBEq, Nat.reduceEqDiff, Nat.reduceLT, Nat.reduceLeDiff, Nat.reduceAdd, Nat.reduceSub, Nat.reduceMul, reduceCtorEq, Int.reduceToNat, Int.reduceEq, Int.reduceLT, Int.reduceLE, Int.reduceNe, Int.reduceNeg , or_self, or_false, false_or , List.length_map, Int.cast_ofNat_Int, Bool.or_true, Bool.true_or, Bool.or_false, Bool.false_or]
              refine ADrw.treeG (fun k => k == 4 || k == 28 || k == 60) tt_ok (by kernel_rfl) (fun k => if k = 5 ∨ k = 8 then some .L else if k = 10 ∨ k = 12 then some .W else some .S) (.ones [0, 1, 2, 3, 4, 5, 6, 7, 8, 9, 10, 11, 12] .done) (by simp) (fun _ h => nomatch h) rfl rfl (by kernel_rfl) ?_
              simp only [go_sem, Nat.reduceBEq, Nat.reduceEqDiff, Nat.reduceLT, Nat.reduceLeDiff, Nat.reduceAdd, Nat.reduceSub, Nat.reduceMul, reduceCtorEq, Int.reduceToNat, Int.reduceEq, Int.reduceLT, Int.reduceLE, Int.reduceNe, Int.reduceNeg , or_self, or_false, false_or , List.length_map, Int.cast_ofNat_Int, Bool.or_true, Bool.true_or, Bool.or_false, Bool.false_or, O3.cs, cl _ _ (Nat.le_of_lt hlt), hle]
              refine ⟨2, by omega, by omega, ?_⟩
              refine ForgetTo.same' (by simp) (by simp [EWe, Env.look, w64 (n := 2) (by omega) (by omega), O3.cs]) ?_
              simp only [pick4, colI_succ b _ hlt, O3.at]
              simp [bookV, Sp.d, colI]
            · have hle : (0) + 1 ≤ 4294967296 := by omega
              simp only [go_sem, Nat.reduceBEq, Nat.reduceEqDiff, Nat.reduceLT, Nat.reduceLeDiff, Nat.reduceAdd, Nat.reduceSub, Nat.reduceMul, reduceCtorEq, Int.reduceToNat, Int.reduceEq, Int.reduceLT, Int.reduceLE, Int.reduceNe, Int.reduceNeg , or_self, or_false, false_or , List.length_map, Int.cast_ofNat_Int, Bool.or_true, Bool.true_or, Bool.or_false, Bool.false_or]
              refine ADrw.treeG (fun k => k == 4 || k == 28 || k == 60) tt_ok (by kernel_rfl) (fun k => if k = 5 ∨ k = 8 then some .L else if k = 10 ∨ k = 12 then some .W else some .S) (.ones [0, 1, 2, 3, 4, 5, 6, 7, 8, 9, 10, 11, 12] .done) (by simp) (fun _ h => nomatch h) rfl rfl (by kernel_rfl) ?_
              simp only [go_sem, Nat.reduceBEq, Nat.reduceEqDiff, Nat.reduceLT, Nat.reduceLeDiff, Nat.reduceAdd, Nat.reduceSub, Nat.reduceMul, reduceCtorEq, Int.reduceToNat, Int.reduceEq, Int.reduceLT, Int.reduceLE, Int.reduceNe, Int.reduceNeg , or_self, or_false, false_or , List.length_map, Int.cast_ofNat_Int, Bool.or_true, Bool.true_or, Bool.or_false, Bool.false_or, O3.cs, cl _ _ (Nat.le_of_lt hlt), hle]
              refine ⟨3, by omega, by omega, ?_⟩
              refine ForgetTo.same' (by simp) (by simp [EWe, Env.look, w64 (n := 3) (by omega) (by omega), O3.cs]) ?_
              simp only [pick4, colI_succ b _ hlt, O3.at]
              simp [bookV, Sp.d, colI]
            · simp only [go_sem, Nat.reduceBEq, Nat.reduceEqDiff, Nat.reduceLT, Nat.reduceLeDiff, Nat.reduceAdd, Nat.reduceSub, Nat.reduceMul, reduceCtorEq, Int.reduceToNat, Int.reduceEq, Int.reduceLT, Int.reduceLE, Int.reduceNe, Int.reduceNeg , or_self, or_false, false_or , List.length_map, Int.cast_ofNat_Int, Bool.or_true, Bool.true_or, Bool.or_false, Bool.false_or]
              refine ⟨0 + 1, ⟨hlt, by rw [allTold_succ b hlt, hall, hok]; rfl⟩, by omega, ?_⟩
              exact ForgetTo.same' (by simp) (by simp [EWe, Env.look, w64 (n := 1) (by omega) (by omega)]) (by simp [pick2, bookV])
      · have hlt : ¬ 0 < cs.length := by simpa [-Int.natCast_add] using hd
        have hlen : 0 = cs.length := by omega
        rw [fin hlen]
        have hgs : b.stock.length = 0 := by omega
        have := (hg h0)
        exact absurd h0 (checkP_pos hgs)
    | succ m =>
      simp only [go_sem, Nat.reduceBEq, Nat.reduceEqDiff, Nat.reduceLT, Nat.reduceLeDiff, Nat.reduceAdd, Nat.reduceSub, Nat.reduceMul, reduceCtorEq, Int.reduceToNat, Int.reduceEq, Int.reduceLT, Int.reduceLE, Int.reduceNe, Int.reduceNeg , or_self, or_false, false_or , List.length_map, Bool.or_true, Bool.true_or, Bool.or_false, Bool.false_or]
      refine Br_split (fun hd => ?_) (fun hd => ?_) <;> simp only [go_sem, Nat.reduceBEq, Nat.reduceEqDiff, Nat.reduceLT, Nat.reduceLeDiff, Nat.reduceAdd, Nat.reduceSub, Nat.reduceMul, reduceCtorEq, Int.reduceToNat, Int.reduceEq, Int.reduceLT, Int.reduceLE, Int.reduceNe, Int.reduceNeg , or_self, or_false, false_or , List.length_map, hd]
      · have hlt : m + 1 < cs.length := by simpa [-Int.natCast_add] using hd
        simp only [go_sem, Nat.reduceBEq, Nat.reduceEqDiff, Nat.reduceLT, Nat.reduceLeDiff, Nat.reduceAdd, Nat.reduceSub, Nat.reduceMul, reduceCtorEq, Int.reduceToNat, Int.reduceEq, Int.reduceLT, Int.reduceLE, Int.reduceNe, Int.reduceNeg , or_self, or_false, false_or , List.length_map, idx_nat, List.getElem?_map, List.getElem?_eq_getElem hlt, Sp.d, Bool.or_true, Bool.true_or, Bool.or_false, Bool.false_or]
        refine (c73 b (m + 1) cs[m + 1] ((hg h0).acc _ (by omega)) ((hg h0).ok _ (by omega))).call rfl rfl rfl ?_
        simp only [go_sem, Nat.reduceBEq, Nat.reduceEqDiff, Nat.reduceLT, Nat.reduceLeDiff, Nat.reduceAdd, Nat.reduceSub, Nat.reduceMul, reduceCtorEq, Int.reduceToNat, Int.reduceEq, Int.reduceLT, Int.reduceLE, Int.reduceNe, Int.reduceNeg , or_self, or_false, false_or , List.length_map, O3.d, O3.cs, Bool.or_true, Bool.true_or, Bool.or_false, Bool.false_or]
        refine Br_split (fun he => ?_) (fun he => ?_) <;> simp only [go_sem, Nat.reduceBEq, Nat.reduceEqDiff, Nat.reduceLT, Nat.reduceLeDiff, Nat.reduceAdd, Nat.reduceSub, Nat.reduceMul, reduceCtorEq, Int.reduceToNat, Int.reduceEq, Int.reduceLT, Int.reduceLE, Int.reduceNe, Int.reduceNeg , or_self, or_false, false_or , List.length_map, he, Bool.or_true, Bool.true_or, Bool.or_false, Bool.false_or]
        · have hf := allTold_false b hlt (by simpa using he)
          simp [toldP, hk, hf, lists]
        · have hok : (toldW b (m + 1) cs[m + 1]).2 = true := by simpa using he
          refine ALoop.by (S := Nat) (fun k => [(47, .d (.int .i64 k)), (46, .d (.int .i64 3)), (31, .d (.int .i64 (m + 1 : Nat))), (30, .d (.int .i64 cs.length)), (29, .d (.sl (cs.map Sp.d))), (8, .csl 3 1 3), (6, .ptr 2 0), (11, .pp (toldW b (m + 1) cs[m + 1]).1.cs)])
            (pick4 [.cells (bookV b), .arr 1 true [], .cells (bookV b), .cells [.ref 4 (m + 1) 0 (m + 1), .ref 5 (m + 1) 0 (m + 1), .ref 6 (m + 1) 0 (m + 1)], .arr 2 false ((colI b 0 (cs.take (m + 1))).map Sp.d), .arr 2 false ((colI b 1 (cs.take (m + 1))).map Sp.d), .arr 2 false ((colI b 2 (cs.take (m + 1))).map Sp.d)] [.cells (bookV b), .arr 1 true [], .cells (bookV b), .cells [.ref 4 (m + 1 + 1) 0 (m + 1 + 1), .ref 5 (m + 1) 0 (m + 1), .ref 6 (m + 1) 0 (m + 1)], .arr 2 false ((colI b 0 (cs.take (m + 1 + 1))).map Sp.d), .arr 2 false ((colI b 1 (cs.take (m + 1))).map Sp.d), .arr 2 false ((colI b 2 (cs.take (m + 1))).map Sp.d)] [.cells (bookV b), .arr 1 true [], .cells (bookV b), .cells [.ref 4 (m + 1 + 1) 0 (m + 1 + 1), .ref 5 (m + 1 + 1) 0 (m + 1 + 1), .ref 6 (m + 1) 0 (m + 1)], .arr 2 false ((colI b 0 (cs.take (m + 1 + 1))).map Sp.d), .arr 2 false ((colI b 1 (cs.take (m + 1 + 1))).map Sp.d), .arr 2 false ((colI b 2 (cs.take (m + 1))).map Sp.d)] [.cells (bookV b), .arr 1 true [], .cells (bookV b), .cells [.ref 4 (m + 1 + 1) 0 (m + 1 + 1), .ref 5 (m + 1 + 1) 0 (m + 1 + 1), .ref 6 (m + 1 + 1) 0 (m + 1 + 1)], .arr 2 false ((colI b 0 (cs.take (m + 1 + 1))).map Sp.d), .arr 2 false ((colI b 1 (cs.take (m + 1 + 1))).map Sp.d), .arr 2 false ((colI b 2 (cs.take (m + 1 + 1))).map Sp.d)]) (fun k => 3 - k) (fun k => k ≤ 3) 0 (by simp [pick4]) (fun _ h => nomatch h) (Nat.zero_le _) ?_ ?_
          · simp [ForgetTo, EW, VW, BBq, BBs, BB, VBs, VB, Env.look, pubV, bookV, pick4, toDs, toD, O3.cs]
          · rintro k hkk hnk
            have hkc : k = 0 ∨ k = 1 ∨ k = 2 ∨ k = 3 := by omega
            refine AWP.run (fun k => k == 4 || k == 28 || k == 60) tt_ok (fun _ h => nomatch h) hnk rfl ?_
            rcases hkc with rfl | rfl | rfl | rfl
            · have hle : (m + 1) + 1 ≤ 4294967296 := by omega
              simp only [go_sem, Nat.reduceBEq, Nat.reduceEqDiff, Nat.reduceLT, Nat.reduceLeDiff, Nat.reduceAdd, Nat.reduceSub, Nat.reduceMul, reduceCtorEq, Int.reduceToNat, Int.reduceEq, Int.reduceLT, Int.reduceLE, Int.reduceNe, Int.reduceNeg , or_self, or_false, false_or , List.length_map, Int.cast_ofNat_Int, Bool.or_true, Bool.true_or, Bool.or_false, Bool.false_or]
              refine ADrw.treeG (fun k => k == 4 || k == 28 || k == 60) tt_ok (by kernel_rfl) (fun k => if k = 5 ∨ k = 8 then some .L else if k = 10 ∨ k = 12 then some .W else some .S) (.ones [0, 1, 2, 3, 4, 5, 6, 7, 8, 9, 10, 11, 12] .done) (by simp) (fun _ h => nomatch h) rfl rfl (by kernel_rfl) ?_
              simp only [go_sem, Nat.reduceBEq, Nat.reduceEqDiff, Nat.reduceLT, Nat.reduceLeDiff, Nat.reduceAdd, Nat.reduceSub, Nat.reduceMul, reduceCtorEq, Int.reduceToNat, Int.reduceEq, Int.reduceLT, Int.reduceLE, Int.reduceNe, Int.reduceNeg , or_self, or_false, false_or , List.length_map, Int.cast_ofNat_Int, Bool.or_true, Bool.true_or, Bool.or_false, Bool.false_or, O3.cs, cl _ _ (Nat.le_of_lt hlt), hle]
              refine ⟨1, by omega, by omega, ?_⟩
              refine ForgetTo.same' (by simp) (by simp [EWe, Env.look, w64 (n := 1) (by omega) (by omega), O3.cs]) ?_
              simp only [pick4, colI_succ b _ hlt, O3.at]
              simp [bookV, Sp.d, colI]
            · have hle : (m + 1) + 1 ≤ 4294967296 := by omega
              simp only [go_sem, Nat.reduceBEq, Nat.reduceEqDiff, Nat.reduceLT, Nat.reduceLeDiff, Nat.reduceAdd, Nat.reduceSub, Nat.reduceMul, reduceCtorEq, Int.reduceToNat, Int.reduceEq, Int.reduceLT, Int.reduceLE, Int.reduceNe, Int.reduceNeg , or_self, or_false, false_or , List.length_map, Int.cast_ofNat_Int, Bool.or_true, Bool.true_or, Bool.or_false, Bool.false_or]
              refine ADrw.treeG (fun k => k == 4 || k == 28 || k == 60) tt_ok (by kernel_rfl) (fun k => if k = 5 ∨ k = 8 then some .L else if k = 10 ∨ k = 12 then some .W else some .S) (.ones [0, 1, 2, 3, 4, 5, 6, 7, 8, 9, 10, 11, 12] .done) (by simp) (fun _ h => nomatch h) rfl rfl (by kernel_rfl) ?_
              simp only [go_sem, Nat.reduceBEq, Nat.reduceEqDiff, Nat.reduceLT, Nat.reduceLeDiff, Nat.reduceAdd, Nat.reduceSub, Nat.reduceMul, reduceCtorEq, Int.reduceToNat, Int.reduceEq, Int.reduceLT, Int.reduceLE, Int.reduceNe, Int.reduceNeg , or_self, or_false, false_or , List.length_map, Int.cast_ofNat_Int, Bool.or_true, Bool.true_or, Bool.or_false, Bool.false_or, O3.cs, cl _ _ (Nat.le_of_lt hlt), hle]
              refine ⟨2, by omega, by omega, ?_⟩
              refine ForgetTo.same' (by simp) (by simp [EWe, Env.look, w64 (n := 2) (by omega) (by omega), O3.cs]) ?_
              simp only [pick4, colI_succ b _ hlt, O3.at]
              simp [bookV, Sp.d, colI]
            · have hle : (m + 1) + 1 ≤ 4294967296 := by omega
              simp only [go_sem, Nat.reduceBEq, Nat.reduceEqDiff, Nat.reduceLT, Nat.reduceLeDiff, Nat.reduceAdd, Nat.reduceSub, Nat.reduceMul, reduceCtorEq, Int.reduceToNat, Int.reduceEq, Int.reduceLT, Int.reduceLE, Int.reduceNe, Int.reduceNeg , or_self, or_false, false_or , List.length_map, Int.cast_ofNat_Int, Bool.or_true, Bool.true_or, Bool.or_false, Bool.false_or]
              refine ADrw.treeG (fun k => k == 4 || k == 28 || k == 60) tt_ok (by kernel_rfl) (fun k => if k = 5 ∨ k = 8 then some .L else if k = 10 ∨ k = 12 then some .W else some .S) (.ones [0, 1, 2, 3, 4, 5, 6, 7, 8, 9, 10, 11, 12] .done) (by simp) (fun _ h => nomatch h) rfl rfl (by kernel_rfl) ?_
              simp only [go_sem, Nat.reduceBEq, Nat.reduceEqDiff, Nat.reduceLT, Nat.reduceLeDiff, Nat.reduceAdd, Nat.reduceSub, Nat.reduceMul, reduceCtorEq, Int.reduceToNat, Int.reduceEq, Int.reduceLT, Int.reduceLE, Int.reduceNe, Int.reduceNeg , or_self, or_false, false_or , List.length_map, Int.cast_ofNat_Int, Bool.or_true, Bool.true_or, Bool.or_false, Bool.false_or, O3.cs, cl _ _ (Nat.le_of_lt hlt), hle]
              refine ⟨3, by omega, by omega, ?_⟩
              refine ForgetTo.same' (by simp) (by simp [EWe, Env.look, w64 (n := 3) (by omega) (by omega), O3.cs]) ?_
              simp only [pick4, colI_succ b _ hlt, O3.at]
              simp [bookV, Sp.d, colI]
            · simp only [go_sem, Nat.reduceBEq, Nat.reduceEqDiff, Nat.reduceLT, Nat.reduceLeDiff, Nat.reduceAdd, Nat.reduceSub, Nat.reduceMul, reduceCtorEq, Int.reduceToNat, Int.reduceEq, Int.reduceLT, Int.reduceLE, Int.reduceNe, Int.reduceNeg , or_self, or_false, false_or , List.length_map, Int.cast_ofNat_Int, Bool.or_true, Bool.true_or, Bool.or_false, Bool.false_or]
              refine ⟨m + 1 + 1, ⟨hlt, by rw [allTold_succ b hlt, hall, hok]; rfl⟩, by omega, ?_⟩
              exact ForgetTo.same' (by simp) (by simp [EWe, Env.look, w64 (n := (m : Int) + 1 + 1) (by omega) (by omega)]) (by simp [pick2, bookV])
      · have hlt : ¬ m + 1 < cs.length := by simpa [-Int.natCast_add] using hd
        have hlen : m + 1 = cs.length := by omega
        rw [fin hlen]
        have ht : ∀ l : List D, l.length = m + 1 → l.take (m + 1) = l := fun l hl => List.take_of_length_le (by omega)
        have hc2 : ∀ k, ((colI b k (cs.take (m + 1))).map Sp.d).length = m + 1 := fun k => cl k _ (by omega)
        have hcs : cs.take (m + 1) = cs := List.take_of_length_le (by omega)
        simp only [go_sem, Nat.reduceBEq, Nat.reduceEqDiff, Nat.reduceLT, Nat.reduceLeDiff, Nat.reduceAdd, Nat.reduceSub, Nat.reduceMul, reduceCtorEq, Int.reduceToNat, Int.reduceEq, Int.reduceLT, Int.reduceLE, Int.reduceNe, Int.reduceNeg , or_self, or_false, false_or , List.length_map, Bool.or_true, Bool.true_or, Bool.or_false, Bool.false_or, hc2, ht _ (hc2 _), hK, lists]
        rw [hcs]
        simp [List.range_succ]

theorem c26 (b : Book) (cs : List Sp) (hb : b.Fits) (hcl : cs.length ≤ 4294967296) (hg : checkP b = 0 → b.Good) : PC prog 26 [.d b.d, .d (.sl (cs.map Sp.d))] (.tup [.d (lists (toldP b cs).1), .d (.int .i64 (toldP b cs).2)]) := by
  by_cases hk : (openP b [cs]).2 = 0
  · have h3 : b.recs.length ≤ 3 := checkP_recs (openP_ok hk).1
    have : b.recs.length = 0 ∨ b.recs.length = 1 ∨ b.recs.length = 2 ∨ b.recs.length = 3 := by omega
    rcases this with h | h | h | h
    · exact c26_0 b cs hb hcl hg h hk
    · exact c26_1 b cs hb hcl hg h hk
    · exact c26_2 b cs hb hcl hg h hk
    · exact c26_3 b cs hb hcl hg h hk
  · refine PC.run (fun k => k == 4) tt_ok (fn := f26) (rs := [.tmp 4, .tmp 5]) rfl rfl rfl rfl rfl rfl rfl ?_
    simp only [go_sem, Nat.reduceBEq, Nat.reduceEqDiff, Nat.reduceLT, Nat.reduceLeDiff, Nat.reduceAdd, Nat.reduceSub, Nat.reduceMul, reduceCtorEq, Int.reduceToNat, Int.reduceEq, Int.reduceLT, Int.reduceLE, Int.reduceNe, Int.reduceNeg , or_self, or_false, false_or , List.length_map, Book.d]
    refine (c66 b hb [cs] (by simp) (by simpa using hcl)).call rfl rfl rfl ?_
    have hl : toldP b cs = ([], (openP b [cs]).2) := by simp [toldP, hk]
    rw [hl]
    simp only [go_sem, Nat.reduceBEq, Nat.reduceEqDiff, Nat.reduceLT, Nat.reduceLeDiff, Nat.reduceAdd, Nat.reduceSub, Nat.reduceMul, reduceCtorEq, Int.reduceToNat, Int.reduceEq, Int.reduceLT, Int.reduceLE, Int.reduceNe, Int.reduceNeg , or_self, or_false, false_or , List.length_map, Book.d, hk]
    simp [lists]
end Go.Aw
end

section
namespace Go.Aw
open Go Go.Proofs.Try

theorem enc_fix : Enc 3 (Tt 105) FixS.d := fun x => ⟨rfl, rfl⟩

def fixOne (b : Book) (c : Sp) (g : Int) (i : Nat) (y : Ent) : List FixS := if y.goods = g then (if (amtW b y c).2 = true then [⟨i, (amtW b y c).1⟩] else []) else []

def fixI (b : Book) (c : Sp) (g : Int) (l : List Ent) : List FixS := (l.mapIdx fun i y => fixOne b c g i y).flatten

theorem fixI_succ (b : Book) (c : Sp) (g : Int) {l : List Ent} {i : Nat} (h : i < l.length) : fixI b c g (l.take (i + 1)) = fixI b c g (l.take i) ++ fixOne b c g i l[i] := by
  unfold fixI
  rw [mapIdx_take_succ _ h, List.flatten_append]
  simp

theorem fixOne_len (b : Book) (c : Sp) (g : Int) (i : Nat) (y : Ent) : (fixOne b c g i y).length ≤ 1 := by
  unfold fixOne
  split
  · split <;> simp
  · simp

theorem fixI_len (b : Book) (c : Sp) (g : Int) {l : List Ent} : ∀ i, i ≤ l.length → (fixI b c g (l.take i)).length ≤ i
  | 0, _ => by simp [fixI]
  | i + 1, h => by
    rw [fixI_succ b c g (by omega), List.length_append]
    have := fixI_len b c g (l := l) i (by omega)
    have := fixOne_len b c g i l[i]
    omega

theorem oddI_mem {b : Book} {cs : List Sp} {x : Int} (h : x ∈ oddI b cs) : ∃ g : Nat, g < cs.length ∧ x = g := by
  simp only [oddI, List.mem_flatMap, List.mem_mapIdx] at h
  obtain ⟨p, ⟨i, hi, rfl⟩, hx⟩ := h
  split at hx
  · cases hx
  · exact ⟨i, hi, by simpa using hx⟩

def fixP (b : Book) (cs : List Sp) : List FixS × Int :=
  if (openP b [cs]).2 ≠ 0 then ([], (openP b [cs]).2) else match oddI b cs with
    | [] => ([], 6)
    | [g] => if fixI b (cs.getD g.toNat ⟨0, 0⟩) g b.ents = [] then ([], 7) else (fixI b (cs.getD g.toNat ⟨0, 0⟩) g b.ents, 0)
    | _ => ([], 7)

@[go_sem] def fixH (b : Book) (l : List FixS) : Heap := [.cells (bookV b), .arr 3 l.isEmpty (l.map FixS.d), .cells (bookV b)]

theorem c32 (b : Book) (cs : List Sp) (hb : b.Fits) (hcl : cs.length ≤ 4294967296) (hg : checkP b = 0 → b.Good) : PC prog 32 [.d b.d, .d (.sl (cs.map Sp.d))] (.tup [.d (.sl ((fixP b cs).1.map FixS.d)), .d (.int .i64 (fixP b cs).2)]) := by
  have hen := hb.ents
  refine PC.run (fun k => k == 4) tt_ok (fn := f32) (rs := [.tmp 4, .tmp 5]) rfl rfl rfl rfl rfl rfl rfl ?_
  simp only [go_sem, Nat.reduceBEq, Nat.reduceEqDiff, Nat.reduceLT, Nat.reduceLeDiff, Nat.reduceAdd, Nat.reduceSub, Nat.reduceMul, reduceCtorEq, Int.reduceToNat, Int.reduceEq, Int.reduceLT, Int.reduceLE, Int.reduceNe, Int.reduceNeg , or_self, or_false, false_or , List.length_map, Book.d]
  refine (c66 b hb [cs] (by simp) (by simpa using hcl)).call rfl rfl rfl ?_
  by_cases hk : (openP b [cs]).2 = 0
  · obtain ⟨h0, h1, h2⟩ := openP_ok hk
    simp only [go_sem, Nat.reduceBEq, Nat.reduceEqDiff, Nat.reduceLT, Nat.reduceLeDiff, Nat.reduceAdd, Nat.reduceSub, Nat.reduceMul, reduceCtorEq, Int.reduceToNat, Int.reduceEq, Int.reduceLT, Int.reduceLE, Int.reduceNe, Int.reduceNeg , or_self, or_false, false_or , List.length_map, Book.d, h2]
    refine (c72 b cs hb (hg h0) h1).call rfl rfl rfl ?_
    have hmem := fun x => oddI_mem (b := b) (cs := cs) (x := x)
    cases ho : oddI b cs with
    | nil =>
      have hl : fixP b cs = ([], 6) := by simp [fixP, hk, ho]
      rw [hl]
      simp only [go_sem, Nat.reduceBEq, Nat.reduceEqDiff, Nat.reduceLT, Nat.reduceLeDiff, Nat.reduceAdd, Nat.reduceSub, Nat.reduceMul, reduceCtorEq, Int.reduceToNat, Int.reduceEq, Int.reduceLT, Int.reduceLE, Int.reduceNe, Int.reduceNeg , or_self, or_false, false_or , List.length_map, Int.cast_ofNat_Int]
    | cons g r =>
      cases r with
      | cons g2 r =>
        have hl : fixP b cs = ([], 7) := by simp [fixP, hk, ho]
        rw [hl]
        simp only [go_sem, Nat.reduceBEq, Nat.reduceEqDiff, Nat.reduceLT, Nat.reduceLeDiff, Nat.reduceAdd, Nat.reduceSub, Nat.reduceMul, reduceCtorEq, Int.reduceToNat, Int.reduceEq, Int.reduceLT, Int.reduceLE, Int.reduceNe, Int.reduceNeg , or_self, or_false, false_or , List.length_map]
        refine Br_split (fun h => ?_) (fun h => ?_) <;> simp only [go_sem, Nat.reduceBEq, Nat.reduceEqDiff, Nat.reduceLT, Nat.reduceLeDiff, Nat.reduceAdd, Nat.reduceSub, Nat.reduceMul, reduceCtorEq, Int.reduceToNat, Int.reduceEq, Int.reduceLT, Int.reduceLE, Int.reduceNe, Int.reduceNeg , or_self, or_false, false_or , List.length_map, h]
        · simp at h; omega
        · refine Br_split (fun h => ?_) (fun h => ?_) <;> simp only [go_sem, Nat.reduceBEq, Nat.reduceEqDiff, Nat.reduceLT, Nat.reduceLeDiff, Nat.reduceAdd, Nat.reduceSub, Nat.reduceMul, reduceCtorEq, Int.reduceToNat, Int.reduceEq, Int.reduceLT, Int.reduceLE, Int.reduceNe, Int.reduceNeg , or_self, or_false, false_or , List.length_map, h]
          simp at h; omega
      | nil =>
        obtain ⟨gn, hgn, rfl⟩ := hmem g (by rw [ho]; simp)
        have hgc : cs.getD gn ⟨0, 0⟩ = cs[gn] := getD_eq hgn
        have hl : fixP b cs = if fixI b cs[gn] gn b.ents = [] then ([], 7) else (fixI b cs[gn] gn b.ents, 0) := by
          simp only [fixP, hk, ho, ne_eq, not_true, if_false, Int.toNat_natCast, hgc]
        rw [hl]
        simp only [go_sem, Nat.reduceBEq, Nat.reduceEqDiff, Nat.reduceLT, Nat.reduceLeDiff, Nat.reduceAdd, Nat.reduceSub, Nat.reduceMul, reduceCtorEq, Int.reduceToNat, Int.reduceEq, Int.reduceLT, Int.reduceLE, Int.reduceNe, Int.reduceNeg , or_self, or_false, false_or , List.length_map, Int.cast_ofNat_Int, idx?, Int.reduceLE]
        refine ALoop.by (S := Nat) (fun i => [(39, .d (.int .i64 i)), (38, .d (.int .i64 b.ents.length)), (37, .d (.sl (b.ents.map Ent.d))), (4, .ref 1 (fixI b cs[gn] gn (b.ents.take i)).length 0 (fixI b cs[gn] gn (b.ents.take i)).length), (6, .ptr 2 0), (8, .d (.int .i64 gn)), (1, .d (.sl (cs.map Sp.d)))])
          (fun i => fixH b (fixI b cs[gn] gn (b.ents.take i))) (fun i => b.ents.length - i) (fun i => i ≤ b.ents.length) 0 (by simp) (fun _ h => nomatch h) (Nat.zero_le _) ?_ ?_
        · exact ForgetTo.same' (by simp) (by simp [EWe, Env.look, fixI]) (by simp [fixH, bookV, fixI])
        · rintro i hi hn
          have hlen := fixI_len b cs[gn] gn (l := b.ents) i hi
          refine AWP.run (fun k => k == 4) tt_ok (fun _ h => nomatch h) (by simp) rfl ?_
          simp only [go_sem, Nat.reduceBEq, Nat.reduceEqDiff, Nat.reduceLT, Nat.reduceLeDiff, Nat.reduceAdd, Nat.reduceSub, Nat.reduceMul, reduceCtorEq, Int.reduceToNat, Int.reduceEq, Int.reduceLT, Int.reduceLE, Int.reduceNe, Int.reduceNeg , or_self, or_false, false_or , List.length_map]
          refine Br_split (fun hd => ?_) (fun hd => ?_) <;> simp only [go_sem, Nat.reduceBEq, Nat.reduceEqDiff, Nat.reduceLT, Nat.reduceLeDiff, Nat.reduceAdd, Nat.reduceSub, Nat.reduceMul, reduceCtorEq, Int.reduceToNat, Int.reduceEq, Int.reduceLT, Int.reduceLE, Int.reduceNe, Int.reduceNeg , or_self, or_false, false_or , List.length_map, hd]
          · have hlt : i < b.ents.length := by simpa using hd
            have hle : (fixI b cs[gn] gn (b.ents.take i)).length + 1 ≤ 4294967296 := by omega
            simp only [go_sem, Nat.reduceBEq, Nat.reduceEqDiff, Nat.reduceLT, Nat.reduceLeDiff, Nat.reduceAdd, Nat.reduceSub, Nat.reduceMul, reduceCtorEq, Int.reduceToNat, Int.reduceEq, Int.reduceLT, Int.reduceLE, Int.reduceNe, Int.reduceNeg , or_self, or_false, false_or , List.length_map, idx_nat, List.getElem?_map, List.getElem?_eq_getElem hlt, Ent.d]
            refine Br_split (fun h3 => ?_) (fun h3 => ?_) <;> simp only [go_sem, Nat.reduceBEq, Nat.reduceEqDiff, Nat.reduceLT, Nat.reduceLeDiff, Nat.reduceAdd, Nat.reduceSub, Nat.reduceMul, reduceCtorEq, Int.reduceToNat, Int.reduceEq, Int.reduceLT, Int.reduceLE, Int.reduceNe, Int.reduceNeg , or_self, or_false, false_or , List.length_map, h3]
            · have hne : ¬ b.ents[i].goods = gn := by simpa using h3
              refine ⟨i + 1, hlt, by omega, ?_⟩
              rw [fixI_succ b _ _ hlt, show fixOne b cs[gn] gn i b.ents[i] = [] by simp [fixOne, hne], List.append_nil]
              simp [ForgetTo, EW, VW, BBq, BBs, BB, VBs, VB, Env.look, pubV, bookV, fixH, w64 (n := (i : Int) + 1) (by omega) (by omega)]
            · have heq : b.ents[i].goods = gn := by simpa using h3
              refine ADrw.treeG (fun k => k == 4) tt_ok (by kernel_rfl) (fun k => if k = 0 ∨ k = 1 then some .L else if k = 10 then some .A else if k = 11 then some .W else some .S) (.ones [0, 1, 2, 3, 4, 5, 6, 7, 8, 9, 10, 11, 12] .done) (by simp) (fun _ h => nomatch h) rfl rfl (by kernel_rfl) ?_
              simp only [go_sem, Nat.reduceBEq, Nat.reduceEqDiff, Nat.reduceLT, Nat.reduceLeDiff, Nat.reduceAdd, Nat.reduceSub, Nat.reduceMul, reduceCtorEq, Int.reduceToNat, Int.reduceEq, Int.reduceLT, Int.reduceLE, Int.reduceNe, Int.reduceNeg , or_self, or_false, false_or , List.length_map, idx_nat, List.getElem?_map, List.getElem?_eq_getElem hgn, Sp.d]
              have hacc : b.Acc b.ents[i].goods.toNat := by rw [heq, Int.toNat_natCast]; exact (hg h0).acc gn (by omega)
              have hok : (acctW b b.ents[i].goods.toNat 365).Ok := by rw [heq, Int.toNat_natCast]; exact (hg h0).ok gn (by omega)
              refine (c75 b b.ents[i] cs[gn] hacc (by omega) hok).callS rfl rfl rfl rfl rfl rfl ?_
              simp only [go_sem, Nat.reduceBEq, Nat.reduceEqDiff, Nat.reduceLT, Nat.reduceLeDiff, Nat.reduceAdd, Nat.reduceSub, Nat.reduceMul, reduceCtorEq, Int.reduceToNat, Int.reduceEq, Int.reduceLT, Int.reduceLE, Int.reduceNe, Int.reduceNeg , or_self, or_false, false_or , List.length_map, Sp.d]
              refine Br_split (fun h4 => ?_) (fun h4 => ?_) <;> simp only [go_sem, Nat.reduceBEq, Nat.reduceEqDiff, Nat.reduceLT, Nat.reduceLeDiff, Nat.reduceAdd, Nat.reduceSub, Nat.reduceMul, reduceCtorEq, Int.reduceToNat, Int.reduceEq, Int.reduceLT, Int.reduceLE, Int.reduceNe, Int.reduceNeg , or_self, or_false, false_or , List.length_map, h4, hle]
              · refine ⟨i + 1, hlt, by omega, ?_⟩
                rw [fixI_succ b _ _ hlt, show fixOne b cs[gn] gn i b.ents[i] = [⟨i, (amtW b b.ents[i] cs[gn]).1⟩] by simp [fixOne, heq, h4]]
                simp [ForgetTo, EW, VW, BBq, BBs, BB, VBs, VB, Env.look, pubV, bookV, fixH, w64 (n := (i : Int) + 1) (by omega) (by omega), FixS.d]
              · refine ⟨i + 1, hlt, by omega, ?_⟩
                rw [fixI_succ b _ _ hlt, show fixOne b cs[gn] gn i b.ents[i] = [] by simp [fixOne, heq, h4], List.append_nil]
                simp [ForgetTo, EW, VW, BBq, BBs, BB, VBs, VB, Env.look, pubV, bookV, fixH, w64 (n := (i : Int) + 1) (by omega) (by omega)]
          · have hlt : ¬ i < b.ents.length := by simpa using hd
            rw [show b.ents.take i = b.ents from List.take_of_length_le (by omega)]
            generalize fixI b cs[gn] gn b.ents = l
            have ht : (l.map FixS.d).take l.length = l.map FixS.d := List.take_of_length_le (by simp)
            cases l with
            | nil => simp only [go_sem, Nat.reduceBEq, Nat.reduceEqDiff, Nat.reduceLT, Nat.reduceLeDiff, Nat.reduceAdd, Nat.reduceSub, Nat.reduceMul, reduceCtorEq, Int.reduceToNat, Int.reduceEq, Int.reduceLT, Int.reduceLE, Int.reduceNe, Int.reduceNeg , or_self, or_false, false_or , List.length_map, List.isEmpty_nil, Int.cast_ofNat_Int]
            | cons x r =>
              simp only [go_sem, Nat.reduceBEq, Nat.reduceEqDiff, Nat.reduceLT, Nat.reduceLeDiff, Nat.reduceAdd, Nat.reduceSub, Nat.reduceMul, reduceCtorEq, Int.reduceToNat, Int.reduceEq, Int.reduceLT, Int.reduceLE, Int.reduceNe, Int.reduceNeg , or_self, or_false, false_or , List.length_map, List.isEmpty_cons]
              simp [List.take_of_length_le]
  · have hl : fixP b cs = ([], (openP b [cs]).2) := by simp [fixP, hk]
    rw [hl]
    simp only [go_sem, Nat.reduceBEq, Nat.reduceEqDiff, Nat.reduceLT, Nat.reduceLeDiff, Nat.reduceAdd, Nat.reduceSub, Nat.reduceMul, reduceCtorEq, Int.reduceToNat, Int.reduceEq, Int.reduceLT, Int.reduceLE, Int.reduceNe, Int.reduceNeg , or_self, or_false, false_or , List.length_map, Book.d, hk]
end Go.Aw
end

section
namespace Go.Aw
open Go Go.Proofs.Try

theorem c94 (n : Int) : PC prog 94 [.d (.int .i64 n)] (.d (.bool false)) := by
  refine PC.run (fun _ => false) tt_ok (fn := f94) (rs := [.tmp 2]) rfl rfl rfl rfl rfl rfl rfl ?_
  simp only [go_sem, Nat.reduceBEq, Nat.reduceEqDiff, Nat.reduceLT, Nat.reduceLeDiff, Nat.reduceAdd, Nat.reduceSub, Nat.reduceMul, reduceCtorEq, Int.reduceToNat, Int.reduceEq, Int.reduceLT, Int.reduceLE, Int.reduceNe, Int.reduceNeg , or_self, or_false, false_or , List.length_map]

def cmpI (x y : Int) : Int := if x < y then -1 else if x > y then 1 else 0

theorem c80 (x y : Int) : PC prog 80 [.d (.int .i64 x), .d (.int .i64 y)] (.d (.int .i64 (cmpI x y))) := by
  refine PC.run (fun _ => false) tt_ok (fn := f80) (rs := [.tmp 4]) rfl rfl rfl rfl rfl rfl rfl ?_
  simp only [go_sem, Nat.reduceBEq, Nat.reduceEqDiff, Nat.reduceLT, Nat.reduceLeDiff, Nat.reduceAdd, Nat.reduceSub, Nat.reduceMul, reduceCtorEq, Int.reduceToNat, Int.reduceEq, Int.reduceLT, Int.reduceLE, Int.reduceNe, Int.reduceNeg , or_self, or_false, false_or , List.length_map]
  refine (c94 x).call rfl rfl rfl ?_
  simp only [go_sem, Nat.reduceBEq, Nat.reduceEqDiff, Nat.reduceLT, Nat.reduceLeDiff, Nat.reduceAdd, Nat.reduceSub, Nat.reduceMul, reduceCtorEq, Int.reduceToNat, Int.reduceEq, Int.reduceLT, Int.reduceLE, Int.reduceNe, Int.reduceNeg , or_self, or_false, false_or , List.length_map]
  refine (c94 y).call rfl rfl rfl ?_
  simp only [go_sem, Nat.reduceBEq, Nat.reduceEqDiff, Nat.reduceLT, Nat.reduceLeDiff, Nat.reduceAdd, Nat.reduceSub, Nat.reduceMul, reduceCtorEq, Int.reduceToNat, Int.reduceEq, Int.reduceLT, Int.reduceLE, Int.reduceNe, Int.reduceNeg , or_self, or_false, false_or , List.length_map]
  refine Br_split (fun h1 => ?_) (fun h1 => ?_) <;> simp only [go_sem, Nat.reduceBEq, Nat.reduceEqDiff, Nat.reduceLT, Nat.reduceLeDiff, Nat.reduceAdd, Nat.reduceSub, Nat.reduceMul, reduceCtorEq, Int.reduceToNat, Int.reduceEq, Int.reduceLT, Int.reduceLE, Int.reduceNe, Int.reduceNeg , or_self, or_false, false_or , List.length_map, h1]
  · have h1' : x < y := by simpa using h1
    simp [cmpI, h1']
  · have h1' : ¬ x < y := by simpa using h1
    refine Br_split (fun h2 => ?_) (fun h2 => ?_) <;> simp only [go_sem, Nat.reduceBEq, Nat.reduceEqDiff, Nat.reduceLT, Nat.reduceLeDiff, Nat.reduceAdd, Nat.reduceSub, Nat.reduceMul, reduceCtorEq, Int.reduceToNat, Int.reduceEq, Int.reduceLT, Int.reduceLE, Int.reduceNe, Int.reduceNeg , or_self, or_false, false_or , List.length_map, h2]
    · have h2' : x > y := by simpa using h2
      simp [cmpI, h1', h2']
    · have h2' : ¬ x > y := by simpa using h2
      simp only [cmpI, h1', h2', if_false]

/-- What of a part of the loss is less than a penny. -/
def remW (pence all : Int) (parts : List Int) (i : Nat) : Int := (wr (pence * parts.getD i 0)).tmod all

theorem c79 {pence all : Int} {parts : List Int} {H : Heap} {Q : V → Heap → Prop} {i k : Nat} (h0 : H[0]? = some (.cells [.d (.int .i64 pence)])) (h1 : H[1]? = some (.cells [.d (.sl (parts.map (.int .i64)))])) (h3 : H[3]? = some (.cells [.d (.int .i64 all)])) (hall : all ≠ 0)
    (hi : i < parts.length) (hk : k < parts.length) (h : Q (.d (.int .i64 (cmpI (remW pence all parts k) (remW pence all parts i)))) H) : ACalls prog 79 [.d (.int .i64 i), .d (.int .i64 k), .ptr 0 0, .ptr 1 0, .ptr 3 0] H Q := by
  refine ACalls.run (fun _ => false) tt_ok (fn := f79) (rs := [.tmp 7]) rfl rfl rfl rfl rfl rfl rfl ?_
  simp only [go_sem, Nat.reduceBEq, Nat.reduceEqDiff, Nat.reduceLT, Nat.reduceLeDiff, Nat.reduceAdd, Nat.reduceSub, Nat.reduceMul, reduceCtorEq, Int.reduceToNat, Int.reduceEq, Int.reduceLT, Int.reduceLE, Int.reduceNe, Int.reduceNeg , or_self, or_false, false_or , List.length_map]
  refine ADrw.treeG (fun _ => false) tt_ok (by kernel_rfl) (fun k => if k = 0 ∨ k = 1 ∨ k = 6 ∨ k = 8 ∨ k = 9 ∨ k = 14 then some .L else some .S) (.ones [0, 1, 2, 3, 4, 5, 6, 7, 8, 9, 10, 11, 12, 13, 14, 15, 16, 17] .done) (Nat.le_refl _) (fun _ h => nomatch h) rfl rfl (by kernel_rfl) ?_
  simp only [go_sem, Nat.reduceBEq, Nat.reduceEqDiff, Nat.reduceLT, Nat.reduceLeDiff, Nat.reduceAdd, Nat.reduceSub, Nat.reduceMul, reduceCtorEq, Int.reduceToNat, Int.reduceEq, Int.reduceLT, Int.reduceLE, Int.reduceNe, Int.reduceNeg , or_self, or_false, false_or , List.length_map, h0, h1, h3, idx_nat, List.getElem?_map, List.getElem?_eq_getElem hi, List.getElem?_eq_getElem hk, remO_ne hall]
  refine (c80 ((wr (pence * parts[k])).tmod all) ((wr (pence * parts[i])).tmod all)).callS rfl rfl rfl rfl rfl rfl ?_
  simp only [go_sem, Nat.reduceBEq, Nat.reduceEqDiff, Nat.reduceLT, Nat.reduceLeDiff, Nat.reduceAdd, Nat.reduceSub, Nat.reduceMul, reduceCtorEq, Int.reduceToNat, Int.reduceEq, Int.reduceLT, Int.reduceLE, Int.reduceNe, Int.reduceNeg , or_self, or_false, false_or , List.length_map]
  simpa only [remW, getD_eq hi, getD_eq hk] using h

/-- An element sinks to its place. -/
def sink (lt : Int → Int → Bool) : Nat → List Int → List Int
  | 0, l => l
  | j + 1, l => if lt (l.getD (j + 1) 0) (l.getD j 0) = true then sink lt j ((l.set (j + 1) (l.getD j 0)).set j (l.getD (j + 1) 0)) else l

theorem sink_len (lt : Int → Int → Bool) : ∀ (j : Nat) (l : List Int), (sink lt j l).length = l.length
  | 0, _ => rfl
  | j + 1, l => by
    simp only [sink]
    split
    · rw [sink_len lt j]; simp
    · rfl

def isortI (lt : Int → Int → Bool) (l : List Int) (i : Nat) : List Int := (List.range i).foldl (fun l i => sink lt (i + 1) l) l

theorem isortI_succ (lt : Int → Int → Bool) (l : List Int) (i : Nat) : isortI lt l (i + 1) = sink lt (i + 1) (isortI lt l i) := by
  rw [isortI, List.range_succ, List.foldl_append]; rfl

theorem isortI_len (lt : Int → Int → Bool) (l : List Int) : ∀ i, (isortI lt l i).length = l.length
  | 0 => rfl
  | i + 1 => by rw [isortI_succ, sink_len, isortI_len lt l i]

/-- Whatever holds of all elements abides. -/
theorem sink_all {lt : Int → Int → Bool} {p : Int → Prop} : ∀ (j : Nat) (l : List Int), j < l.length → (∀ x ∈ l, p x) → ∀ x ∈ sink lt j l, p x
  | 0, l, _, h => h
  | j + 1, l, hj, h => by
    simp only [sink]
    split
    · refine sink_all j _ (by simp; omega) fun x hx => ?_
      rcases List.mem_or_eq_of_mem_set hx with hx | hx
      · rcases List.mem_or_eq_of_mem_set hx with hx | hx
        · exact h x hx
        · rw [hx, getD_eq (by omega)]; exact h _ (List.getElem_mem _)
      · rw [hx, getD_eq hj]; exact h _ (List.getElem_mem _)
    · exact h

theorem isortI_all {lt : Int → Int → Bool} {p : Int → Prop} {l : List Int} (h : ∀ x ∈ l, p x) : ∀ i, i < l.length → ∀ x ∈ isortI lt l i, p x
  | 0, _ => h
  | i + 1, hi => by
    rw [isortI_succ]
    exact sink_all _ _ (by rw [isortI_len]; exact hi) (isortI_all h i (by omega))

def rowB (l : List Int) : Blk := .arr 1 false (l.map (.int .i64))

/-- What is asked of the comparison. -/
def CmpOK (k : Nat) (fx fy : List V) (cmp : Int → Int → Int) (p : Int → Prop) (H : Heap) (id : Nat) (n : Nat) : Prop :=
  ∀ (l : List Int), l.length = n → ∀ x y, p x → p y → ∀ Q : V → Heap → Prop, Q (.d (.int .i64 (cmp x y))) (H.set id (rowB l)) → ACallV prog (.fn (.func k) fx fy) [.d (.int .i64 x), .d (.int .i64 y)] (H.set id (rowB l)) Q

theorem c98 {H : Heap} {id n k : Nat} {fx fy : List V} {cmp : Int → Int → Int} {p : Int → Prop} {l : List Int} (hid : id < H.length) (hl : l.length = n) (hn : n ≤ 1000) (hp : ∀ x ∈ l, p x) (hc : CmpOK k fx fy cmp p H id n)
    {Q : V → Heap → Prop} (hq : Q (.tup []) (H.set id (rowB (isortI (fun x y => decide (cmp x y < 0)) l (n - 1))))) : ACalls prog 98 [.ref id n 0 n, .d (.int .i64 0), .d (.int .i64 n), .fn (.func k) fx fy] (H.set id (rowB l)) Q := by
  have hg : ∀ b : Blk, (H.set id b)[id]? = some b := fun b => by rw [List.getElem?_set_self hid]
  have hs : ∀ b b' : Blk, (H.set id b).set id b' = H.set id b' := fun b b' => by rw [List.set_set]
  have hHl : ∀ b : Blk, (H.set id b).length = H.length := fun b => by simp
  refine ACalls.run (fun _ => false) tt_ok (fn := f98) (rs := []) rfl rfl rfl rfl rfl rfl rfl ?_
  simp only [go_sem, Nat.reduceBEq, Nat.reduceEqDiff, Nat.reduceLT, Nat.reduceLeDiff, Nat.reduceAdd, Nat.reduceSub, Nat.reduceMul, reduceCtorEq, Int.reduceToNat, Int.reduceEq, Int.reduceLT, Int.reduceLE, Int.reduceNe, Int.reduceNeg , or_self, or_false, false_or , List.length_map, hHl]
  generalize hlt : (fun x y => decide (cmp x y < 0)) = lt
  rw [hlt] at hq
  refine ALoop.by (S := Nat) (fun i => [(8, .d (.int .i64 ((i + 1 : Nat)))), (0, .ref id n 0 n), (1, .d (.int .i64 0)), (2, .d (.int .i64 n)), (3, .fn (.func k) fx fy)]) (fun i => H.set id (rowB (isortI lt l i))) (fun i => n - i) (fun i => i + 1 ≤ n ∨ i = 0) 0 (by simp) (fun _ h => nomatch h) (.inr rfl) ?_ ?_
  · exact ForgetTo.same (by simp) (by simp [EWe, Env.look, w64 (n := 1) (by omega) (by omega)])
  · rintro i hi hn'
    have hil : (isortI lt l i).length = n := by rw [isortI_len, hl]
    refine AWP.run (fun _ => false) tt_ok (fun _ h => nomatch h) (by simp) rfl ?_
    simp only [go_sem, Nat.reduceBEq, Nat.reduceEqDiff, Nat.reduceLT, Nat.reduceLeDiff, Nat.reduceAdd, Nat.reduceSub, Nat.reduceMul, reduceCtorEq, Int.reduceToNat, Int.reduceEq, Int.reduceLT, Int.reduceLE, Int.reduceNe, Int.reduceNeg , or_self, or_false, false_or , List.length_map, hHl]
    refine Br_split (fun hd => ?_) (fun hd => ?_) <;> simp only [go_sem, Nat.reduceBEq, Nat.reduceEqDiff, Nat.reduceLT, Nat.reduceLeDiff, Nat.reduceAdd, Nat.reduceSub, Nat.reduceMul, reduceCtorEq, Int.reduceToNat, Int.reduceEq, Int.reduceLT, Int.reduceLE, Int.reduceNe, Int.reduceNeg , or_self, or_false, false_or , List.length_map, hd]
    · have hlt1 : i + 1 < n := by simpa [-Int.natCast_add] using hd
      have hip : ∀ x ∈ isortI lt l i, p x := isortI_all hp i (by omega)
      refine ALoop.by (S := Nat × List Int) (fun s => [(9, .d (.int .i64 s.1)), (8, .d (.int .i64 ((i + 1 : Nat)))), (0, .ref id n 0 n), (1, .d (.int .i64 0)), (2, .d (.int .i64 n)), (3, .fn (.func k) fx fy)]) (fun s => H.set id (rowB s.2)) (fun s => s.1)
        (fun s => s.1 < n ∧ s.2.length = n ∧ (∀ x ∈ s.2, p x) ∧ sink lt s.1 s.2 = sink lt (i + 1) (isortI lt l i)) (i + 1, isortI lt l i) (by simp) (fun _ h => nomatch h) ⟨hlt1, hil, hip, rfl⟩ ?_ ?_
      · exact ForgetTo.same (by simp) (by simp [EWe, Env.look])
      · rintro ⟨j, l'⟩ ⟨hj, hl', hp', hsk⟩ hn2
        simp only at hj hl' hp' hsk hn2 ⊢
        have next : sink lt j l' = l' → ∃ s', (s' + 1 ≤ n ∨ s' = 0) ∧ n - s' < n - i ∧ s' = i + 1 ∧ isortI lt l s' = l' := fun h => ⟨i + 1, by omega, by omega, rfl, by rw [isortI_succ, ← hsk, h]⟩
        refine AWP.run (fun _ => false) tt_ok (fun _ h => nomatch h) (by simp) rfl ?_
        simp only [go_sem, Nat.reduceBEq, Nat.reduceEqDiff, Nat.reduceLT, Nat.reduceLeDiff, Nat.reduceAdd, Nat.reduceSub, Nat.reduceMul, reduceCtorEq, Int.reduceToNat, Int.reduceEq, Int.reduceLT, Int.reduceLE, Int.reduceNe, Int.reduceNeg , or_self, or_false, false_or , List.length_map, hHl]
        refine ADrw.treeG (fun _ => false) tt_ok (by kernel_rfl) (fun k => if k = 7 ∨ k = 8 ∨ k = 12 ∨ k = 13 then some .L else if k = 14 then some .R else some .S) (.ones [0, 1, 2, 3, 4, 5, 6, 7, 8, 9, 10, 11, 12, 13, 14, 15, 16] .done) (by simp) (fun _ h => nomatch h) rfl rfl (by kernel_rfl) ?_
        cases j with
        | zero =>
          have h0 : decide (((0 : Nat) : Int) > 0) = false := rfl
          simp only [go_sem, Nat.reduceBEq, Nat.reduceEqDiff, Nat.reduceLT, Nat.reduceLeDiff, Nat.reduceAdd, Nat.reduceSub, Nat.reduceMul, reduceCtorEq, Int.reduceToNat, Int.reduceEq, Int.reduceLT, Int.reduceLE, Int.reduceNe, Int.reduceNeg , or_self, or_false, false_or , List.length_map, hHl, h0]
          obtain ⟨s', g1, g2, rfl, g3⟩ := next rfl
          refine ⟨i + 1, g1, g2, ?_⟩
          rw [g3]
          exact ForgetTo.same (by simp) (by simp [EWe, Env.look, w64 (n := (i : Int) + 1 + 1) (by omega) (by omega)])
        | succ j =>
          have h0 : decide (((j + 1 : Nat) : Int) > 0) = true := decide_eq_true (by omega)
          have hw : IntKind.i64.wrap (((j + 1 : Nat) : Int) - 1) = ((j : Nat) : Int) := by rw [w64 (by omega) (by omega)]; omega
          have c1 : (0 : Int) ≤ ((j + 1 : Nat) : Int) := by omega
          have c2 : ((j + 1 : Nat) : Int) < (n : Int) := by omega
          have c3 : (0 : Int) ≤ ((j : Nat) : Int) := by omega
          have c4 : ((j : Nat) : Int) < (n : Int) := by omega
          have hj1 : j + 1 < l'.length := by omega
          have hj0 : j < l'.length := by omega
          simp only [go_sem, Nat.reduceBEq, Nat.reduceEqDiff, Nat.reduceLT, Nat.reduceLeDiff, Nat.reduceAdd, Nat.reduceSub, Nat.reduceMul, reduceCtorEq, Int.reduceToNat, Int.reduceEq, Int.reduceLT, Int.reduceLE, Int.reduceNe, Int.reduceNeg , or_self, or_false, false_or , List.length_map, hHl, hg, h0, rowB, hl', hw, c1, c2, c3, c4, Int.toNat_natCast, List.getElem?_map, List.getElem?_eq_getElem hj1, List.getElem?_eq_getElem hj0]
          refine ⟨_, _, (hc l' hl' l'[j + 1] l'[j] (hp' _ (List.getElem_mem hj1)) (hp' _ (List.getElem_mem hj0)) _ ⟨rfl, rfl⟩), ?_⟩
          simp only [go_sem, Nat.reduceBEq, Nat.reduceEqDiff, Nat.reduceLT, Nat.reduceLeDiff, Nat.reduceAdd, Nat.reduceSub, Nat.reduceMul, reduceCtorEq, Int.reduceToNat, Int.reduceEq, Int.reduceLT, Int.reduceLE, Int.reduceNe, Int.reduceNeg , or_self, or_false, false_or , List.length_map, hHl, hg, h0]
          have hcv : decide (cmp l'[j + 1] l'[j] < 0) = lt l'[j + 1] l'[j] := by rw [← hlt]
          have hsk' : sink lt (j + 1) l' = if lt l'[j + 1] l'[j] = true then sink lt j ((l'.set (j + 1) l'[j]).set j l'[j + 1]) else l' := by simp only [sink, getD_eq hj1, getD_eq hj0]
          refine ⟨rfl, ?_⟩
          refine Br_split (fun h2 => ?_) (fun h2 => ?_) <;> simp only [go_sem, Nat.reduceBEq, Nat.reduceEqDiff, Nat.reduceLT, Nat.reduceLeDiff, Nat.reduceAdd, Nat.reduceSub, Nat.reduceMul, reduceCtorEq, Int.reduceToNat, Int.reduceEq, Int.reduceLT, Int.reduceLE, Int.reduceNe, Int.reduceNeg , or_self, or_false, false_or , List.length_map, hHl, hg, h0, h2]
          · rw [hcv] at h2
            rw [h2, if_pos rfl] at hsk'
            refine ADrw.treeG (fun _ => false) tt_ok (by kernel_rfl) (fun k => if k = 8 ∨ k = 9 ∨ k = 12 ∨ k = 13 ∨ k = 14 ∨ k = 16 then some .L else if k = 15 ∨ k = 17 then some .W else some .S) (.ones [0, 1, 2, 3, 4, 5, 6, 7, 8, 9, 10, 11, 12, 13, 14, 15, 16, 17] .done) (by simp) (fun _ h => nomatch h) rfl rfl (by kernel_rfl) ?_
            simp only [go_sem, Nat.reduceBEq, Nat.reduceEqDiff, Nat.reduceLT, Nat.reduceLeDiff, Nat.reduceAdd, Nat.reduceSub, Nat.reduceMul, reduceCtorEq, Int.reduceToNat, Int.reduceEq, Int.reduceLT, Int.reduceLE, Int.reduceNe, Int.reduceNeg , or_self, or_false, false_or , List.length_map, hHl, hg, hs, h0, rowB, hl', hw, c1, c2, c3, c4, Int.toNat_natCast, List.getElem?_map, List.getElem?_eq_getElem hj1, List.getElem?_eq_getElem hj0, List.length_set, List.getElem?_set_ne, ne_eq, Nat.succ_ne_self, not_false_eq_true]
            refine ⟨(j, (l'.set (j + 1) l'[j]).set j l'[j + 1]), ⟨by simp only; omega, by simp [hl'], ?_, by simp only; rw [← hsk', hsk]⟩, by simp only; omega, ?_⟩
            · intro x hx
              rcases List.mem_or_eq_of_mem_set hx with hx | hx
              · rcases List.mem_or_eq_of_mem_set hx with hx | hx
                · exact hp' x hx
                · rw [hx]; exact hp' _ (List.getElem_mem _)
              · rw [hx]; exact hp' _ (List.getElem_mem _)
            · exact ForgetTo.same' (by simp) (by simp [EWe, Env.look]) (by simp [List.map_set])
          · rw [hcv] at h2
            rw [h2, if_neg (by simp)] at hsk'
            obtain ⟨s', g1, g2, rfl, g3⟩ := next hsk'
            refine ⟨i + 1, g1, g2, ?_⟩
            rw [g3]
            exact ForgetTo.same (by simp) (by simp [EWe, Env.look, w64 (n := (i : Int) + 1 + 1) (by omega) (by omega)])
    · have hlt : ¬ i + 1 < n := by simpa [-Int.natCast_add] using hd
      have hi' : i = n - 1 := by omega
      subst hi'
      refine ⟨.inl (by simp), ?_⟩
      rw [List.take_of_length_le (by simp)]
      exact hq

theorem c93 {H : Heap} {id n k : Nat} {fx fy : List V} {cmp : Int → Int → Int} {p : Int → Prop} {l : List Int} (hid : id < H.length) (hl : l.length = n) (hn : n < 20) (hp : ∀ x ∈ l, p x) (hc : CmpOK k fx fy cmp p H id n)
    {Q : V → Heap → Prop} (hq : Q (.tup []) (H.set id (rowB (isortI (fun x y => decide (cmp x y < 0)) l (n - 1))))) : ACalls prog 93 [.ref id n 0 n, .d (.int .i64 n), .fn (.func k) fx fy] (H.set id (rowB l)) Q := by
  refine ACalls.run (fun _ => false) tt_ok (fn := f93) (rs := []) rfl rfl rfl rfl rfl rfl rfl ?_
  simp only [go_sem, Nat.reduceBEq, Nat.reduceEqDiff, Nat.reduceLT, Nat.reduceLeDiff, Nat.reduceAdd, Nat.reduceSub, Nat.reduceMul, reduceCtorEq, Int.reduceToNat, Int.reduceEq, Int.reduceLT, Int.reduceLE, Int.reduceNe, Int.reduceNeg , or_self, or_false, false_or , List.length_map]
  have hno : decide ((20 : Int) ≤ (n : Int)) = false := by simp; omega
  have hno' : decide ((20 : Int) < (n : Int)) = false := by simp; omega
  refine ALoop.by (S := Unit) (fun _ => [(6, .d (.int .i64 20)), (7, .d (.int .i64 0)), (8, .d (.int .i64 20)), (0, .ref id n 0 n), (1, .d (.int .i64 n)), (2, .fn (.func k) fx fy)]) (fun _ => H.set id (rowB l)) (fun _ => 0) (fun _ => True) () (by simp) (fun _ h => nomatch h) trivial ?_ ?_
  · exact ForgetTo.same (by simp) (by simp [EWe, Env.look])
  · rintro _ _ hn'
    refine AWP.run (fun _ => false) tt_ok (fun _ h => nomatch h) (by simp) rfl ?_
    simp only [go_sem, Nat.reduceBEq, Nat.reduceEqDiff, Nat.reduceLT, Nat.reduceLeDiff, Nat.reduceAdd, Nat.reduceSub, Nat.reduceMul, reduceCtorEq, Int.reduceToNat, Int.reduceEq, Int.reduceLT, Int.reduceLE, Int.reduceNe, Int.reduceNeg , or_self, or_false, false_or , List.length_map, hno]
    refine ACallV.of rfl (c98 hid hl (by omega) hp hc ?_)
    simp only [go_sem, Nat.reduceBEq, Nat.reduceEqDiff, Nat.reduceLT, Nat.reduceLeDiff, Nat.reduceAdd, Nat.reduceSub, Nat.reduceMul, reduceCtorEq, Int.reduceToNat, Int.reduceEq, Int.reduceLT, Int.reduceLE, Int.reduceNe, Int.reduceNeg , or_self, or_false, false_or , List.length_map]
    refine ALoop.by (S := Unit) (fun _ => [(6, .d (.int .i64 20)), (1, .d (.int .i64 n))]) (fun _ => H.set id (rowB (isortI (fun x y => decide (cmp x y < 0)) l (n - 1)))) (fun _ => 0) (fun _ => True) () (by simp) (fun _ h => nomatch h) trivial ?_ ?_
    · exact ForgetTo.same (by simp) (by simp [EWe, Env.look])
    · rintro _ _ hn'
      refine AWP.run (fun _ => false) tt_ok (fun _ h => nomatch h) (by simp) rfl ?_
      simp only [go_sem, Nat.reduceBEq, Nat.reduceEqDiff, Nat.reduceLT, Nat.reduceLeDiff, Nat.reduceAdd, Nat.reduceSub, Nat.reduceMul, reduceCtorEq, Int.reduceToNat, Int.reduceEq, Int.reduceLT, Int.reduceLE, Int.reduceNe, Int.reduceNeg , or_self, or_false, false_or , List.length_map, hno']
      refine ⟨.inl (by simp), ?_⟩
      rw [List.take_of_length_le (by simp)]
      exact hq

theorem c78 {H : Heap} {id n k : Nat} {fx fy : List V} {cmp : Int → Int → Int} {p : Int → Prop} {l : List Int} (hid : id < H.length) (hl : l.length = n) (hn : n < 20) (hp : ∀ x ∈ l, p x) (hc : CmpOK k fx fy cmp p H id n)
    {Q : V → Heap → Prop} (hq : Q (.tup []) (H.set id (rowB (isortI (fun x y => decide (cmp x y < 0)) l (n - 1))))) : ACalls prog 78 [.ref id n 0 n, .fn (.func k) fx fy] (H.set id (rowB l)) Q := by
  have hg : (H.set id (rowB l))[id]? = some (.arr 1 false (l.map (.int .i64))) := by rw [List.getElem?_set_self hid]; rfl
  refine ACalls.run (fun _ => false) tt_ok (fn := f78) (rs := []) rfl rfl rfl rfl rfl rfl rfl ?_
  simp only [go_sem, Nat.reduceBEq, Nat.reduceEqDiff, Nat.reduceLT, Nat.reduceLeDiff, Nat.reduceAdd, Nat.reduceSub, Nat.reduceMul, reduceCtorEq, Int.reduceToNat, Int.reduceEq, Int.reduceLT, Int.reduceLE, Int.reduceNe, Int.reduceNeg , or_self, or_false, false_or , List.length_map, hg, hl]
  refine ACallV.of rfl (c93 hid hl hn hp hc ?_)
  simp only [go_sem, Nat.reduceBEq, Nat.reduceEqDiff, Nat.reduceLT, Nat.reduceLeDiff, Nat.reduceAdd, Nat.reduceSub, Nat.reduceMul, reduceCtorEq, Int.reduceToNat, Int.reduceEq, Int.reduceLT, Int.reduceLE, Int.reduceNe, Int.reduceNeg , or_self, or_false, false_or , List.length_map]
  refine ⟨.inl (by simp), ?_⟩
  rw [List.take_of_length_le (by simp)]
  exact hq
end Go.Aw
end

section
namespace Go.Aw
open Go Go.Proofs.Try

def sumP (parts : List Int) : Int := parts.foldl (fun n p => wr (n + p)) 0

def qW (pence all : Int) (parts : List Int) (i : Nat) : Int := wr ((wr (pence * parts.getD i 0)).tdiv all)

def leftN (pence all : Int) (parts : List Int) : Nat → Int
  | 0 => pence
  | i + 1 => wr (leftN pence all parts i - qW pence all parts i)

structure PartsOk (pence : Int) (parts : List Int) : Prop where
  p0 : 0 ≤ pence
  p1 : pence ≤ 100000
  len : parts.length ≤ 6
  part : ∀ p ∈ parts, 0 ≤ p ∧ p ≤ 1000

theorem foldl_wr_sum : ∀ (l : List Int) (a : Int), (∀ p ∈ l, 0 ≤ p ∧ p ≤ 1000) → 0 ≤ a → a + 1000 * l.length ≤ 1000000 → l.foldl (fun n p => wr (n + p)) a = a + l.sum ∧ 0 ≤ l.sum ∧ l.sum ≤ 1000 * l.length
  | [], a, _, _, _ => by simp
  | p :: r, a, h, h0, h1 => by
    have hp := h p (by simp)
    simp only [List.length_cons] at h1
    simp only [List.foldl_cons, List.sum_cons, List.length_cons]
    rw [show wr (a + p) = a + p from w64 (by omega) (by omega)]
    obtain ⟨k1, k2, k3⟩ := foldl_wr_sum r (a + p) (fun q hq => h q (List.mem_cons_of_mem _ hq)) (by omega) (by omega)
    refine ⟨by rw [k1]; omega, by omega, by omega⟩

theorem sumP_eq {pence : Int} {parts : List Int} (h : PartsOk pence parts) : sumP parts = parts.sum ∧ 0 ≤ parts.sum ∧ parts.sum ≤ 6000 := by
  obtain ⟨k1, k2, k3⟩ := foldl_wr_sum parts 0 h.part (Int.le_refl _) (by have := h.len; omega)
  refine ⟨by rw [sumP, k1]; omega, k2, by have := h.len; omega⟩

theorem drop_sum {l : List Int} {i : Nat} (h : i < l.length) : (l.drop i).sum = l[i] + (l.drop (i + 1)).sum := by
  rw [List.drop_eq_getElem_cons h, List.sum_cons]

theorem sum_nonneg : ∀ (l : List Int), (∀ p ∈ l, 0 ≤ p) → 0 ≤ l.sum
  | [], _ => by simp
  | p :: r, h => by
    have := sum_nonneg r fun q hq => h q (List.mem_cons_of_mem _ hq)
    have := h p (by simp)
    rw [List.sum_cons]; omega

theorem drop_le_sum {l : List Int} (h : ∀ p ∈ l, 0 ≤ p) (i : Nat) : 0 ≤ (l.drop i).sum ∧ (l.drop i).sum ≤ l.sum := by
  refine ⟨sum_nonneg _ fun p hp => h p (List.mem_of_mem_drop hp), ?_⟩
  have h1 := sum_nonneg (l.take i) fun p hp => h p (List.mem_of_mem_take hp)
  have h2 : l.sum = (l.take i).sum + (l.drop i).sum := by rw [← List.sum_append, List.take_append_drop]
  omega

/-- The remainders of the first parts. -/
def remS (pence all : Int) (parts : List Int) : Nat → Int
  | 0 => 0
  | i + 1 => remS pence all parts i + remW pence all parts i

theorem quo_rem {pence : Int} {parts : List Int} (h : PartsOk pence parts) (hs : 0 < parts.sum) {i : Nat} (hi : i < parts.length) :
    pence * parts[i] = parts.sum * qW pence parts.sum parts i + remW pence parts.sum parts i ∧ 0 ≤ remW pence parts.sum parts i ∧ remW pence parts.sum parts i < parts.sum ∧ qW pence parts.sum parts i = pence * parts[i] / parts.sum ∧ remW pence parts.sum parts i = pence * parts[i] % parts.sum ∧ 0 ≤ qW pence parts.sum parts i ∧ qW pence parts.sum parts i ≤ 100000000 := by
  have hp := h.part _ (List.getElem_mem hi)
  have h0 : 0 ≤ pence * parts[i] := Int.mul_nonneg h.p0 hp.1
  have h1 : pence * parts[i] ≤ 100000000 := by
    calc pence * parts[i] ≤ 100000 * parts[i] := Int.mul_le_mul_of_nonneg_right h.p1 hp.1
      _ ≤ 100000000 := by omega
  have e1 : wr (pence * parts[i]) = pence * parts[i] := w64 (by omega) (by omega)
  have e2 : (pence * parts[i]).tdiv parts.sum = pence * parts[i] / parts.sum := Int.tdiv_eq_ediv_of_nonneg h0
  have e3 : (pence * parts[i]).tmod parts.sum = pence * parts[i] % parts.sum := Int.tmod_eq_emod_of_nonneg h0
  have d0 : 0 ≤ pence * parts[i] / parts.sum := Int.ediv_nonneg h0 (by omega)
  have d1 : pence * parts[i] / parts.sum ≤ pence * parts[i] := Int.ediv_le_self _ h0
  have e4 : qW pence parts.sum parts i = pence * parts[i] / parts.sum := by
    rw [qW, getD_eq hi, e1, e2]; exact w64 (by omega) (by omega)
  have e5 : remW pence parts.sum parts i = pence * parts[i] % parts.sum := by
    rw [remW, getD_eq hi, e1, e3]
  rw [e4, e5]
  refine ⟨(Int.mul_ediv_add_emod _ _).symm, Int.emod_nonneg _ (by omega), Int.emod_lt_of_pos _ hs, rfl, rfl, d0, by omega⟩

theorem leftN_eq {pence : Int} {parts : List Int} (h : PartsOk pence parts) (hs : 0 < parts.sum) : ∀ i, i ≤ parts.length → parts.sum * leftN pence parts.sum parts i = pence * (parts.drop i).sum + remS pence parts.sum parts i ∧ 0 ≤ remS pence parts.sum parts i ∧ remS pence parts.sum parts i ≤ i * (parts.sum - 1) ∧
    0 ≤ leftN pence parts.sum parts i ∧ leftN pence parts.sum parts i ≤ pence + i
  | 0, _ => by
    simp only [leftN, remS, List.drop_zero]
    refine ⟨by rw [Int.mul_comm]; omega, by omega, by simp, h.p0, by simp⟩
  | i + 1, hi => by
    obtain ⟨k1, k2, k3, k4, k5⟩ := leftN_eq h hs i (by omega)
    obtain ⟨m1, m2, m3, _, _, m4, m5⟩ := quo_rem h hs (i := i) (by omega)
    have hd := drop_sum (l := parts) (i := i) (by omega)
    have hb := drop_le_sum (l := parts) (fun p hp => (h.part p hp).1) (i + 1)
    simp only [remS]
    have hv : parts.sum * (leftN pence parts.sum parts i - qW pence parts.sum parts i) = pence * (parts.drop (i + 1)).sum + (remS pence parts.sum parts i + remW pence parts.sum parts i) := by
      rw [Int.mul_sub, k1, hd, Int.mul_add, m1]; omega
    have hr0 : remS pence parts.sum parts i + remW pence parts.sum parts i ≤ ((i + 1 : Nat) : Int) * (parts.sum - 1) := by
      have : ((i + 1 : Nat) : Int) * (parts.sum - 1) = i * (parts.sum - 1) + (parts.sum - 1) := by
        rw [Int.natCast_add, Int.add_mul]; omega
      omega
    have hn0 : 0 ≤ pence * (parts.drop (i + 1)).sum := Int.mul_nonneg h.p0 hb.1
    have hn1 : pence * (parts.drop (i + 1)).sum ≤ pence * parts.sum := Int.mul_le_mul_of_nonneg_left hb.2 h.p0
    have lo : 0 ≤ leftN pence parts.sum parts i - qW pence parts.sum parts i := by
      refine Int.le_of_mul_le_mul_left (a := parts.sum) ?_ hs
      rw [hv, Int.mul_zero]; omega
    have hi2 : leftN pence parts.sum parts i - qW pence parts.sum parts i ≤ pence + ((i + 1 : Nat) : Int) := by omega
    have hw : leftN pence parts.sum parts (i + 1) = leftN pence parts.sum parts i - qW pence parts.sum parts i := by
      have := h.p1
      have := h.len
      simp only [leftN]; exact w64 (by omega) (by omega)
    rw [hw]
    exact ⟨hv, by omega, hr0, lo, hi2⟩

/-- What is left is fewer pennies than there are parts. -/
theorem leftN_lt {pence : Int} {parts : List Int} (h : PartsOk pence parts) (hs : 0 < parts.sum) : 0 ≤ leftN pence parts.sum parts parts.length ∧ leftN pence parts.sum parts parts.length ≤ parts.length := by
  obtain ⟨k1, k2, k3, k4, k5⟩ := leftN_eq h hs parts.length (Nat.le_refl _)
  refine ⟨k4, ?_⟩
  refine Int.le_of_mul_le_mul_left (a := parts.sum) ?_ hs
  rw [k1]
  simp only [List.drop_length, List.sum_nil, Int.mul_zero, Int.zero_add]
  have : (parts.length : Int) * (parts.sum - 1) ≤ parts.sum * parts.length := by
    rw [Int.mul_sub, Int.mul_comm parts.sum]; omega
  omega

def fillI (f : Nat → Int) (n i : Nat) : List Int := (List.range n).map fun j => if j < i then f j else 0

theorem fillI_len (f : Nat → Int) (n i : Nat) : (fillI f n i).length = n := by simp [fillI]

theorem fillI_zero (f : Nat → Int) (n : Nat) : fillI f n 0 = List.replicate n 0 := by
  apply List.ext_getElem <;> simp [fillI]

theorem fillI_end (f : Nat → Int) (n : Nat) : fillI f n n = (List.range n).map f := by
  apply List.map_congr_left
  intro j hj
  rw [if_pos (List.mem_range.1 hj)]

theorem fillI_set (f : Nat → Int) {n i : Nat} (h : i < n) : (fillI f n i).set i (f i) = fillI f n (i + 1) := by
  apply List.ext_getElem
  · simp [fillI]
  · intro j h1 h2
    simp only [fillI, List.length_map, List.length_range] at h2
    rw [List.getElem_set]
    simp only [fillI, List.getElem_map, List.getElem_range]
    by_cases hij : i = j
    · subst hij; simp
    · rw [if_neg hij]
      by_cases hj : j < i
      · rw [if_pos hj, if_pos (by omega)]
      · rw [if_neg hj, if_neg (by omega)]

theorem fillI_get (f : Nat → Int) {n i : Nat} (h : i < n) : (fillI f n (i + 1))[i]? = some (f i) := by
  simp [fillI, h]

end Go.Aw
end

section
namespace Go.Aw
open Go Go.Proofs.Try

def ltW (pence all : Int) (parts : List Int) (x y : Int) : Bool := decide (cmpI (remW pence all parts y.toNat) (remW pence all parts x.toNat) < 0)

def nats (n : Nat) : List Int := (List.range n).map fun j : Nat => (j : Int)

def orderW (pence all : Int) (parts : List Int) : List Int := isortI (ltW pence all parts) (nats parts.length) (parts.length - 1)

def incL (l : List Int) (xs : List Int) : List Int := xs.foldl (fun l x => l.set x.toNat (wr (l.getD x.toNat 0 + 1))) l

theorem incL_len : ∀ (xs l : List Int), (incL l xs).length = l.length
  | [], _ => rfl
  | x :: r, l => by
    show (incL _ r).length = _
    rw [incL_len r]; simp

theorem incL_succ {xs l : List Int} {k : Nat} (h : k < xs.length) : incL l (xs.take (k + 1)) = (incL l (xs.take k)).set xs[k].toNat (wr ((incL l (xs.take k)).getD xs[k].toNat 0 + 1)) := by
  rw [incL, List.take_succ_eq_append_getElem h, List.foldl_append]; rfl

def sharesW (pence all : Int) (parts : List Int) : List Int := incL ((List.range parts.length).map (qW pence all parts)) ((orderW pence all parts).take (leftN pence all parts parts.length).toNat)

def shareP (pence : Int) (parts : List Int) : List Int × Int :=
  if within 0 100000 [pence] = false then ([], 3)
  else if (within 1 6 [(parts.length : Int)] && within 0 1000 parts && !decide (sumP parts = 0)) = false then ([], 4)
  else (sharesW pence (sumP parts) parts, 0)

theorem order_all (pence all : Int) (parts : List Int) (h : 0 < parts.length) : ∀ x ∈ orderW pence all parts, ∃ i : Nat, i < parts.length ∧ x = i :=
  isortI_all (p := fun x => ∃ i : Nat, i < parts.length ∧ x = i) (fun x hx => by
    obtain ⟨i, hi, rfl⟩ := List.mem_map.1 hx
    exact ⟨i, List.mem_range.1 hi, rfl⟩) _ (by simp [nats]; omega)

theorem order_len (pence all : Int) (parts : List Int) : (orderW pence all parts).length = parts.length := by rw [orderW, isortI_len]; simp [nats]

theorem within_all {a c : Int} {l : List Int} (h : within a c l = true) : ∀ n ∈ l, a ≤ n ∧ n ≤ c := by
  intro n hn
  simp [within] at h
  have := h n hn
  omega

theorem fill_shares (pence all : Int) (parts : List Int) (n i : Nat) : (fillI (qW pence all parts) n i).length = n := fillI_len _ _ _

theorem c42 (pence : Int) (parts : List Int) (hl : parts.length ≤ 4294967296) : PC prog 42 [.d (.int .i64 pence), .d (.sl (parts.map (.int .i64)))] (.tup [.d (.sl ((shareP pence parts).1.map (.int .i64))), .d (.int .i64 (shareP pence parts).2)]) := by
  refine PC.run (fun k => k == 4 || k == 44 || k == 47) tt_ok (fn := f42) (rs := [.tmp 4, .tmp 5]) rfl rfl rfl rfl rfl rfl rfl ?_
  simp only [go_sem, Nat.reduceBEq, Nat.reduceEqDiff, Nat.reduceLT, Nat.reduceLeDiff, Nat.reduceAdd, Nat.reduceSub, Nat.reduceMul, reduceCtorEq, Int.reduceToNat, Int.reduceEq, Int.reduceLT, Int.reduceLE, Int.reduceNe, Int.reduceNeg , or_self, or_false, false_or , List.length_map, Bool.or_true, Bool.true_or, Bool.or_false, Bool.false_or]
  refine ALoop.by (S := Nat) (fun i => [(18, .d (.int .i64 i)), (17, .d (.int .i64 parts.length)), (16, .d (.sl (parts.map (.int .i64)))), (2, .ptr 0 0), (3, .ptr 1 0), (6, .ptr 3 0)])
    (fun i => [.cells [.d (.int .i64 pence)], .cells [.d (.sl (parts.map (.int .i64)))], .arr 1 true [], .cells [.d (.int .i64 (sumP (parts.take i)))]]) (fun i => parts.length - i) (fun i => i ≤ parts.length) 0 (by simp) (fun _ h => nomatch h) (Nat.zero_le _) ?_ ?_
  · exact ForgetTo.same' (by simp) (by simp [EWe, Env.look]) (by simp [sumP])
  rintro i hi hn
  refine AWP.run (fun k => k == 4 || k == 44 || k == 47) tt_ok (fun _ h => nomatch h) (by simp) rfl ?_
  simp only [go_sem, Nat.reduceBEq, Nat.reduceEqDiff, Nat.reduceLT, Nat.reduceLeDiff, Nat.reduceAdd, Nat.reduceSub, Nat.reduceMul, reduceCtorEq, Int.reduceToNat, Int.reduceEq, Int.reduceLT, Int.reduceLE, Int.reduceNe, Int.reduceNeg , or_self, or_false, false_or , List.length_map, Bool.or_true, Bool.true_or, Bool.or_false, Bool.false_or]
  refine Br_split (fun hd => ?_) (fun hd => ?_) <;> simp only [go_sem, Nat.reduceBEq, Nat.reduceEqDiff, Nat.reduceLT, Nat.reduceLeDiff, Nat.reduceAdd, Nat.reduceSub, Nat.reduceMul, reduceCtorEq, Int.reduceToNat, Int.reduceEq, Int.reduceLT, Int.reduceLE, Int.reduceNe, Int.reduceNeg , or_self, or_false, false_or , List.length_map, hd]
  · have hlt : i < parts.length := by simpa using hd
    simp only [go_sem, Nat.reduceBEq, Nat.reduceEqDiff, Nat.reduceLT, Nat.reduceLeDiff, Nat.reduceAdd, Nat.reduceSub, Nat.reduceMul, reduceCtorEq, Int.reduceToNat, Int.reduceEq, Int.reduceLT, Int.reduceLE, Int.reduceNe, Int.reduceNeg , or_self, or_false, false_or , List.length_map, idx_nat, List.getElem?_map, List.getElem?_eq_getElem hlt, Bool.or_true, Bool.true_or, Bool.or_false, Bool.false_or]
    refine ⟨i + 1, hlt, by omega, ?_⟩
    exact ForgetTo.same' (by simp) (by simp [EWe, Env.look, w64 (n := (i : Int) + 1) (by omega) (by omega)]) (by simp only [sumP]; rw [foldl_take _ _ hlt])
  have hnl : ¬ i < parts.length := by simpa using hd
  rw [show parts.take i = parts from List.take_of_length_le (by omega)]
  refine (c57 0 100000 [pence] (by simp)).call rfl rfl rfl ?_
  simp only [go_sem, Nat.reduceBEq, Nat.reduceEqDiff, Nat.reduceLT, Nat.reduceLeDiff, Nat.reduceAdd, Nat.reduceSub, Nat.reduceMul, reduceCtorEq, Int.reduceToNat, Int.reduceEq, Int.reduceLT, Int.reduceLE, Int.reduceNe, Int.reduceNeg , or_self, or_false, false_or , List.length_map, Bool.or_true, Bool.true_or, Bool.or_false, Bool.false_or]
  refine Br_split (fun h1 => ?_) (fun h1 => ?_) <;> simp only [go_sem, Nat.reduceBEq, Nat.reduceEqDiff, Nat.reduceLT, Nat.reduceLeDiff, Nat.reduceAdd, Nat.reduceSub, Nat.reduceMul, reduceCtorEq, Int.reduceToNat, Int.reduceEq, Int.reduceLT, Int.reduceLE, Int.reduceNe, Int.reduceNeg , or_self, or_false, false_or , List.length_map, h1, Bool.or_true, Bool.true_or, Bool.or_false, Bool.false_or]
  · have h1' : within 0 100000 [pence] = false := by simpa using h1
    simp [shareP, h1']
  have h1' : within 0 100000 [pence] = true := by simpa using h1
  refine (c57 1 6 [(parts.length : Int)] (by simp)).call rfl rfl rfl ?_
  simp only [go_sem, Nat.reduceBEq, Nat.reduceEqDiff, Nat.reduceLT, Nat.reduceLeDiff, Nat.reduceAdd, Nat.reduceSub, Nat.reduceMul, reduceCtorEq, Int.reduceToNat, Int.reduceEq, Int.reduceLT, Int.reduceLE, Int.reduceNe, Int.reduceNeg , or_self, or_false, false_or , List.length_map, Bool.or_true, Bool.true_or, Bool.or_false, Bool.false_or]
  refine Br_split (fun h2 => ?_) (fun h2 => ?_) <;> simp only [go_sem, Nat.reduceBEq, Nat.reduceEqDiff, Nat.reduceLT, Nat.reduceLeDiff, Nat.reduceAdd, Nat.reduceSub, Nat.reduceMul, reduceCtorEq, Int.reduceToNat, Int.reduceEq, Int.reduceLT, Int.reduceLE, Int.reduceNe, Int.reduceNeg , or_self, or_false, false_or , List.length_map, h2, Bool.or_true, Bool.true_or, Bool.or_false, Bool.false_or]
  · have h2' : within 1 6 [(parts.length : Int)] = false := by simpa using h2
    simp [shareP, h1', h2']
  have h2' : within 1 6 [(parts.length : Int)] = true := by simpa using h2
  refine (c57 0 1000 parts hl).call rfl rfl rfl ?_
  simp only [go_sem, Nat.reduceBEq, Nat.reduceEqDiff, Nat.reduceLT, Nat.reduceLeDiff, Nat.reduceAdd, Nat.reduceSub, Nat.reduceMul, reduceCtorEq, Int.reduceToNat, Int.reduceEq, Int.reduceLT, Int.reduceLE, Int.reduceNe, Int.reduceNeg , or_self, or_false, false_or , List.length_map, Bool.or_true, Bool.true_or, Bool.or_false, Bool.false_or]
  refine Br_split (fun h3 => ?_) (fun h3 => ?_) <;> simp only [go_sem, Nat.reduceBEq, Nat.reduceEqDiff, Nat.reduceLT, Nat.reduceLeDiff, Nat.reduceAdd, Nat.reduceSub, Nat.reduceMul, reduceCtorEq, Int.reduceToNat, Int.reduceEq, Int.reduceLT, Int.reduceLE, Int.reduceNe, Int.reduceNeg , or_self, or_false, false_or , List.length_map, h3, Bool.or_true, Bool.true_or, Bool.or_false, Bool.false_or]
  · have h3' : within 0 1000 parts = false := by simpa using h3
    simp [shareP, h1', h2', h3']
  have h3' : within 0 1000 parts = true := by simpa using h3
  refine Br_split (fun h4 => ?_) (fun h4 => ?_) <;> simp only [go_sem, Nat.reduceBEq, Nat.reduceEqDiff, Nat.reduceLT, Nat.reduceLeDiff, Nat.reduceAdd, Nat.reduceSub, Nat.reduceMul, reduceCtorEq, Int.reduceToNat, Int.reduceEq, Int.reduceLT, Int.reduceLE, Int.reduceNe, Int.reduceNeg , or_self, or_false, false_or , List.length_map, h4, Bool.or_true, Bool.true_or, Bool.or_false, Bool.false_or]
  · have h4' : sumP parts = 0 := by simpa using h4
    simp [shareP, h1', h2', h3', h4']
  have h4' : ¬ sumP parts = 0 := by simpa using h4
  have hw := within_one h2'
  have hpk : PartsOk pence parts := ⟨(within_one h1').1, (within_one h1').2, by omega, within_all h3'⟩
  obtain ⟨hs1, hs2, hs3⟩ := sumP_eq hpk
  have hsp : 0 < parts.sum := by omega
  have hres : shareP pence parts = (sharesW pence parts.sum parts, 0) := by rw [hs1] at h4'; simp [shareP, h1', h2', h3', h4', hs1]
  rw [hres, hs1]
  obtain ⟨n, hnn⟩ : ∃ n, parts.length = n := ⟨_, rfl⟩
  have hall : parts.sum ≠ 0 := by omega
  refine ADrw.treeG (fun k => k == 4 || k == 44 || k == 47) tt_ok (by kernel_rfl) (fun k => if k = 0 ∨ k = 3 ∨ k = 6 then some .L else if k = 2 ∨ k = 5 then some .A else some .S) (.ones [0, 1, 3, 4, 6] (.two 2 (.ones [5, 7, 8, 9] .done) 5 (.ones [2, 7, 8, 9] .done))) (by simp) (fun _ h => nomatch h) rfl rfl (by kernel_rfl) ?_
  have m1 : (0 : Int) ≤ (n : Int) := by omega
  have m2 : (n : Int) ≤ 4294967296 := by omega
  simp only [go_sem, Nat.reduceBEq, Nat.reduceEqDiff, Nat.reduceLT, Nat.reduceLeDiff, Nat.reduceAdd, Nat.reduceSub, Nat.reduceMul, reduceCtorEq, Int.reduceToNat, Int.reduceEq, Int.reduceLT, Int.reduceLE, Int.reduceNe, Int.reduceNeg , or_self, or_false, false_or , List.length_map, hnn, m1, m2, Int.toNat_natCast, hasSl, dcells, List.any_cons, List.any_nil, Bool.or_true, Bool.true_or, Bool.or_false, Bool.false_or]
  refine ⟨?_, ?_⟩
  · refine ALoop.by (S := Nat) (fun i => [(51, .d (.int .i64 i)), (50, .d (.int .i64 n)), (49, .d (.sl (parts.map (.int .i64)))), (9, .ref 4 n 0 n), (10, .ref 5 n 0 n), (11, .d (.int .i64 (leftN pence parts.sum parts i))), (2, .ptr 0 0), (3, .ptr 1 0), (6, .ptr 3 0)])
      (fun i => [.cells [.d (.int .i64 pence)], .cells [.d (.sl (parts.map (.int .i64)))], .arr 1 true [], .cells [.d (.int .i64 parts.sum)], rowB (fillI (qW pence parts.sum parts) n i), rowB (fillI (fun j => (j : Int)) n i)]) (fun i => n - i) (fun i => i ≤ n) 0 (by simp) (fun _ h => nomatch h) (Nat.zero_le _) ?_ ?_
    · exact ForgetTo.same' (by simp) (by simp [EWe, Env.look, leftN]) (by simp [fillI_zero, rowB])
    rintro i hi hn
    refine AWP.run (fun k => k == 4 || k == 44 || k == 47) tt_ok (fun _ h => nomatch h) (by simp) rfl ?_
    simp only [go_sem, Nat.reduceBEq, Nat.reduceEqDiff, Nat.reduceLT, Nat.reduceLeDiff, Nat.reduceAdd, Nat.reduceSub, Nat.reduceMul, reduceCtorEq, Int.reduceToNat, Int.reduceEq, Int.reduceLT, Int.reduceLE, Int.reduceNe, Int.reduceNeg , or_self, or_false, false_or , List.length_map, Bool.or_true, Bool.true_or, Bool.or_false, Bool.false_or]
    refine Br_split (fun hd => ?_) (fun hd => ?_) <;> simp only [go_sem, Nat.reduceBEq, Nat.reduceEqDiff, Nat.reduceLT, Nat.reduceLeDiff, Nat.reduceAdd, Nat.reduceSub, Nat.reduceMul, reduceCtorEq, Int.reduceToNat, Int.reduceEq, Int.reduceLT, Int.reduceLE, Int.reduceNe, Int.reduceNeg , or_self, or_false, false_or , List.length_map, hd, Bool.or_true, Bool.true_or, Bool.or_false, Bool.false_or]
    · have hlt : i < n := by simpa using hd
      have hltp : i < parts.length := by omega
      have z0 : (0 : Int) ≤ (i : Int) := by omega
      have z1 : (i : Int) < (n : Int) := by omega
      have at1 : (fillI (qW pence parts.sum parts) n i)[i]? = some 0 := by simp [fillI, hlt]
      have at2 : (fillI (fun j => (j : Int)) n i)[i]? = some 0 := by simp [fillI, hlt]
      simp only [go_sem, Nat.reduceBEq, Nat.reduceEqDiff, Nat.reduceLT, Nat.reduceLeDiff, Nat.reduceAdd, Nat.reduceSub, Nat.reduceMul, reduceCtorEq, Int.reduceToNat, Int.reduceEq, Int.reduceLT, Int.reduceLE, Int.reduceNe, Int.reduceNeg , or_self, or_false, false_or , List.length_map, Bool.or_true, Bool.true_or, Bool.or_false, Bool.false_or, idx_nat, List.getElem?_map, List.getElem?_eq_getElem hltp, quoO_ne hall, rowB, fillI_len, z0, z1, Int.toNat_natCast, at1, at2, List.length_set, List.getElem?_set_self, hlt]
      refine ⟨i + 1, hlt, by omega, ?_⟩
      refine ForgetTo.same' (by simp) (by simp [EWe, Env.look, w64 (n := (i : Int) + 1) (by omega) (by omega), leftN, qW, hltp]) ?_
      have f1 := fillI_set (qW pence parts.sum parts) hlt
      have f2 := fillI_set (fun j => (j : Int)) hlt
      rw [← f1, ← f2]
      simp [rowB, List.map_set, qW, hltp]
    have hni : i = n := by have : ¬ i < n := by simpa using hd
                           omega
    rw [hni, fillI_end, fillI_end]
    simp only [go_sem, Nat.reduceBEq, Nat.reduceEqDiff, Nat.reduceLT, Nat.reduceLeDiff, Nat.reduceAdd, Nat.reduceSub, Nat.reduceMul, reduceCtorEq, Int.reduceToNat, Int.reduceEq, Int.reduceLT, Int.reduceLE, Int.reduceNe, Int.reduceNeg , or_self, or_false, false_or , List.length_map, Bool.or_true, Bool.true_or, Bool.or_false, Bool.false_or]
    refine ACallV.of rfl (c78 (H := [.cells [.d (.int .i64 pence)], .cells [.d (.sl (parts.map (.int .i64)))], .arr 1 true [], .cells [.d (.int .i64 parts.sum)], rowB ((List.range n).map (qW pence parts.sum parts)), rowB ((List.range n).map fun j : Nat => (j : Int))]) (id := 5) (n := n) (k := 79) (fx := []) (fy := [.ptr 0 0, .ptr 1 0, .ptr 3 0])
      (cmp := fun x y => cmpI (remW pence parts.sum parts y.toNat) (remW pence parts.sum parts x.toNat)) (p := fun x => ∃ i : Nat, i < parts.length ∧ x = i) (l := nats n) (by simp) (by simp [nats]) (by omega)
      (fun x hx => by obtain ⟨i, hi, rfl⟩ := List.mem_map.1 hx; exact ⟨i, by rw [hnn]; exact List.mem_range.1 hi, rfl⟩)
      (by
        rintro l' hl' x y ⟨i, hi, rfl⟩ ⟨k, hk, rfl⟩ Q hq
        simp only [Int.toNat_natCast] at hq
        exact ACallV.of rfl (c79 (parts := parts) (pence := pence) (all := parts.sum) rfl rfl rfl hall hi hk hq)) ?_)
    rw [show isortI (fun x y => decide (cmpI (remW pence parts.sum parts y.toNat) (remW pence parts.sum parts x.toNat) < 0)) (nats n) (n - 1) = orderW pence parts.sum parts by rw [← hnn]; rfl]
    have hol := order_len pence parts.sum parts
    have hoa := order_all pence parts.sum parts (by omega)
    have hlf := leftN_lt hpk hsp
    rw [hnn] at hol hlf
    have hsw : sharesW pence parts.sum parts = incL ((List.range n).map (qW pence parts.sum parts)) ((orderW pence parts.sum parts).take (leftN pence parts.sum parts n).toNat) := by rw [← hnn]; rfl
    rw [hsw]
    generalize orderW pence parts.sum parts = order at hol hoa
    obtain ⟨lf, hlfe⟩ : ∃ lf : Nat, leftN pence parts.sum parts n = lf := ⟨(leftN pence parts.sum parts n).toNat, by omega⟩
    rw [hlfe] at hlf ⊢
    have hlf1 : lf ≤ n := by omega
    have w0 : (0 : Int) ≤ (lf : Int) := by omega
    generalize hsh0 : (List.range n).map (qW pence parts.sum parts) = sh0
    have hsh0l : sh0.length = n := by rw [← hsh0]; simp
    simp only [go_sem, Nat.reduceBEq, Nat.reduceEqDiff, Nat.reduceLT, Nat.reduceLeDiff, Nat.reduceAdd, Nat.reduceSub, Nat.reduceMul, reduceCtorEq, Int.reduceToNat, Int.reduceEq, Int.reduceLT, Int.reduceLE, Int.reduceNe, Int.reduceNeg , or_self, or_false, false_or , List.length_map, Bool.or_true, Bool.true_or, Bool.or_false, Bool.false_or, rowB, w0, Int.toNat_natCast, List.length_map, hol, hlf1]
    refine ALoop.by (S := Nat) (fun k => [(82, .d (.int .i64 k)), (81, .d (.int .i64 lf)), (80, .ref 5 n 0 lf), (9, .ref 4 n 0 n)])
      (fun k => [.cells [.d (.int .i64 pence)], .cells [.d (.sl (parts.map (.int .i64)))], .arr 1 true [], .cells [.d (.int .i64 parts.sum)], rowB (incL sh0 (order.take k)), rowB (order)]) (fun k => lf - k) (fun k => k ≤ lf) 0 (by simp) (fun _ h => nomatch h) (Nat.zero_le _) ?_ ?_
    · exact ForgetTo.same' (by simp) (by simp [EWe, Env.look]) (by simp [incL, rowB])
    rintro k hk hnk
    refine AWP.run (fun k => k == 4 || k == 44 || k == 47) tt_ok (fun _ h => nomatch h) (by simp) rfl ?_
    simp only [go_sem, Nat.reduceBEq, Nat.reduceEqDiff, Nat.reduceLT, Nat.reduceLeDiff, Nat.reduceAdd, Nat.reduceSub, Nat.reduceMul, reduceCtorEq, Int.reduceToNat, Int.reduceEq, Int.reduceLT, Int.reduceLE, Int.reduceNe, Int.reduceNeg , or_self, or_false, false_or , List.length_map, Bool.or_true, Bool.true_or, Bool.or_false, Bool.false_or]
    refine Br_split (fun he => ?_) (fun he => ?_) <;> simp only [go_sem, Nat.reduceBEq, Nat.reduceEqDiff, Nat.reduceLT, Nat.reduceLeDiff, Nat.reduceAdd, Nat.reduceSub, Nat.reduceMul, reduceCtorEq, Int.reduceToNat, Int.reduceEq, Int.reduceLT, Int.reduceLE, Int.reduceNe, Int.reduceNeg , or_self, or_false, false_or , List.length_map, he, Bool.or_true, Bool.true_or, Bool.or_false, Bool.false_or]
    · have hkl : k < lf := by simpa using he
      have hko : k < order.length := by omega
      obtain ⟨x, hx, hxe⟩ := hoa order[k] (List.getElem_mem hko)
      have hxn : x < n := by omega
      have z0 : (0 : Int) ≤ (k : Int) := by omega
      have z1 : (k : Int) < (lf : Int) := by omega
      have z2 : (0 : Int) ≤ (x : Int) := by omega
      have z3 : (x : Int) < (n : Int) := by omega
      have hil : (incL sh0 (order.take k)).length = n := by rw [incL_len, hsh0l]
      have hxi : x < (incL sh0 (order.take k)).length := by omega
      simp only [go_sem, Nat.reduceBEq, Nat.reduceEqDiff, Nat.reduceLT, Nat.reduceLeDiff, Nat.reduceAdd, Nat.reduceSub, Nat.reduceMul, reduceCtorEq, Int.reduceToNat, Int.reduceEq, Int.reduceLT, Int.reduceLE, Int.reduceNe, Int.reduceNeg , or_self, or_false, false_or , List.length_map, Bool.or_true, Bool.true_or, Bool.or_false, Bool.false_or, rowB, hol, hil, z0, z1, z2, z3, Int.toNat_natCast, List.getElem?_map, List.getElem?_eq_getElem hko, hxe, List.getElem?_eq_getElem hxi]
      refine ⟨k + 1, hkl, by omega, ?_⟩
      refine ForgetTo.same' (by simp) (by simp [EWe, Env.look, w64 (n := (k : Int) + 1) (by omega) (by omega)]) ?_
      rw [incL_succ hko, hxe, Int.toNat_natCast, getD_eq hxi]
      simp [rowB, List.map_set]
    · have hke : k = lf := by have : ¬ k < lf := by simpa using he
                              omega
      rw [hke]
      have hil : (incL sh0 (order.take lf)).length = n := by rw [incL_len, hsh0l]
      have ht : ((incL sh0 (order.take lf)).map (D.int .i64)).take n = (incL sh0 (order.take lf)).map (D.int .i64) := List.take_of_length_le (by simp [hil])
      simp only [go_sem, Nat.reduceBEq, Nat.reduceEqDiff, Nat.reduceLT, Nat.reduceLeDiff, Nat.reduceAdd, Nat.reduceSub, Nat.reduceMul, reduceCtorEq, Int.reduceToNat, Int.reduceEq, Int.reduceLT, Int.reduceLE, Int.reduceNe, Int.reduceNeg , or_self, or_false, false_or , List.length_map, Bool.or_true, Bool.true_or, Bool.or_false, Bool.false_or, rowB, hil, ht, Int.toNat_natCast]
  · refine ALoop.by (S := Nat) (fun i => [(51, .d (.int .i64 i)), (50, .d (.int .i64 n)), (49, .d (.sl (parts.map (.int .i64)))), (9, .ref 5 n 0 n), (10, .ref 4 n 0 n), (11, .d (.int .i64 (leftN pence parts.sum parts i))), (2, .ptr 0 0), (3, .ptr 1 0), (6, .ptr 3 0)])
      (fun i => [.cells [.d (.int .i64 pence)], .cells [.d (.sl (parts.map (.int .i64)))], .arr 1 true [], .cells [.d (.int .i64 parts.sum)], rowB (fillI (fun j => (j : Int)) n i), rowB (fillI (qW pence parts.sum parts) n i)]) (fun i => n - i) (fun i => i ≤ n) 0 (by simp) (fun _ h => nomatch h) (Nat.zero_le _) ?_ ?_
    · exact ForgetTo.same' (by simp) (by simp [EWe, Env.look, leftN]) (by simp [fillI_zero, rowB])
    rintro i hi hn
    refine AWP.run (fun k => k == 4 || k == 44 || k == 47) tt_ok (fun _ h => nomatch h) (by simp) rfl ?_
    simp only [go_sem, Nat.reduceBEq, Nat.reduceEqDiff, Nat.reduceLT, Nat.reduceLeDiff, Nat.reduceAdd, Nat.reduceSub, Nat.reduceMul, reduceCtorEq, Int.reduceToNat, Int.reduceEq, Int.reduceLT, Int.reduceLE, Int.reduceNe, Int.reduceNeg , or_self, or_false, false_or , List.length_map, Bool.or_true, Bool.true_or, Bool.or_false, Bool.false_or]
    refine Br_split (fun hd => ?_) (fun hd => ?_) <;> simp only [go_sem, Nat.reduceBEq, Nat.reduceEqDiff, Nat.reduceLT, Nat.reduceLeDiff, Nat.reduceAdd, Nat.reduceSub, Nat.reduceMul, reduceCtorEq, Int.reduceToNat, Int.reduceEq, Int.reduceLT, Int.reduceLE, Int.reduceNe, Int.reduceNeg , or_self, or_false, false_or , List.length_map, hd, Bool.or_true, Bool.true_or, Bool.or_false, Bool.false_or]
    · have hlt : i < n := by simpa using hd
      have hltp : i < parts.length := by omega
      have z0 : (0 : Int) ≤ (i : Int) := by omega
      have z1 : (i : Int) < (n : Int) := by omega
      have at1 : (fillI (qW pence parts.sum parts) n i)[i]? = some 0 := by simp [fillI, hlt]
      have at2 : (fillI (fun j => (j : Int)) n i)[i]? = some 0 := by simp [fillI, hlt]
      simp only [go_sem, Nat.reduceBEq, Nat.reduceEqDiff, Nat.reduceLT, Nat.reduceLeDiff, Nat.reduceAdd, Nat.reduceSub, Nat.reduceMul, reduceCtorEq, Int.reduceToNat, Int.reduceEq, Int.reduceLT, Int.reduceLE, Int.reduceNe, Int.reduceNeg , or_self, or_false, false_or , List.length_map, Bool.or_true, Bool.true_or, Bool.or_false, Bool.false_or, idx_nat, List.getElem?_map, List.getElem?_eq_getElem hltp, quoO_ne hall, rowB, fillI_len, z0, z1, Int.toNat_natCast, at1, at2, List.length_set, List.getElem?_set_self, hlt]
      refine ⟨i + 1, hlt, by omega, ?_⟩
      refine ForgetTo.same' (by simp) (by simp [EWe, Env.look, w64 (n := (i : Int) + 1) (by omega) (by omega), leftN, qW, hltp]) ?_
      have f1 := fillI_set (qW pence parts.sum parts) hlt
      have f2 := fillI_set (fun j => (j : Int)) hlt
      rw [← f1, ← f2]
      simp [rowB, List.map_set, qW, hltp]
    have hni : i = n := by have : ¬ i < n := by simpa using hd
                           omega
    rw [hni, fillI_end, fillI_end]
    simp only [go_sem, Nat.reduceBEq, Nat.reduceEqDiff, Nat.reduceLT, Nat.reduceLeDiff, Nat.reduceAdd, Nat.reduceSub, Nat.reduceMul, reduceCtorEq, Int.reduceToNat, Int.reduceEq, Int.reduceLT, Int.reduceLE, Int.reduceNe, Int.reduceNeg , or_self, or_false, false_or , List.length_map, Bool.or_true, Bool.true_or, Bool.or_false, Bool.false_or]
    refine ACallV.of rfl (c78 (H := [.cells [.d (.int .i64 pence)], .cells [.d (.sl (parts.map (.int .i64)))], .arr 1 true [], .cells [.d (.int .i64 parts.sum)], rowB ((List.range n).map fun j : Nat => (j : Int)), rowB ((List.range n).map (qW pence parts.sum parts))]) (id := 4) (n := n) (k := 79) (fx := []) (fy := [.ptr 0 0, .ptr 1 0, .ptr 3 0])
      (cmp := fun x y => cmpI (remW pence parts.sum parts y.toNat) (remW pence parts.sum parts x.toNat)) (p := fun x => ∃ i : Nat, i < parts.length ∧ x = i) (l := nats n) (by simp) (by simp [nats]) (by omega)
      (fun x hx => by obtain ⟨i, hi, rfl⟩ := List.mem_map.1 hx; exact ⟨i, by rw [hnn]; exact List.mem_range.1 hi, rfl⟩)
      (by
        rintro l' hl' x y ⟨i, hi, rfl⟩ ⟨k, hk, rfl⟩ Q hq
        simp only [Int.toNat_natCast] at hq
        exact ACallV.of rfl (c79 (parts := parts) (pence := pence) (all := parts.sum) rfl rfl rfl hall hi hk hq)) ?_)
    rw [show isortI (fun x y => decide (cmpI (remW pence parts.sum parts y.toNat) (remW pence parts.sum parts x.toNat) < 0)) (nats n) (n - 1) = orderW pence parts.sum parts by rw [← hnn]; rfl]
    have hol := order_len pence parts.sum parts
    have hoa := order_all pence parts.sum parts (by omega)
    have hlf := leftN_lt hpk hsp
    rw [hnn] at hol hlf
    have hsw : sharesW pence parts.sum parts = incL ((List.range n).map (qW pence parts.sum parts)) ((orderW pence parts.sum parts).take (leftN pence parts.sum parts n).toNat) := by rw [← hnn]; rfl
    rw [hsw]
    generalize orderW pence parts.sum parts = order at hol hoa
    obtain ⟨lf, hlfe⟩ : ∃ lf : Nat, leftN pence parts.sum parts n = lf := ⟨(leftN pence parts.sum parts n).toNat, by omega⟩
    rw [hlfe] at hlf ⊢
    have hlf1 : lf ≤ n := by omega
    have w0 : (0 : Int) ≤ (lf : Int) := by omega
    generalize hsh0 : (List.range n).map (qW pence parts.sum parts) = sh0
    have hsh0l : sh0.length = n := by rw [← hsh0]; simp
    simp only [go_sem, Nat.reduceBEq, Nat.reduceEqDiff, Nat.reduceLT, Nat.reduceLeDiff, Nat.reduceAdd, Nat.reduceSub, Nat.reduceMul, reduceCtorEq, Int.reduceToNat, Int.reduceEq, Int.reduceLT, Int.reduceLE, Int.reduceNe, Int.reduceNeg , or_self, or_false, false_or , List.length_map, Bool.or_true, Bool.true_or, Bool.or_false, Bool.false_or, rowB, w0, Int.toNat_natCast, List.length_map, hol, hlf1]
    refine ALoop.by (S := Nat) (fun k => [(82, .d (.int .i64 k)), (81, .d (.int .i64 lf)), (80, .ref 4 n 0 lf), (9, .ref 5 n 0 n)])
      (fun k => [.cells [.d (.int .i64 pence)], .cells [.d (.sl (parts.map (.int .i64)))], .arr 1 true [], .cells [.d (.int .i64 parts.sum)], rowB (order), rowB (incL sh0 (order.take k))]) (fun k => lf - k) (fun k => k ≤ lf) 0 (by simp) (fun _ h => nomatch h) (Nat.zero_le _) ?_ ?_
    · exact ForgetTo.same' (by simp) (by simp [EWe, Env.look]) (by simp [incL, rowB])
    rintro k hk hnk
    refine AWP.run (fun k => k == 4 || k == 44 || k == 47) tt_ok (fun _ h => nomatch h) (by simp) rfl ?_
    simp only [go_sem, Nat.reduceBEq, Nat.reduceEqDiff, Nat.reduceLT, Nat.reduceLeDiff, Nat.reduceAdd, Nat.reduceSub, Nat.reduceMul, reduceCtorEq, Int.reduceToNat, Int.reduceEq, Int.reduceLT, Int.reduceLE, Int.reduceNe, Int.reduceNeg , or_self, or_false, false_or , List.length_map, Bool.or_true, Bool.true_or, Bool.or_false, Bool.false_or]
    refine Br_split (fun he => ?_) (fun he => ?_) <;> simp only [go_sem, Nat.reduceBEq, Nat.reduceEqDiff, Nat.reduceLT, Nat.reduceLeDiff, Nat.reduceAdd, Nat.reduceSub, Nat.reduceMul, reduceCtorEq, Int.reduceToNat, Int.reduceEq, Int.reduceLT, Int.reduceLE, Int.reduceNe, Int.reduceNeg , or_self, or_false, false_or , List.length_map, he, Bool.or_true, Bool.true_or, Bool.or_false, Bool.false_or]
    · have hkl : k < lf := by simpa using he
      have hko : k < order.length := by omega
      obtain ⟨x, hx, hxe⟩ := hoa order[k] (List.getElem_mem hko)
      have hxn : x < n := by omega
      have z0 : (0 : Int) ≤ (k : Int) := by omega
      have z1 : (k : Int) < (lf : Int) := by omega
      have z2 : (0 : Int) ≤ (x : Int) := by omega
      have z3 : (x : Int) < (n : Int) := by omega
      have hil : (incL sh0 (order.take k)).length = n := by rw [incL_len, hsh0l]
      have hxi : x < (incL sh0 (order.take k)).length := by omega
      simp only [go_sem, Nat.reduceBEq, Nat.reduceEqDiff, Nat.reduceLT, Nat.reduceLeDiff, Nat.reduceAdd, Nat.reduceSub, Nat.reduceMul, reduceCtorEq, Int.reduceToNat, Int.reduceEq, Int.reduceLT, Int.reduceLE, Int.reduceNe, Int.reduceNeg , or_self, or_false, false_or , List.length_map, Bool.or_true, Bool.true_or, Bool.or_false, Bool.false_or, rowB, hol, hil, z0, z1, z2, z3, Int.toNat_natCast, List.getElem?_map, List.getElem?_eq_getElem hko, hxe, List.getElem?_eq_getElem hxi]
      refine ⟨k + 1, hkl, by omega, ?_⟩
      refine ForgetTo.same' (by simp) (by simp [EWe, Env.look, w64 (n := (k : Int) + 1) (by omega) (by omega)]) ?_
      rw [incL_succ hko, hxe, Int.toNat_natCast, getD_eq hxi]
      simp [rowB, List.map_set]
    · have hke : k = lf := by have : ¬ k < lf := by simpa using he
                              omega
      rw [hke]
      have hil : (incL sh0 (order.take lf)).length = n := by rw [incL_len, hsh0l]
      have ht : ((incL sh0 (order.take lf)).map (D.int .i64)).take n = (incL sh0 (order.take lf)).map (D.int .i64) := List.take_of_length_le (by simp [hil])
      simp only [go_sem, Nat.reduceBEq, Nat.reduceEqDiff, Nat.reduceLT, Nat.reduceLeDiff, Nat.reduceAdd, Nat.reduceSub, Nat.reduceMul, reduceCtorEq, Int.reduceToNat, Int.reduceEq, Int.reduceLT, Int.reduceLE, Int.reduceNe, Int.reduceNeg , or_self, or_false, false_or , List.length_map, Bool.or_true, Bool.true_or, Bool.or_false, Bool.false_or, rowB, hil, ht, Int.toNat_natCast]
end Go.Aw
end

section
namespace Go.Aw
open Go Go.Proofs.Try

/-- A book that the document lets through. -/
structure Book.Ok (b : Book) : Prop where
  s1 : 1 ≤ b.stock.length
  s4 : b.stock.length ≤ 4
  sv : ∀ n ∈ b.stock, 0 ≤ n ∧ n ≤ 10000
  e12 : b.ents.length ≤ 12
  ev : ∀ x ∈ b.ents, (0 ≤ x.day ∧ x.day ≤ 365) ∧ (0 ≤ x.goods ∧ x.goods < b.stock.length) ∧ (-1000 ≤ x.amount ∧ x.amount ≤ 1000) ∧ x.amount ≠ 0
  r3 : b.recs.length ≤ 3
  rv : ∀ r ∈ b.recs, r.length = b.stock.length ∧ ∀ s ∈ r, 0 ≤ s.lo ∧ s.lo ≤ s.hi ∧ s.hi ≤ 50 ∧ s.hi - s.lo < 8
  m8 : b.made.length ≤ 8
  mv : ∀ m ∈ b.made, (0 ≤ m.day ∧ m.day ≤ 365) ∧ (0 ≤ m.kind ∧ m.kind < b.recs.length) ∧ (1 ≤ m.many ∧ m.many ≤ 100)

theorem within_two {a c m n : Int} (h : within a c [m, n] = true) : (a ≤ m ∧ m ≤ c) ∧ (a ≤ n ∧ n ≤ c) :=
  ⟨within_all h m (by simp), within_all h n (by simp)⟩

theorem badSpan_ok {s : Sp} (h : badSpan s = false) : 0 ≤ s.lo ∧ s.lo ≤ s.hi ∧ s.hi ≤ 50 ∧ s.hi - s.lo < 8 := by
  simp only [badSpan, Bool.or_eq_false_iff, Bool.not_eq_false', Bool.and_eq_true, decide_eq_true_eq, decide_eq_false_iff_not] at h
  obtain ⟨⟨h1, h2⟩, h3⟩ := h
  have := within_two h1
  rw [w64 (by omega) (by omega)] at h3
  omega

theorem any_false {α : Type} {p : α → Bool} {l : List α} (h : l.any p = false) : ∀ x ∈ l, p x = false := by
  intro x hx
  cases hp : p x with
  | false => rfl
  | true => rw [List.any_eq_true.2 ⟨x, hx, hp⟩] at h; cases h

theorem checkP_ok {b : Book} (h : checkP b = 0) : b.Ok := by
  unfold checkP at h
  split at h
  · cases h
  rename_i h1
  split at h
  · cases h
  rename_i h2
  split at h
  · cases h
  rename_i h3
  simp only [Bool.not_eq_true, Bool.or_eq_false_iff, Bool.not_eq_false', decide_eq_false_iff_not] at h1 h2 h3
  have hs := within_one h1.1
  have w1 : IntKind.i64.wrap ((b.stock.length : Int) - 1) = (b.stock.length : Int) - 1 := w64 (by omega) (by omega)
  have w2 : IntKind.i64.wrap ((b.recs.length : Int) - 1) = (b.recs.length : Int) - 1 := w64 (by omega) (by omega)
  refine ⟨by omega, by omega, within_all h1.2, by omega, fun x hx => ?_, by omega, fun r hr => ?_, by omega, fun m hm => ?_⟩
  · have := any_false h3.1 x hx
    simp only [badEnt, w1, Bool.or_eq_false_iff, Bool.not_eq_false', beq_eq_false_iff_ne] at this
    obtain ⟨k1, k2, k3, k4⟩ := this
    have := within_one k1
    have := within_one k2
    have := within_one k3
    exact ⟨by omega, by omega, by omega, k4⟩
  · have := any_false h3.2.1 r hr
    simp only [badRec, Bool.or_eq_false_iff, Bool.not_eq_false', decide_eq_true_eq] at this
    exact ⟨by omega, fun s hs => badSpan_ok (any_false this.2 s hs)⟩
  · have := any_false h3.2.2 m hm
    simp only [badMad, w2, Bool.or_eq_false_iff, Bool.not_eq_false'] at this
    obtain ⟨k1, k2, k3⟩ := this
    have := within_one k1
    have := within_one k2
    have := within_one k3
    exact ⟨by omega, by omega, by omega⟩

theorem Book.Ok.fits {b : Book} (h : b.Ok) : b.Fits :=
  ⟨by have := h.s4; omega, by have := h.e12; omega, by have := h.r3; omega, by have := h.m8; omega, fun r hr => by have := (h.rv r hr).1; have := h.s4; omega⟩

theorem Book.Ok.acc {b : Book} (h : b.Ok) {g : Nat} (hg : g < b.stock.length) : b.Acc g :=
  ⟨h.fits, hg, h.r3, fun r hr => by rw [(h.rv r hr).1]; exact hg, fun m hm => by have := (h.mv m hm).2.1; have := h.r3; omega⟩

theorem getD_mem {α : Type} {l : List α} {i : Nat} {d : α} : l.getD i d ∈ l ∨ l.getD i d = d := by
  rcases Nat.lt_or_ge i l.length with h | h
  · rw [getD_eq h]; exact .inl (List.getElem_mem h)
  · right; rw [List.getD_eq_getElem?_getD, List.getElem?_eq_none h]; rfl

theorem Book.Ok.span {b : Book} (h : b.Ok) (g k : Nat) : 0 ≤ (spanB b g k).lo ∧ (spanB b g k).lo ≤ (spanB b g k).hi ∧ (spanB b g k).hi ≤ 50 ∧ (spanB b g k).hi - (spanB b g k).lo < 8 := by
  have zero : (⟨0, 0⟩ : Sp).lo = 0 ∧ (⟨0, 0⟩ : Sp).hi = 0 := ⟨rfl, rfl⟩
  unfold spanB
  rcases getD_mem (l := b.recs) (i := k) (d := ([] : List Sp)) with h1 | h1
  · rcases getD_mem (l := b.recs.getD k []) (i := g) (d := (⟨0, 0⟩ : Sp)) with h2 | h2
    · exact (h.rv _ h1).2 _ h2
    · rw [h2]; omega
  · rw [h1]; simp

theorem acct_sp (b : Book) (g : Nat) (day : Int) (k : Nat) (hk : k < 3) : (acctW b g day).sp k = spanB b g k := by
  have : k = 0 ∨ k = 1 ∨ k = 2 := by omega
  rcases this with rfl | rfl | rfl <;> rfl

theorem Book.Ok.acct {b : Book} (h : b.Ok) (g : Nat) (day : Int) : (acctW b g day).Ok := by
  have key : ∀ k, ∃ j, (acctW b g day).sp k = spanB b g j := fun k => by
    rcases Nat.lt_or_ge k 3 with hk | hk
    · exact ⟨k, acct_sp b g day k hk⟩
    · exact ⟨2, by unfold Acct.sp; split <;> first | omega | rfl⟩
  refine ⟨by simp [acctW], by have := h.r3; simp only [acctW]; omega, fun k => ?_, fun k => ?_⟩
  · obtain ⟨j, e⟩ := key k
    rw [e]; have := h.span g j; omega
  · obtain ⟨j, e⟩ := key k
    rw [e]; have := h.span g j; omega

theorem Book.Ok.good {b : Book} (h : b.Ok) : b.Good := ⟨fun _ hg => h.acc hg, fun g _ => h.acct g 365⟩

theorem checkP_good {b : Book} (h : checkP b = 0) : b.Good := (checkP_ok h).good
theorem checkP_acc {b : Book} (h : checkP b = 0) : ∀ g, g < b.stock.length → b.Acc g := fun _ hg => (checkP_ok h).acc hg
end Go.Aw
end

section
namespace Go.Aw
open Go Go.Proofs.Try

def bk (s : Int) : Book := ⟨[s, 50], [⟨3, 0, 40⟩, ⟨5, 1, -10⟩, ⟨8, 0, -20⟩], [[⟨2, 3⟩, ⟨1, 1⟩], [⟨0, 0⟩, ⟨4, 5⟩]], [⟨4, 0, 10⟩, ⟨9, 1, 3⟩]⟩

theorem bk_fits (s : Int) : (bk s).Fits := ⟨by simp [bk], by simp [bk], by simp [bk], by simp [bk], by simp [bk]⟩

theorem c55 (s : Int) : PC prog 55 [.d (.int .i64 s)] (.d (bk s).d) := by
  refine PC.run (fun _ => false) tt_ok (fn := f55) (rs := [.cell 2 27]) rfl rfl rfl rfl rfl rfl rfl ?_
  simp only [go_sem, Nat.reduceBEq, Nat.reduceEqDiff, Nat.reduceLT, Nat.reduceLeDiff, Nat.reduceAdd, Nat.reduceSub, Nat.reduceMul, reduceCtorEq, Int.reduceToNat, Int.reduceEq, Int.reduceLT, Int.reduceLE, Int.reduceNe, Int.reduceNeg , or_self, or_false, false_or , List.length_map]
  refine (c24 2 3).call rfl rfl rfl ?_
  simp only [go_sem, Nat.reduceBEq, Nat.reduceEqDiff, Nat.reduceLT, Nat.reduceLeDiff, Nat.reduceAdd, Nat.reduceSub, Nat.reduceMul, reduceCtorEq, Int.reduceToNat, Int.reduceEq, Int.reduceLT, Int.reduceLE, Int.reduceNe, Int.reduceNeg , or_self, or_false, false_or , List.length_map]
  refine (c24 1 1).call rfl rfl rfl ?_
  simp only [go_sem, Nat.reduceBEq, Nat.reduceEqDiff, Nat.reduceLT, Nat.reduceLeDiff, Nat.reduceAdd, Nat.reduceSub, Nat.reduceMul, reduceCtorEq, Int.reduceToNat, Int.reduceEq, Int.reduceLT, Int.reduceLE, Int.reduceNe, Int.reduceNeg , or_self, or_false, false_or , List.length_map, Sp.d]
  refine (c24 0 0).call rfl rfl rfl ?_
  simp only [go_sem, Nat.reduceBEq, Nat.reduceEqDiff, Nat.reduceLT, Nat.reduceLeDiff, Nat.reduceAdd, Nat.reduceSub, Nat.reduceMul, reduceCtorEq, Int.reduceToNat, Int.reduceEq, Int.reduceLT, Int.reduceLE, Int.reduceNe, Int.reduceNeg , or_self, or_false, false_or , List.length_map]
  refine (c24 4 5).call rfl rfl rfl ?_
  simp only [go_sem, Nat.reduceBEq, Nat.reduceEqDiff, Nat.reduceLT, Nat.reduceLeDiff, Nat.reduceAdd, Nat.reduceSub, Nat.reduceMul, reduceCtorEq, Int.reduceToNat, Int.reduceEq, Int.reduceLT, Int.reduceLE, Int.reduceNe, Int.reduceNeg , or_self, or_false, false_or , List.length_map, Sp.d]
  simp [Book.d, bk, Ent.d, Mad.d, recD, Sp.d]

def cnt1 : List Sp := [⟨88, 90⟩, ⟨15, 16⟩]
def cnt2 : List Sp := [⟨91, 95⟩, ⟨15, 16⟩]

theorem k17 : leftP (bk 100) = ([⟨90, 100⟩, ⟨15, 18⟩], 0) := by kernel_rfl
theorem k18 : missP (bk 100) cnt1 = ([⟨0, 12⟩, ⟨-1, 3⟩], 0) := by kernel_rfl
theorem k25 : oddP (bk 100) cnt2 = ([0], 0) := by kernel_rfl
theorem k26 : toldP (bk 100) cnt1 = ([[⟨3, 3⟩, ⟨1, 1⟩], [⟨0, 0⟩, ⟨5, 5⟩]], 0) := by kernel_rfl
theorem k32 : fixP (bk 100) cnt2 = ([⟨0, ⟨31, 45⟩⟩, ⟨2, ⟨-29, -15⟩⟩], 0) := by kernel_rfl
theorem k35 : lowP (bk 5) 0 = (-1, 8, 0) := by kernel_rfl
theorem k36 : buyP (bk 5) 3 = ([⟨0, 5, 5⟩], 0) := by kernel_rfl
theorem k42 : shareP 10 [1, 2, 4] = ([1, 3, 6], 0) := by kernel_rfl
theorem k45 : chipsL [⟨⟨100, 104⟩, 8⟩, ⟨⟨7, 7⟩, 5⟩] = (⟨52, 54⟩, 0) := by kernel_rfl

theorem e17 : PC prog 17 [.d (bk 100).d] (.tup [.d (.sl [.agg [.int .i64 90, .int .i64 100], .agg [.int .i64 15, .int .i64 18]]), .d (.int .i64 0)]) := by
  have := c17 (bk 100) (bk_fits _) checkP_acc
  rwa [k17] at this
theorem e18 : PC prog 18 [.d (bk 100).d, .d (.sl [.agg [.int .i64 88, .int .i64 90], .agg [.int .i64 15, .int .i64 16]])] (.tup [.d (.sl [.agg [.int .i64 0, .int .i64 12], .agg [.int .i64 (-1), .int .i64 3]]), .d (.int .i64 0)]) := by
  have := c18 (bk 100) cnt1 (bk_fits _) (by simp [cnt1]) checkP_acc
  rwa [k18] at this
theorem e25 : PC prog 25 [.d (bk 100).d, .d (.sl [.agg [.int .i64 91, .int .i64 95], .agg [.int .i64 15, .int .i64 16]])] (.tup [.d (.sl [.int .i64 0]), .d (.int .i64 0)]) := by
  have := c25 (bk 100) cnt2 (bk_fits _) (by simp [cnt2]) checkP_good
  rwa [k25] at this
theorem e26 : PC prog 26 [.d (bk 100).d, .d (.sl [.agg [.int .i64 88, .int .i64 90], .agg [.int .i64 15, .int .i64 16]])] (.tup [.d (.sl [.sl [.agg [.int .i64 3, .int .i64 3], .agg [.int .i64 1, .int .i64 1]], .sl [.agg [.int .i64 0, .int .i64 0], .agg [.int .i64 5, .int .i64 5]]]), .d (.int .i64 0)]) := by
  have := c26 (bk 100) cnt1 (bk_fits _) (by simp [cnt1]) checkP_good
  rwa [k26] at this
theorem e32 : PC prog 32 [.d (bk 100).d, .d (.sl [.agg [.int .i64 91, .int .i64 95], .agg [.int .i64 15, .int .i64 16]])] (.tup [.d (.sl [.agg [.int .i64 0, .int .i64 31, .int .i64 45], .agg [.int .i64 2, .int .i64 (-29), .int .i64 (-15)]]), .d (.int .i64 0)]) := by
  have := c32 (bk 100) cnt2 (bk_fits _) (by simp [cnt2]) checkP_good
  rwa [k32] at this
theorem e35 : PC prog 35 [.d (bk 5).d, .d (.int .i64 0)] (.tup [.d (.int .i64 (-1)), .d (.int .i64 8), .d (.int .i64 0)]) := by
  have := c35 (bk 5) 0 (bk_fits _) checkP_acc
  rwa [k35] at this
theorem e36 : PC prog 36 [.d (bk 5).d, .d (.int .i64 3)] (.tup [.d (.sl [.agg [.int .i64 0, .int .i64 5, .int .i64 5]]), .d (.int .i64 0)]) := by
  have := c36 (bk 5) 3 (bk_fits _) checkP_acc
  rwa [k36] at this
theorem e42 : PC prog 42 [.d (.int .i64 10), .d (.sl [.int .i64 1, .int .i64 2, .int .i64 4])] (.tup [.d (.sl [.int .i64 1, .int .i64 3, .int .i64 6]), .d (.int .i64 0)]) := by
  have := c42 10 [1, 2, 4] (by simp)
  rwa [k42] at this
theorem e45 : PC prog 45 [.d (.sl [.agg [.int .i64 100, .int .i64 104, .int .i64 8], .agg [.int .i64 7, .int .i64 7, .int .i64 5]])] (.tup [.d (.agg [.int .i64 52, .int .i64 54]), .d (.int .i64 0)]) := by
  have := c45 [⟨⟨100, 104⟩, 8⟩, ⟨⟨7, 7⟩, 5⟩] (by simp)
  rwa [k45] at this

theorem eSpans (a : List Sp) (h : a.length ≤ 1000) : PC prog 21 [.d (.sl (a.map Sp.d)), .d (.sl (a.map Sp.d))] (.d (.bool true)) := by
  have := c21 a a (by omega) (by omega)
  simpa using this
theorem eInts (a : List Int) (h : a.length ≤ 1000) : PC prog 28 [.d (.sl (a.map (.int .i64))), .d (.sl (a.map (.int .i64)))] (.d (.bool true)) := by
  have := c28 a a (by omega) (by omega)
  simpa using this
theorem eFixes (a : List FixS) (h : a.length ≤ 1000) : PC prog 34 [.d (.sl (a.map FixS.d)), .d (.sl (a.map FixS.d))] (.d (.bool true)) := by
  have := c34 a a (by omega) (by omega)
  simpa using this
theorem eBuys (a : List BuyS) (h : a.length ≤ 1000) : PC prog 40 [.d (.sl (a.map BuyS.d)), .d (.sl (a.map BuyS.d))] (.d (.bool true)) := by
  have := c40 a a (by omega) (by omega)
  simpa using this
theorem eLists (a : List (List Sp)) (h : a.length ≤ 1000) (h2 : ∀ x ∈ a, x.length ≤ 1000) : PC prog 31 [.d (lists a), .d (lists a)] (.d (.bool true)) := by
  have := c31 a a (by omega) (by omega) (fun x hx => by have := h2 x hx; omega) (fun x hx => by have := h2 x hx; omega)
  simpa using this

end Go.Aw
end

section
namespace Go.Aw
open Go Go.Proofs.Try

abbrev Q14 : Ex → Env → Heap → Prop := FnPost Tt [.tmp 0] 0 fun r H' => H' = [] ∧ r = .d (.bool true)

set_option maxRecDepth 4000 in
theorem t14_13 : AWP prog 179 0 none (restC 13 (bodyOf f14)) [(1, .slx (some false) [.agg [.int .i64 (88), .int .i64 (90)], .agg [.int .i64 (15), .int .i64 (16)]]), (2, .slx (some false) [.agg [.int .i64 (91), .int .i64 (95)], .agg [.int .i64 (15), .int .i64 (16)]]), (11, .d (.sl [.agg [.int .i64 (0), .int .i64 (31), .int .i64 (45)], .agg [.int .i64 (2), .int .i64 (-29), .int .i64 (-15)]])), (13, .d (.int .i64 (-1))), (14, .d (.int .i64 (8))), (16, .d (.sl [.agg [.int .i64 (0), .int .i64 (5), .int .i64 (5)]])), (18, .d (.sl [.int .i64 (1), .int .i64 (3), .int .i64 (6)])), (20, .ptr 0 0)] [.cells [.d (.int .i64 52), .d (.int .i64 54)]] Q14 := by
  refine AWP.run (fun _ => false) tt_ok (fun _ h => nomatch h) (Nat.zero_le _) rfl ?_
  simp only [go_sem, Nat.reduceBEq, Nat.reduceEqDiff, Nat.reduceLT, Nat.reduceLeDiff, Nat.reduceAdd, Nat.reduceSub, Nat.reduceMul, reduceCtorEq, Int.reduceToNat, Int.reduceEq, Int.reduceLT, Int.reduceLE, Int.reduceNe, Int.reduceNeg , or_self, or_false, false_or , List.length_map]
  refine ADrw.treeG (fun _ => false) tt_ok (by kernel_rfl) (fun k => if k = 27 then some .L else some .S) (.ones [0, 1, 2, 3, 4, 5, 6, 7, 8, 9, 10, 11, 12, 13, 14, 15, 16, 17, 18, 19, 20, 21, 22, 23, 24, 25, 26, 27, 28, 29, 30, 31] .done) (Nat.zero_le _) (fun _ h => nomatch h) rfl rfl (by kernel_rfl) ?_
  simp only [go_sem, Nat.reduceBEq, Nat.reduceEqDiff, Nat.reduceLT, Nat.reduceLeDiff, Nat.reduceAdd, Nat.reduceSub, Nat.reduceMul, reduceCtorEq, Int.reduceToNat, Int.reduceEq, Int.reduceLT, Int.reduceLE, Int.reduceNe, Int.reduceNeg , or_self, or_false, false_or , List.length_map]
  refine (c24 31 45).callS rfl rfl rfl rfl rfl rfl ?_
  simp only [go_sem, Nat.reduceBEq, Nat.reduceEqDiff, Nat.reduceLT, Nat.reduceLeDiff, Nat.reduceAdd, Nat.reduceSub, Nat.reduceMul, reduceCtorEq, Int.reduceToNat, Int.reduceEq, Int.reduceLT, Int.reduceLE, Int.reduceNe, Int.reduceNeg , or_self, or_false, false_or , List.length_map, Sp.d]
  refine (c24 (-29) (-15)).callS rfl rfl rfl rfl rfl rfl ?_
  simp only [go_sem, Nat.reduceBEq, Nat.reduceEqDiff, Nat.reduceLT, Nat.reduceLeDiff, Nat.reduceAdd, Nat.reduceSub, Nat.reduceMul, reduceCtorEq, Int.reduceToNat, Int.reduceEq, Int.reduceLT, Int.reduceLE, Int.reduceNe, Int.reduceNeg , or_self, or_false, false_or , List.length_map, Sp.d]
  refine (eFixes [⟨0, ⟨31, 45⟩⟩, ⟨2, ⟨-29, -15⟩⟩] (by simp)).callS rfl rfl rfl rfl rfl rfl ?_
  simp only [go_sem, Nat.reduceBEq, Nat.reduceEqDiff, Nat.reduceLT, Nat.reduceLeDiff, Nat.reduceAdd, Nat.reduceSub, Nat.reduceMul, reduceCtorEq, Int.reduceToNat, Int.reduceEq, Int.reduceLT, Int.reduceLE, Int.reduceNe, Int.reduceNeg , or_self, or_false, false_or , List.length_map, Sp.d]
  refine (eBuys [⟨0, 5, 5⟩] (by simp)).callS rfl rfl rfl rfl rfl rfl ?_
  simp only [go_sem, Nat.reduceBEq, Nat.reduceEqDiff, Nat.reduceLT, Nat.reduceLeDiff, Nat.reduceAdd, Nat.reduceSub, Nat.reduceMul, reduceCtorEq, Int.reduceToNat, Int.reduceEq, Int.reduceLT, Int.reduceLE, Int.reduceNe, Int.reduceNeg , or_self, or_false, false_or , List.length_map, Sp.d]
  refine (eInts [1, 3, 6] (by simp)).callS rfl rfl rfl rfl rfl rfl ?_
  simp only [go_sem, Nat.reduceBEq, Nat.reduceEqDiff, Nat.reduceLT, Nat.reduceLeDiff, Nat.reduceAdd, Nat.reduceSub, Nat.reduceMul, reduceCtorEq, Int.reduceToNat, Int.reduceEq, Int.reduceLT, Int.reduceLE, Int.reduceNe, Int.reduceNeg , or_self, or_false, false_or , List.length_map, Sp.d]
  refine (c24 52 54).callS rfl rfl rfl rfl rfl rfl ?_
  simp only [go_sem, Nat.reduceBEq, Nat.reduceEqDiff, Nat.reduceLT, Nat.reduceLeDiff, Nat.reduceAdd, Nat.reduceSub, Nat.reduceMul, reduceCtorEq, Int.reduceToNat, Int.reduceEq, Int.reduceLT, Int.reduceLE, Int.reduceNe, Int.reduceNeg , or_self, or_false, false_or , List.length_map, Sp.d]

set_option maxRecDepth 4000 in
theorem t14_12 : AWP prog 179 0 none (restC 12 (bodyOf f14)) [(1, .slx (some false) [.agg [.int .i64 (88), .int .i64 (90)], .agg [.int .i64 (15), .int .i64 (16)]]), (2, .slx (some false) [.agg [.int .i64 (91), .int .i64 (95)], .agg [.int .i64 (15), .int .i64 (16)]]), (3, .d (.sl [.agg [.int .i64 (90), .int .i64 (100)], .agg [.int .i64 (15), .int .i64 (18)]])), (5, .d (.sl [.agg [.int .i64 (0), .int .i64 (12)], .agg [.int .i64 (-1), .int .i64 (3)]])), (7, .d (.sl [.int .i64 (0)])), (9, .d (.sl [.sl [.agg [.int .i64 (3), .int .i64 (3)], .agg [.int .i64 (1), .int .i64 (1)]], .sl [.agg [.int .i64 (0), .int .i64 (0)], .agg [.int .i64 (5), .int .i64 (5)]]])), (11, .d (.sl [.agg [.int .i64 (0), .int .i64 (31), .int .i64 (45)], .agg [.int .i64 (2), .int .i64 (-29), .int .i64 (-15)]])), (13, .d (.int .i64 (-1))), (14, .d (.int .i64 (8))), (16, .d (.sl [.agg [.int .i64 (0), .int .i64 (5), .int .i64 (5)]])), (18, .d (.sl [.int .i64 (1), .int .i64 (3), .int .i64 (6)])), (20, .ptr 0 0)] [.cells [.d (.int .i64 52), .d (.int .i64 54)]] Q14 := by
  refine AWP.step [(1, .slx (some false) [.agg [.int .i64 (88), .int .i64 (90)], .agg [.int .i64 (15), .int .i64 (16)]]), (2, .slx (some false) [.agg [.int .i64 (91), .int .i64 (95)], .agg [.int .i64 (15), .int .i64 (16)]]), (11, .d (.sl [.agg [.int .i64 (0), .int .i64 (31), .int .i64 (45)], .agg [.int .i64 (2), .int .i64 (-29), .int .i64 (-15)]])), (13, .d (.int .i64 (-1))), (14, .d (.int .i64 (8))), (16, .d (.sl [.agg [.int .i64 (0), .int .i64 (5), .int .i64 (5)]])), (18, .d (.sl [.int .i64 (1), .int .i64 (3), .int .i64 (6)])), (20, .ptr 0 0)] [.cells [.d (.int .i64 52), .d (.int .i64 54)]] (fun _ => false) tt_ok (fun _ h => nomatch h) (Nat.zero_le _) rfl ?_ t14_13
  · simp only [go_sem, Nat.reduceBEq, Nat.reduceEqDiff, Nat.reduceLT, Nat.reduceLeDiff, Nat.reduceAdd, Nat.reduceSub, Nat.reduceMul, reduceCtorEq, Int.reduceToNat, Int.reduceEq, Int.reduceLT, Int.reduceLE, Int.reduceNe, Int.reduceNeg , or_self, or_false, false_or , List.length_map]
    refine (c24 90 100).call rfl rfl rfl ?_
    simp only [go_sem, Nat.reduceBEq, Nat.reduceEqDiff, Nat.reduceLT, Nat.reduceLeDiff, Nat.reduceAdd, Nat.reduceSub, Nat.reduceMul, reduceCtorEq, Int.reduceToNat, Int.reduceEq, Int.reduceLT, Int.reduceLE, Int.reduceNe, Int.reduceNeg , or_self, or_false, false_or , List.length_map, Sp.d]
    refine (c24 15 18).call rfl rfl rfl ?_
    simp only [go_sem, Nat.reduceBEq, Nat.reduceEqDiff, Nat.reduceLT, Nat.reduceLeDiff, Nat.reduceAdd, Nat.reduceSub, Nat.reduceMul, reduceCtorEq, Int.reduceToNat, Int.reduceEq, Int.reduceLT, Int.reduceLE, Int.reduceNe, Int.reduceNeg , or_self, or_false, false_or , List.length_map, Sp.d]
    refine (eSpans [⟨90, 100⟩, ⟨15, 18⟩] (by simp)).call rfl rfl rfl ?_
    simp only [go_sem, Nat.reduceBEq, Nat.reduceEqDiff, Nat.reduceLT, Nat.reduceLeDiff, Nat.reduceAdd, Nat.reduceSub, Nat.reduceMul, reduceCtorEq, Int.reduceToNat, Int.reduceEq, Int.reduceLT, Int.reduceLE, Int.reduceNe, Int.reduceNeg , or_self, or_false, false_or , List.length_map, Sp.d]
    refine (c24 0 12).call rfl rfl rfl ?_
    simp only [go_sem, Nat.reduceBEq, Nat.reduceEqDiff, Nat.reduceLT, Nat.reduceLeDiff, Nat.reduceAdd, Nat.reduceSub, Nat.reduceMul, reduceCtorEq, Int.reduceToNat, Int.reduceEq, Int.reduceLT, Int.reduceLE, Int.reduceNe, Int.reduceNeg , or_self, or_false, false_or , List.length_map, Sp.d]
    refine (c24 (-1) 3).call rfl rfl rfl ?_
    simp only [go_sem, Nat.reduceBEq, Nat.reduceEqDiff, Nat.reduceLT, Nat.reduceLeDiff, Nat.reduceAdd, Nat.reduceSub, Nat.reduceMul, reduceCtorEq, Int.reduceToNat, Int.reduceEq, Int.reduceLT, Int.reduceLE, Int.reduceNe, Int.reduceNeg , or_self, or_false, false_or , List.length_map, Sp.d]
    refine (eSpans [⟨0, 12⟩, ⟨-1, 3⟩] (by simp)).call rfl rfl rfl ?_
    simp only [go_sem, Nat.reduceBEq, Nat.reduceEqDiff, Nat.reduceLT, Nat.reduceLeDiff, Nat.reduceAdd, Nat.reduceSub, Nat.reduceMul, reduceCtorEq, Int.reduceToNat, Int.reduceEq, Int.reduceLT, Int.reduceLE, Int.reduceNe, Int.reduceNeg , or_self, or_false, false_or , List.length_map, Sp.d]
    refine (eInts [0] (by simp)).call rfl rfl rfl ?_
    simp only [go_sem, Nat.reduceBEq, Nat.reduceEqDiff, Nat.reduceLT, Nat.reduceLeDiff, Nat.reduceAdd, Nat.reduceSub, Nat.reduceMul, reduceCtorEq, Int.reduceToNat, Int.reduceEq, Int.reduceLT, Int.reduceLE, Int.reduceNe, Int.reduceNeg , or_self, or_false, false_or , List.length_map, Sp.d]
    refine (c24 3 3).call rfl rfl rfl ?_
    simp only [go_sem, Nat.reduceBEq, Nat.reduceEqDiff, Nat.reduceLT, Nat.reduceLeDiff, Nat.reduceAdd, Nat.reduceSub, Nat.reduceMul, reduceCtorEq, Int.reduceToNat, Int.reduceEq, Int.reduceLT, Int.reduceLE, Int.reduceNe, Int.reduceNeg , or_self, or_false, false_or , List.length_map, Sp.d]
    refine (c24 1 1).call rfl rfl rfl ?_
    simp only [go_sem, Nat.reduceBEq, Nat.reduceEqDiff, Nat.reduceLT, Nat.reduceLeDiff, Nat.reduceAdd, Nat.reduceSub, Nat.reduceMul, reduceCtorEq, Int.reduceToNat, Int.reduceEq, Int.reduceLT, Int.reduceLE, Int.reduceNe, Int.reduceNeg , or_self, or_false, false_or , List.length_map, Sp.d]
    refine (c24 0 0).call rfl rfl rfl ?_
    simp only [go_sem, Nat.reduceBEq, Nat.reduceEqDiff, Nat.reduceLT, Nat.reduceLeDiff, Nat.reduceAdd, Nat.reduceSub, Nat.reduceMul, reduceCtorEq, Int.reduceToNat, Int.reduceEq, Int.reduceLT, Int.reduceLE, Int.reduceNe, Int.reduceNeg , or_self, or_false, false_or , List.length_map, Sp.d]
    refine (c24 5 5).call rfl rfl rfl ?_
    simp only [go_sem, Nat.reduceBEq, Nat.reduceEqDiff, Nat.reduceLT, Nat.reduceLeDiff, Nat.reduceAdd, Nat.reduceSub, Nat.reduceMul, reduceCtorEq, Int.reduceToNat, Int.reduceEq, Int.reduceLT, Int.reduceLE, Int.reduceNe, Int.reduceNeg , or_self, or_false, false_or , List.length_map, Sp.d]
    refine (eLists [[⟨3, 3⟩, ⟨1, 1⟩], [⟨0, 0⟩, ⟨5, 5⟩]] (by simp) (by simp)).call rfl rfl rfl ?_
    simp only [go_sem, Nat.reduceBEq, Nat.reduceEqDiff, Nat.reduceLT, Nat.reduceLeDiff, Nat.reduceAdd, Nat.reduceSub, Nat.reduceMul, reduceCtorEq, Int.reduceToNat, Int.reduceEq, Int.reduceLT, Int.reduceLE, Int.reduceNe, Int.reduceNeg , or_self, or_false, false_or , List.length_map, Sp.d]
    exact ForgetTo.same (Nat.zero_le _) (by simp only [EWe, go_sem, Nat.reduceBEq, Nat.reduceEqDiff, Nat.reduceLT, Nat.reduceLeDiff, Nat.reduceAdd, Nat.reduceSub, Nat.reduceMul, reduceCtorEq, Int.reduceToNat, Int.reduceEq, Int.reduceLT, Int.reduceLE, Int.reduceNe, Int.reduceNeg , or_self, or_false, false_or , List.length_map])

set_option maxRecDepth 4000 in
theorem t14_11 : AWP prog 179 0 none (restC 11 (bodyOf f14)) [(1, .slx (some false) [.agg [.int .i64 (88), .int .i64 (90)], .agg [.int .i64 (15), .int .i64 (16)]]), (2, .slx (some false) [.agg [.int .i64 (91), .int .i64 (95)], .agg [.int .i64 (15), .int .i64 (16)]]), (3, .d (.sl [.agg [.int .i64 (90), .int .i64 (100)], .agg [.int .i64 (15), .int .i64 (18)]])), (4, .d (.int .i64 (0))), (5, .d (.sl [.agg [.int .i64 (0), .int .i64 (12)], .agg [.int .i64 (-1), .int .i64 (3)]])), (6, .d (.int .i64 (0))), (7, .d (.sl [.int .i64 (0)])), (8, .d (.int .i64 (0))), (9, .d (.sl [.sl [.agg [.int .i64 (3), .int .i64 (3)], .agg [.int .i64 (1), .int .i64 (1)]], .sl [.agg [.int .i64 (0), .int .i64 (0)], .agg [.int .i64 (5), .int .i64 (5)]]])), (10, .d (.int .i64 (0))), (11, .d (.sl [.agg [.int .i64 (0), .int .i64 (31), .int .i64 (45)], .agg [.int .i64 (2), .int .i64 (-29), .int .i64 (-15)]])), (12, .d (.int .i64 (0))), (13, .d (.int .i64 (-1))), (14, .d (.int .i64 (8))), (15, .d (.int .i64 (0))), (16, .d (.sl [.agg [.int .i64 (0), .int .i64 (5), .int .i64 (5)]])), (17, .d (.int .i64 (0))), (18, .d (.sl [.int .i64 (1), .int .i64 (3), .int .i64 (6)])), (19, .d (.int .i64 (0))), (20, .ptr 0 0), (21, .d (.int .i64 (0)))] [.cells [.d (.int .i64 52), .d (.int .i64 54)]] Q14 := by
  refine AWP.step [(1, .slx (some false) [.agg [.int .i64 (88), .int .i64 (90)], .agg [.int .i64 (15), .int .i64 (16)]]), (2, .slx (some false) [.agg [.int .i64 (91), .int .i64 (95)], .agg [.int .i64 (15), .int .i64 (16)]]), (3, .d (.sl [.agg [.int .i64 (90), .int .i64 (100)], .agg [.int .i64 (15), .int .i64 (18)]])), (5, .d (.sl [.agg [.int .i64 (0), .int .i64 (12)], .agg [.int .i64 (-1), .int .i64 (3)]])), (7, .d (.sl [.int .i64 (0)])), (9, .d (.sl [.sl [.agg [.int .i64 (3), .int .i64 (3)], .agg [.int .i64 (1), .int .i64 (1)]], .sl [.agg [.int .i64 (0), .int .i64 (0)], .agg [.int .i64 (5), .int .i64 (5)]]])), (11, .d (.sl [.agg [.int .i64 (0), .int .i64 (31), .int .i64 (45)], .agg [.int .i64 (2), .int .i64 (-29), .int .i64 (-15)]])), (13, .d (.int .i64 (-1))), (14, .d (.int .i64 (8))), (16, .d (.sl [.agg [.int .i64 (0), .int .i64 (5), .int .i64 (5)]])), (18, .d (.sl [.int .i64 (1), .int .i64 (3), .int .i64 (6)])), (20, .ptr 0 0)] [.cells [.d (.int .i64 52), .d (.int .i64 54)]] (fun _ => false) tt_ok (fun _ h => nomatch h) (Nat.zero_le _) rfl ?_ t14_12
  · simp only [go_sem, Nat.reduceBEq, Nat.reduceEqDiff, Nat.reduceLT, Nat.reduceLeDiff, Nat.reduceAdd, Nat.reduceSub, Nat.reduceMul, reduceCtorEq, Int.reduceToNat, Int.reduceEq, Int.reduceLT, Int.reduceLE, Int.reduceNe, Int.reduceNeg , or_self, or_false, false_or , List.length_map]
    exact ForgetTo.same (Nat.zero_le _) (by simp only [EWe, go_sem, Nat.reduceBEq, Nat.reduceEqDiff, Nat.reduceLT, Nat.reduceLeDiff, Nat.reduceAdd, Nat.reduceSub, Nat.reduceMul, reduceCtorEq, Int.reduceToNat, Int.reduceEq, Int.reduceLT, Int.reduceLE, Int.reduceNe, Int.reduceNeg , or_self, or_false, false_or , List.length_map])

set_option maxRecDepth 4000 in
theorem t14_10 : AWP prog 179 0 none (restC 10 (bodyOf f14)) [(1, .slx (some false) [.agg [.int .i64 (88), .int .i64 (90)], .agg [.int .i64 (15), .int .i64 (16)]]), (2, .slx (some false) [.agg [.int .i64 (91), .int .i64 (95)], .agg [.int .i64 (15), .int .i64 (16)]]), (3, .d (.sl [.agg [.int .i64 (90), .int .i64 (100)], .agg [.int .i64 (15), .int .i64 (18)]])), (4, .d (.int .i64 (0))), (5, .d (.sl [.agg [.int .i64 (0), .int .i64 (12)], .agg [.int .i64 (-1), .int .i64 (3)]])), (6, .d (.int .i64 (0))), (7, .d (.sl [.int .i64 (0)])), (8, .d (.int .i64 (0))), (9, .d (.sl [.sl [.agg [.int .i64 (3), .int .i64 (3)], .agg [.int .i64 (1), .int .i64 (1)]], .sl [.agg [.int .i64 (0), .int .i64 (0)], .agg [.int .i64 (5), .int .i64 (5)]]])), (10, .d (.int .i64 (0))), (11, .d (.sl [.agg [.int .i64 (0), .int .i64 (31), .int .i64 (45)], .agg [.int .i64 (2), .int .i64 (-29), .int .i64 (-15)]])), (12, .d (.int .i64 (0))), (13, .d (.int .i64 (-1))), (14, .d (.int .i64 (8))), (15, .d (.int .i64 (0))), (16, .d (.sl [.agg [.int .i64 (0), .int .i64 (5), .int .i64 (5)]])), (17, .d (.int .i64 (0))), (18, .d (.sl [.int .i64 (1), .int .i64 (3), .int .i64 (6)])), (19, .d (.int .i64 (0)))] [] Q14 := by
  refine AWP.step [(1, .slx (some false) [.agg [.int .i64 (88), .int .i64 (90)], .agg [.int .i64 (15), .int .i64 (16)]]), (2, .slx (some false) [.agg [.int .i64 (91), .int .i64 (95)], .agg [.int .i64 (15), .int .i64 (16)]]), (3, .d (.sl [.agg [.int .i64 (90), .int .i64 (100)], .agg [.int .i64 (15), .int .i64 (18)]])), (4, .d (.int .i64 (0))), (5, .d (.sl [.agg [.int .i64 (0), .int .i64 (12)], .agg [.int .i64 (-1), .int .i64 (3)]])), (6, .d (.int .i64 (0))), (7, .d (.sl [.int .i64 (0)])), (8, .d (.int .i64 (0))), (9, .d (.sl [.sl [.agg [.int .i64 (3), .int .i64 (3)], .agg [.int .i64 (1), .int .i64 (1)]], .sl [.agg [.int .i64 (0), .int .i64 (0)], .agg [.int .i64 (5), .int .i64 (5)]]])), (10, .d (.int .i64 (0))), (11, .d (.sl [.agg [.int .i64 (0), .int .i64 (31), .int .i64 (45)], .agg [.int .i64 (2), .int .i64 (-29), .int .i64 (-15)]])), (12, .d (.int .i64 (0))), (13, .d (.int .i64 (-1))), (14, .d (.int .i64 (8))), (15, .d (.int .i64 (0))), (16, .d (.sl [.agg [.int .i64 (0), .int .i64 (5), .int .i64 (5)]])), (17, .d (.int .i64 (0))), (18, .d (.sl [.int .i64 (1), .int .i64 (3), .int .i64 (6)])), (19, .d (.int .i64 (0))), (20, .ptr 0 0), (21, .d (.int .i64 (0)))] [.cells [.d (.int .i64 52), .d (.int .i64 54)]] (fun _ => false) tt_ok (fun _ h => nomatch h) (Nat.zero_le _) rfl ?_ t14_11
  · simp only [go_sem, Nat.reduceBEq, Nat.reduceEqDiff, Nat.reduceLT, Nat.reduceLeDiff, Nat.reduceAdd, Nat.reduceSub, Nat.reduceMul, reduceCtorEq, Int.reduceToNat, Int.reduceEq, Int.reduceLT, Int.reduceLE, Int.reduceNe, Int.reduceNeg , or_self, or_false, false_or , List.length_map]
    refine (c24 100 104).call rfl rfl rfl ?_
    simp only [go_sem, Nat.reduceBEq, Nat.reduceEqDiff, Nat.reduceLT, Nat.reduceLeDiff, Nat.reduceAdd, Nat.reduceSub, Nat.reduceMul, reduceCtorEq, Int.reduceToNat, Int.reduceEq, Int.reduceLT, Int.reduceLE, Int.reduceNe, Int.reduceNeg , or_self, or_false, false_or , List.length_map, Sp.d]
    refine (c24 7 7).call rfl rfl rfl ?_
    simp only [go_sem, Nat.reduceBEq, Nat.reduceEqDiff, Nat.reduceLT, Nat.reduceLeDiff, Nat.reduceAdd, Nat.reduceSub, Nat.reduceMul, reduceCtorEq, Int.reduceToNat, Int.reduceEq, Int.reduceLT, Int.reduceLE, Int.reduceNe, Int.reduceNeg , or_self, or_false, false_or , List.length_map, Sp.d]
    refine e45.call rfl rfl rfl ?_
    simp only [go_sem, Nat.reduceBEq, Nat.reduceEqDiff, Nat.reduceLT, Nat.reduceLeDiff, Nat.reduceAdd, Nat.reduceSub, Nat.reduceMul, reduceCtorEq, Int.reduceToNat, Int.reduceEq, Int.reduceLT, Int.reduceLE, Int.reduceNe, Int.reduceNeg , or_self, or_false, false_or , List.length_map, Sp.d]
    exact ForgetTo.same (Nat.zero_le _) (by simp only [EWe, go_sem, Nat.reduceBEq, Nat.reduceEqDiff, Nat.reduceLT, Nat.reduceLeDiff, Nat.reduceAdd, Nat.reduceSub, Nat.reduceMul, reduceCtorEq, Int.reduceToNat, Int.reduceEq, Int.reduceLT, Int.reduceLE, Int.reduceNe, Int.reduceNeg , or_self, or_false, false_or , List.length_map])

set_option maxRecDepth 4000 in
theorem t14_9 : AWP prog 179 0 none (restC 9 (bodyOf f14)) [(1, .slx (some false) [.agg [.int .i64 (88), .int .i64 (90)], .agg [.int .i64 (15), .int .i64 (16)]]), (2, .slx (some false) [.agg [.int .i64 (91), .int .i64 (95)], .agg [.int .i64 (15), .int .i64 (16)]]), (3, .d (.sl [.agg [.int .i64 (90), .int .i64 (100)], .agg [.int .i64 (15), .int .i64 (18)]])), (4, .d (.int .i64 (0))), (5, .d (.sl [.agg [.int .i64 (0), .int .i64 (12)], .agg [.int .i64 (-1), .int .i64 (3)]])), (6, .d (.int .i64 (0))), (7, .d (.sl [.int .i64 (0)])), (8, .d (.int .i64 (0))), (9, .d (.sl [.sl [.agg [.int .i64 (3), .int .i64 (3)], .agg [.int .i64 (1), .int .i64 (1)]], .sl [.agg [.int .i64 (0), .int .i64 (0)], .agg [.int .i64 (5), .int .i64 (5)]]])), (10, .d (.int .i64 (0))), (11, .d (.sl [.agg [.int .i64 (0), .int .i64 (31), .int .i64 (45)], .agg [.int .i64 (2), .int .i64 (-29), .int .i64 (-15)]])), (12, .d (.int .i64 (0))), (13, .d (.int .i64 (-1))), (14, .d (.int .i64 (8))), (15, .d (.int .i64 (0))), (16, .d (.sl [.agg [.int .i64 (0), .int .i64 (5), .int .i64 (5)]])), (17, .d (.int .i64 (0)))] [] Q14 := by
  refine AWP.step [(1, .slx (some false) [.agg [.int .i64 (88), .int .i64 (90)], .agg [.int .i64 (15), .int .i64 (16)]]), (2, .slx (some false) [.agg [.int .i64 (91), .int .i64 (95)], .agg [.int .i64 (15), .int .i64 (16)]]), (3, .d (.sl [.agg [.int .i64 (90), .int .i64 (100)], .agg [.int .i64 (15), .int .i64 (18)]])), (4, .d (.int .i64 (0))), (5, .d (.sl [.agg [.int .i64 (0), .int .i64 (12)], .agg [.int .i64 (-1), .int .i64 (3)]])), (6, .d (.int .i64 (0))), (7, .d (.sl [.int .i64 (0)])), (8, .d (.int .i64 (0))), (9, .d (.sl [.sl [.agg [.int .i64 (3), .int .i64 (3)], .agg [.int .i64 (1), .int .i64 (1)]], .sl [.agg [.int .i64 (0), .int .i64 (0)], .agg [.int .i64 (5), .int .i64 (5)]]])), (10, .d (.int .i64 (0))), (11, .d (.sl [.agg [.int .i64 (0), .int .i64 (31), .int .i64 (45)], .agg [.int .i64 (2), .int .i64 (-29), .int .i64 (-15)]])), (12, .d (.int .i64 (0))), (13, .d (.int .i64 (-1))), (14, .d (.int .i64 (8))), (15, .d (.int .i64 (0))), (16, .d (.sl [.agg [.int .i64 (0), .int .i64 (5), .int .i64 (5)]])), (17, .d (.int .i64 (0))), (18, .d (.sl [.int .i64 (1), .int .i64 (3), .int .i64 (6)])), (19, .d (.int .i64 (0)))] [] (fun _ => false) tt_ok (fun _ h => nomatch h) (Nat.zero_le _) rfl ?_ t14_10
  · simp only [go_sem, Nat.reduceBEq, Nat.reduceEqDiff, Nat.reduceLT, Nat.reduceLeDiff, Nat.reduceAdd, Nat.reduceSub, Nat.reduceMul, reduceCtorEq, Int.reduceToNat, Int.reduceEq, Int.reduceLT, Int.reduceLE, Int.reduceNe, Int.reduceNeg , or_self, or_false, false_or , List.length_map]
    refine e42.call rfl rfl rfl ?_
    simp only [go_sem, Nat.reduceBEq, Nat.reduceEqDiff, Nat.reduceLT, Nat.reduceLeDiff, Nat.reduceAdd, Nat.reduceSub, Nat.reduceMul, reduceCtorEq, Int.reduceToNat, Int.reduceEq, Int.reduceLT, Int.reduceLE, Int.reduceNe, Int.reduceNeg , or_self, or_false, false_or , List.length_map, Sp.d]
    exact ForgetTo.same (Nat.zero_le _) (by simp only [EWe, go_sem, Nat.reduceBEq, Nat.reduceEqDiff, Nat.reduceLT, Nat.reduceLeDiff, Nat.reduceAdd, Nat.reduceSub, Nat.reduceMul, reduceCtorEq, Int.reduceToNat, Int.reduceEq, Int.reduceLT, Int.reduceLE, Int.reduceNe, Int.reduceNeg , or_self, or_false, false_or , List.length_map])

set_option maxRecDepth 4000 in
theorem t14_8 : AWP prog 179 0 none (restC 8 (bodyOf f14)) [(1, .slx (some false) [.agg [.int .i64 (88), .int .i64 (90)], .agg [.int .i64 (15), .int .i64 (16)]]), (2, .slx (some false) [.agg [.int .i64 (91), .int .i64 (95)], .agg [.int .i64 (15), .int .i64 (16)]]), (3, .d (.sl [.agg [.int .i64 (90), .int .i64 (100)], .agg [.int .i64 (15), .int .i64 (18)]])), (4, .d (.int .i64 (0))), (5, .d (.sl [.agg [.int .i64 (0), .int .i64 (12)], .agg [.int .i64 (-1), .int .i64 (3)]])), (6, .d (.int .i64 (0))), (7, .d (.sl [.int .i64 (0)])), (8, .d (.int .i64 (0))), (9, .d (.sl [.sl [.agg [.int .i64 (3), .int .i64 (3)], .agg [.int .i64 (1), .int .i64 (1)]], .sl [.agg [.int .i64 (0), .int .i64 (0)], .agg [.int .i64 (5), .int .i64 (5)]]])), (10, .d (.int .i64 (0))), (11, .d (.sl [.agg [.int .i64 (0), .int .i64 (31), .int .i64 (45)], .agg [.int .i64 (2), .int .i64 (-29), .int .i64 (-15)]])), (12, .d (.int .i64 (0))), (13, .d (.int .i64 (-1))), (14, .d (.int .i64 (8))), (15, .d (.int .i64 (0)))] [] Q14 := by
  refine AWP.step [(1, .slx (some false) [.agg [.int .i64 (88), .int .i64 (90)], .agg [.int .i64 (15), .int .i64 (16)]]), (2, .slx (some false) [.agg [.int .i64 (91), .int .i64 (95)], .agg [.int .i64 (15), .int .i64 (16)]]), (3, .d (.sl [.agg [.int .i64 (90), .int .i64 (100)], .agg [.int .i64 (15), .int .i64 (18)]])), (4, .d (.int .i64 (0))), (5, .d (.sl [.agg [.int .i64 (0), .int .i64 (12)], .agg [.int .i64 (-1), .int .i64 (3)]])), (6, .d (.int .i64 (0))), (7, .d (.sl [.int .i64 (0)])), (8, .d (.int .i64 (0))), (9, .d (.sl [.sl [.agg [.int .i64 (3), .int .i64 (3)], .agg [.int .i64 (1), .int .i64 (1)]], .sl [.agg [.int .i64 (0), .int .i64 (0)], .agg [.int .i64 (5), .int .i64 (5)]]])), (10, .d (.int .i64 (0))), (11, .d (.sl [.agg [.int .i64 (0), .int .i64 (31), .int .i64 (45)], .agg [.int .i64 (2), .int .i64 (-29), .int .i64 (-15)]])), (12, .d (.int .i64 (0))), (13, .d (.int .i64 (-1))), (14, .d (.int .i64 (8))), (15, .d (.int .i64 (0))), (16, .d (.sl [.agg [.int .i64 (0), .int .i64 (5), .int .i64 (5)]])), (17, .d (.int .i64 (0)))] [] (fun _ => false) tt_ok (fun _ h => nomatch h) (Nat.zero_le _) rfl ?_ t14_9
  · simp only [go_sem, Nat.reduceBEq, Nat.reduceEqDiff, Nat.reduceLT, Nat.reduceLeDiff, Nat.reduceAdd, Nat.reduceSub, Nat.reduceMul, reduceCtorEq, Int.reduceToNat, Int.reduceEq, Int.reduceLT, Int.reduceLE, Int.reduceNe, Int.reduceNeg , or_self, or_false, false_or , List.length_map]
    refine (c55 5).call rfl rfl rfl ?_
    simp only [go_sem, Nat.reduceBEq, Nat.reduceEqDiff, Nat.reduceLT, Nat.reduceLeDiff, Nat.reduceAdd, Nat.reduceSub, Nat.reduceMul, reduceCtorEq, Int.reduceToNat, Int.reduceEq, Int.reduceLT, Int.reduceLE, Int.reduceNe, Int.reduceNeg , or_self, or_false, false_or , List.length_map, Sp.d]
    refine e36.call rfl rfl rfl ?_
    simp only [go_sem, Nat.reduceBEq, Nat.reduceEqDiff, Nat.reduceLT, Nat.reduceLeDiff, Nat.reduceAdd, Nat.reduceSub, Nat.reduceMul, reduceCtorEq, Int.reduceToNat, Int.reduceEq, Int.reduceLT, Int.reduceLE, Int.reduceNe, Int.reduceNeg , or_self, or_false, false_or , List.length_map, Sp.d]
    exact ForgetTo.same (Nat.zero_le _) (by simp only [EWe, go_sem, Nat.reduceBEq, Nat.reduceEqDiff, Nat.reduceLT, Nat.reduceLeDiff, Nat.reduceAdd, Nat.reduceSub, Nat.reduceMul, reduceCtorEq, Int.reduceToNat, Int.reduceEq, Int.reduceLT, Int.reduceLE, Int.reduceNe, Int.reduceNeg , or_self, or_false, false_or , List.length_map])

set_option maxRecDepth 4000 in
theorem t14_7 : AWP prog 179 0 none (restC 7 (bodyOf f14)) [(1, .slx (some false) [.agg [.int .i64 (88), .int .i64 (90)], .agg [.int .i64 (15), .int .i64 (16)]]), (2, .slx (some false) [.agg [.int .i64 (91), .int .i64 (95)], .agg [.int .i64 (15), .int .i64 (16)]]), (3, .d (.sl [.agg [.int .i64 (90), .int .i64 (100)], .agg [.int .i64 (15), .int .i64 (18)]])), (4, .d (.int .i64 (0))), (5, .d (.sl [.agg [.int .i64 (0), .int .i64 (12)], .agg [.int .i64 (-1), .int .i64 (3)]])), (6, .d (.int .i64 (0))), (7, .d (.sl [.int .i64 (0)])), (8, .d (.int .i64 (0))), (9, .d (.sl [.sl [.agg [.int .i64 (3), .int .i64 (3)], .agg [.int .i64 (1), .int .i64 (1)]], .sl [.agg [.int .i64 (0), .int .i64 (0)], .agg [.int .i64 (5), .int .i64 (5)]]])), (10, .d (.int .i64 (0))), (11, .d (.sl [.agg [.int .i64 (0), .int .i64 (31), .int .i64 (45)], .agg [.int .i64 (2), .int .i64 (-29), .int .i64 (-15)]])), (12, .d (.int .i64 (0)))] [] Q14 := by
  refine AWP.step [(1, .slx (some false) [.agg [.int .i64 (88), .int .i64 (90)], .agg [.int .i64 (15), .int .i64 (16)]]), (2, .slx (some false) [.agg [.int .i64 (91), .int .i64 (95)], .agg [.int .i64 (15), .int .i64 (16)]]), (3, .d (.sl [.agg [.int .i64 (90), .int .i64 (100)], .agg [.int .i64 (15), .int .i64 (18)]])), (4, .d (.int .i64 (0))), (5, .d (.sl [.agg [.int .i64 (0), .int .i64 (12)], .agg [.int .i64 (-1), .int .i64 (3)]])), (6, .d (.int .i64 (0))), (7, .d (.sl [.int .i64 (0)])), (8, .d (.int .i64 (0))), (9, .d (.sl [.sl [.agg [.int .i64 (3), .int .i64 (3)], .agg [.int .i64 (1), .int .i64 (1)]], .sl [.agg [.int .i64 (0), .int .i64 (0)], .agg [.int .i64 (5), .int .i64 (5)]]])), (10, .d (.int .i64 (0))), (11, .d (.sl [.agg [.int .i64 (0), .int .i64 (31), .int .i64 (45)], .agg [.int .i64 (2), .int .i64 (-29), .int .i64 (-15)]])), (12, .d (.int .i64 (0))), (13, .d (.int .i64 (-1))), (14, .d (.int .i64 (8))), (15, .d (.int .i64 (0)))] [] (fun _ => false) tt_ok (fun _ h => nomatch h) (Nat.zero_le _) rfl ?_ t14_8
  · simp only [go_sem, Nat.reduceBEq, Nat.reduceEqDiff, Nat.reduceLT, Nat.reduceLeDiff, Nat.reduceAdd, Nat.reduceSub, Nat.reduceMul, reduceCtorEq, Int.reduceToNat, Int.reduceEq, Int.reduceLT, Int.reduceLE, Int.reduceNe, Int.reduceNeg , or_self, or_false, false_or , List.length_map]
    refine (c55 5).call rfl rfl rfl ?_
    simp only [go_sem, Nat.reduceBEq, Nat.reduceEqDiff, Nat.reduceLT, Nat.reduceLeDiff, Nat.reduceAdd, Nat.reduceSub, Nat.reduceMul, reduceCtorEq, Int.reduceToNat, Int.reduceEq, Int.reduceLT, Int.reduceLE, Int.reduceNe, Int.reduceNeg , or_self, or_false, false_or , List.length_map, Sp.d]
    refine e35.call rfl rfl rfl ?_
    simp only [go_sem, Nat.reduceBEq, Nat.reduceEqDiff, Nat.reduceLT, Nat.reduceLeDiff, Nat.reduceAdd, Nat.reduceSub, Nat.reduceMul, reduceCtorEq, Int.reduceToNat, Int.reduceEq, Int.reduceLT, Int.reduceLE, Int.reduceNe, Int.reduceNeg , or_self, or_false, false_or , List.length_map, Sp.d]
    exact ForgetTo.same (Nat.zero_le _) (by simp only [EWe, go_sem, Nat.reduceBEq, Nat.reduceEqDiff, Nat.reduceLT, Nat.reduceLeDiff, Nat.reduceAdd, Nat.reduceSub, Nat.reduceMul, reduceCtorEq, Int.reduceToNat, Int.reduceEq, Int.reduceLT, Int.reduceLE, Int.reduceNe, Int.reduceNeg , or_self, or_false, false_or , List.length_map])

set_option maxRecDepth 4000 in
theorem t14_6 : AWP prog 179 0 none (restC 6 (bodyOf f14)) [(1, .slx (some false) [.agg [.int .i64 (88), .int .i64 (90)], .agg [.int .i64 (15), .int .i64 (16)]]), (2, .slx (some false) [.agg [.int .i64 (91), .int .i64 (95)], .agg [.int .i64 (15), .int .i64 (16)]]), (3, .d (.sl [.agg [.int .i64 (90), .int .i64 (100)], .agg [.int .i64 (15), .int .i64 (18)]])), (4, .d (.int .i64 (0))), (5, .d (.sl [.agg [.int .i64 (0), .int .i64 (12)], .agg [.int .i64 (-1), .int .i64 (3)]])), (6, .d (.int .i64 (0))), (7, .d (.sl [.int .i64 (0)])), (8, .d (.int .i64 (0))), (9, .d (.sl [.sl [.agg [.int .i64 (3), .int .i64 (3)], .agg [.int .i64 (1), .int .i64 (1)]], .sl [.agg [.int .i64 (0), .int .i64 (0)], .agg [.int .i64 (5), .int .i64 (5)]]])), (10, .d (.int .i64 (0)))] [] Q14 := by
  refine AWP.step [(1, .slx (some false) [.agg [.int .i64 (88), .int .i64 (90)], .agg [.int .i64 (15), .int .i64 (16)]]), (2, .slx (some false) [.agg [.int .i64 (91), .int .i64 (95)], .agg [.int .i64 (15), .int .i64 (16)]]), (3, .d (.sl [.agg [.int .i64 (90), .int .i64 (100)], .agg [.int .i64 (15), .int .i64 (18)]])), (4, .d (.int .i64 (0))), (5, .d (.sl [.agg [.int .i64 (0), .int .i64 (12)], .agg [.int .i64 (-1), .int .i64 (3)]])), (6, .d (.int .i64 (0))), (7, .d (.sl [.int .i64 (0)])), (8, .d (.int .i64 (0))), (9, .d (.sl [.sl [.agg [.int .i64 (3), .int .i64 (3)], .agg [.int .i64 (1), .int .i64 (1)]], .sl [.agg [.int .i64 (0), .int .i64 (0)], .agg [.int .i64 (5), .int .i64 (5)]]])), (10, .d (.int .i64 (0))), (11, .d (.sl [.agg [.int .i64 (0), .int .i64 (31), .int .i64 (45)], .agg [.int .i64 (2), .int .i64 (-29), .int .i64 (-15)]])), (12, .d (.int .i64 (0)))] [] (fun _ => false) tt_ok (fun _ h => nomatch h) (Nat.zero_le _) rfl ?_ t14_7
  · simp only [go_sem, Nat.reduceBEq, Nat.reduceEqDiff, Nat.reduceLT, Nat.reduceLeDiff, Nat.reduceAdd, Nat.reduceSub, Nat.reduceMul, reduceCtorEq, Int.reduceToNat, Int.reduceEq, Int.reduceLT, Int.reduceLE, Int.reduceNe, Int.reduceNeg , or_self, or_false, false_or , List.length_map]
    refine (c55 100).call rfl rfl rfl ?_
    simp only [go_sem, Nat.reduceBEq, Nat.reduceEqDiff, Nat.reduceLT, Nat.reduceLeDiff, Nat.reduceAdd, Nat.reduceSub, Nat.reduceMul, reduceCtorEq, Int.reduceToNat, Int.reduceEq, Int.reduceLT, Int.reduceLE, Int.reduceNe, Int.reduceNeg , or_self, or_false, false_or , List.length_map, Sp.d]
    refine e32.call rfl rfl rfl ?_
    simp only [go_sem, Nat.reduceBEq, Nat.reduceEqDiff, Nat.reduceLT, Nat.reduceLeDiff, Nat.reduceAdd, Nat.reduceSub, Nat.reduceMul, reduceCtorEq, Int.reduceToNat, Int.reduceEq, Int.reduceLT, Int.reduceLE, Int.reduceNe, Int.reduceNeg , or_self, or_false, false_or , List.length_map, Sp.d]
    exact ForgetTo.same (Nat.zero_le _) (by simp only [EWe, go_sem, Nat.reduceBEq, Nat.reduceEqDiff, Nat.reduceLT, Nat.reduceLeDiff, Nat.reduceAdd, Nat.reduceSub, Nat.reduceMul, reduceCtorEq, Int.reduceToNat, Int.reduceEq, Int.reduceLT, Int.reduceLE, Int.reduceNe, Int.reduceNeg , or_self, or_false, false_or , List.length_map])

set_option maxRecDepth 4000 in
theorem t14_5 : AWP prog 179 0 none (restC 5 (bodyOf f14)) [(1, .slx (some false) [.agg [.int .i64 (88), .int .i64 (90)], .agg [.int .i64 (15), .int .i64 (16)]]), (2, .slx (some false) [.agg [.int .i64 (91), .int .i64 (95)], .agg [.int .i64 (15), .int .i64 (16)]]), (3, .d (.sl [.agg [.int .i64 (90), .int .i64 (100)], .agg [.int .i64 (15), .int .i64 (18)]])), (4, .d (.int .i64 (0))), (5, .d (.sl [.agg [.int .i64 (0), .int .i64 (12)], .agg [.int .i64 (-1), .int .i64 (3)]])), (6, .d (.int .i64 (0))), (7, .d (.sl [.int .i64 (0)])), (8, .d (.int .i64 (0)))] [] Q14 := by
  refine AWP.step [(1, .slx (some false) [.agg [.int .i64 (88), .int .i64 (90)], .agg [.int .i64 (15), .int .i64 (16)]]), (2, .slx (some false) [.agg [.int .i64 (91), .int .i64 (95)], .agg [.int .i64 (15), .int .i64 (16)]]), (3, .d (.sl [.agg [.int .i64 (90), .int .i64 (100)], .agg [.int .i64 (15), .int .i64 (18)]])), (4, .d (.int .i64 (0))), (5, .d (.sl [.agg [.int .i64 (0), .int .i64 (12)], .agg [.int .i64 (-1), .int .i64 (3)]])), (6, .d (.int .i64 (0))), (7, .d (.sl [.int .i64 (0)])), (8, .d (.int .i64 (0))), (9, .d (.sl [.sl [.agg [.int .i64 (3), .int .i64 (3)], .agg [.int .i64 (1), .int .i64 (1)]], .sl [.agg [.int .i64 (0), .int .i64 (0)], .agg [.int .i64 (5), .int .i64 (5)]]])), (10, .d (.int .i64 (0)))] [] (fun _ => false) tt_ok (fun _ h => nomatch h) (Nat.zero_le _) rfl ?_ t14_6
  · simp only [go_sem, Nat.reduceBEq, Nat.reduceEqDiff, Nat.reduceLT, Nat.reduceLeDiff, Nat.reduceAdd, Nat.reduceSub, Nat.reduceMul, reduceCtorEq, Int.reduceToNat, Int.reduceEq, Int.reduceLT, Int.reduceLE, Int.reduceNe, Int.reduceNeg , or_self, or_false, false_or , List.length_map]
    refine (c55 100).call rfl rfl rfl ?_
    simp only [go_sem, Nat.reduceBEq, Nat.reduceEqDiff, Nat.reduceLT, Nat.reduceLeDiff, Nat.reduceAdd, Nat.reduceSub, Nat.reduceMul, reduceCtorEq, Int.reduceToNat, Int.reduceEq, Int.reduceLT, Int.reduceLE, Int.reduceNe, Int.reduceNeg , or_self, or_false, false_or , List.length_map, Sp.d]
    refine e26.call rfl rfl rfl ?_
    simp only [go_sem, Nat.reduceBEq, Nat.reduceEqDiff, Nat.reduceLT, Nat.reduceLeDiff, Nat.reduceAdd, Nat.reduceSub, Nat.reduceMul, reduceCtorEq, Int.reduceToNat, Int.reduceEq, Int.reduceLT, Int.reduceLE, Int.reduceNe, Int.reduceNeg , or_self, or_false, false_or , List.length_map, Sp.d]
    exact ForgetTo.same (Nat.zero_le _) (by simp only [EWe, go_sem, Nat.reduceBEq, Nat.reduceEqDiff, Nat.reduceLT, Nat.reduceLeDiff, Nat.reduceAdd, Nat.reduceSub, Nat.reduceMul, reduceCtorEq, Int.reduceToNat, Int.reduceEq, Int.reduceLT, Int.reduceLE, Int.reduceNe, Int.reduceNeg , or_self, or_false, false_or , List.length_map])

set_option maxRecDepth 4000 in
theorem t14_4 : AWP prog 179 0 none (restC 4 (bodyOf f14)) [(1, .slx (some false) [.agg [.int .i64 (88), .int .i64 (90)], .agg [.int .i64 (15), .int .i64 (16)]]), (2, .slx (some false) [.agg [.int .i64 (91), .int .i64 (95)], .agg [.int .i64 (15), .int .i64 (16)]]), (3, .d (.sl [.agg [.int .i64 (90), .int .i64 (100)], .agg [.int .i64 (15), .int .i64 (18)]])), (4, .d (.int .i64 (0))), (5, .d (.sl [.agg [.int .i64 (0), .int .i64 (12)], .agg [.int .i64 (-1), .int .i64 (3)]])), (6, .d (.int .i64 (0)))] [] Q14 := by
  refine AWP.step [(1, .slx (some false) [.agg [.int .i64 (88), .int .i64 (90)], .agg [.int .i64 (15), .int .i64 (16)]]), (2, .slx (some false) [.agg [.int .i64 (91), .int .i64 (95)], .agg [.int .i64 (15), .int .i64 (16)]]), (3, .d (.sl [.agg [.int .i64 (90), .int .i64 (100)], .agg [.int .i64 (15), .int .i64 (18)]])), (4, .d (.int .i64 (0))), (5, .d (.sl [.agg [.int .i64 (0), .int .i64 (12)], .agg [.int .i64 (-1), .int .i64 (3)]])), (6, .d (.int .i64 (0))), (7, .d (.sl [.int .i64 (0)])), (8, .d (.int .i64 (0)))] [] (fun _ => false) tt_ok (fun _ h => nomatch h) (Nat.zero_le _) rfl ?_ t14_5
  · simp only [go_sem, Nat.reduceBEq, Nat.reduceEqDiff, Nat.reduceLT, Nat.reduceLeDiff, Nat.reduceAdd, Nat.reduceSub, Nat.reduceMul, reduceCtorEq, Int.reduceToNat, Int.reduceEq, Int.reduceLT, Int.reduceLE, Int.reduceNe, Int.reduceNeg , or_self, or_false, false_or , List.length_map]
    refine (c55 100).call rfl rfl rfl ?_
    simp only [go_sem, Nat.reduceBEq, Nat.reduceEqDiff, Nat.reduceLT, Nat.reduceLeDiff, Nat.reduceAdd, Nat.reduceSub, Nat.reduceMul, reduceCtorEq, Int.reduceToNat, Int.reduceEq, Int.reduceLT, Int.reduceLE, Int.reduceNe, Int.reduceNeg , or_self, or_false, false_or , List.length_map, Sp.d]
    refine e25.call rfl rfl rfl ?_
    simp only [go_sem, Nat.reduceBEq, Nat.reduceEqDiff, Nat.reduceLT, Nat.reduceLeDiff, Nat.reduceAdd, Nat.reduceSub, Nat.reduceMul, reduceCtorEq, Int.reduceToNat, Int.reduceEq, Int.reduceLT, Int.reduceLE, Int.reduceNe, Int.reduceNeg , or_self, or_false, false_or , List.length_map, Sp.d]
    exact ForgetTo.same (Nat.zero_le _) (by simp only [EWe, go_sem, Nat.reduceBEq, Nat.reduceEqDiff, Nat.reduceLT, Nat.reduceLeDiff, Nat.reduceAdd, Nat.reduceSub, Nat.reduceMul, reduceCtorEq, Int.reduceToNat, Int.reduceEq, Int.reduceLT, Int.reduceLE, Int.reduceNe, Int.reduceNeg , or_self, or_false, false_or , List.length_map])

set_option maxRecDepth 4000 in
theorem t14_3 : AWP prog 179 0 none (restC 3 (bodyOf f14)) [(1, .slx (some false) [.agg [.int .i64 (88), .int .i64 (90)], .agg [.int .i64 (15), .int .i64 (16)]]), (2, .slx (some false) [.agg [.int .i64 (91), .int .i64 (95)], .agg [.int .i64 (15), .int .i64 (16)]]), (3, .d (.sl [.agg [.int .i64 (90), .int .i64 (100)], .agg [.int .i64 (15), .int .i64 (18)]])), (4, .d (.int .i64 (0)))] [] Q14 := by
  refine AWP.step [(1, .slx (some false) [.agg [.int .i64 (88), .int .i64 (90)], .agg [.int .i64 (15), .int .i64 (16)]]), (2, .slx (some false) [.agg [.int .i64 (91), .int .i64 (95)], .agg [.int .i64 (15), .int .i64 (16)]]), (3, .d (.sl [.agg [.int .i64 (90), .int .i64 (100)], .agg [.int .i64 (15), .int .i64 (18)]])), (4, .d (.int .i64 (0))), (5, .d (.sl [.agg [.int .i64 (0), .int .i64 (12)], .agg [.int .i64 (-1), .int .i64 (3)]])), (6, .d (.int .i64 (0)))] [] (fun _ => false) tt_ok (fun _ h => nomatch h) (Nat.zero_le _) rfl ?_ t14_4
  · simp only [go_sem, Nat.reduceBEq, Nat.reduceEqDiff, Nat.reduceLT, Nat.reduceLeDiff, Nat.reduceAdd, Nat.reduceSub, Nat.reduceMul, reduceCtorEq, Int.reduceToNat, Int.reduceEq, Int.reduceLT, Int.reduceLE, Int.reduceNe, Int.reduceNeg , or_self, or_false, false_or , List.length_map]
    refine (c55 100).call rfl rfl rfl ?_
    simp only [go_sem, Nat.reduceBEq, Nat.reduceEqDiff, Nat.reduceLT, Nat.reduceLeDiff, Nat.reduceAdd, Nat.reduceSub, Nat.reduceMul, reduceCtorEq, Int.reduceToNat, Int.reduceEq, Int.reduceLT, Int.reduceLE, Int.reduceNe, Int.reduceNeg , or_self, or_false, false_or , List.length_map, Sp.d]
    refine e18.call rfl rfl rfl ?_
    simp only [go_sem, Nat.reduceBEq, Nat.reduceEqDiff, Nat.reduceLT, Nat.reduceLeDiff, Nat.reduceAdd, Nat.reduceSub, Nat.reduceMul, reduceCtorEq, Int.reduceToNat, Int.reduceEq, Int.reduceLT, Int.reduceLE, Int.reduceNe, Int.reduceNeg , or_self, or_false, false_or , List.length_map, Sp.d]
    exact ForgetTo.same (Nat.zero_le _) (by simp only [EWe, go_sem, Nat.reduceBEq, Nat.reduceEqDiff, Nat.reduceLT, Nat.reduceLeDiff, Nat.reduceAdd, Nat.reduceSub, Nat.reduceMul, reduceCtorEq, Int.reduceToNat, Int.reduceEq, Int.reduceLT, Int.reduceLE, Int.reduceNe, Int.reduceNeg , or_self, or_false, false_or , List.length_map])

set_option maxRecDepth 4000 in
theorem t14_2 : AWP prog 179 0 none (restC 2 (bodyOf f14)) [(1, .slx (some false) [.agg [.int .i64 (88), .int .i64 (90)], .agg [.int .i64 (15), .int .i64 (16)]]), (2, .slx (some false) [.agg [.int .i64 (91), .int .i64 (95)], .agg [.int .i64 (15), .int .i64 (16)]])] [] Q14 := by
  refine AWP.step [(1, .slx (some false) [.agg [.int .i64 (88), .int .i64 (90)], .agg [.int .i64 (15), .int .i64 (16)]]), (2, .slx (some false) [.agg [.int .i64 (91), .int .i64 (95)], .agg [.int .i64 (15), .int .i64 (16)]]), (3, .d (.sl [.agg [.int .i64 (90), .int .i64 (100)], .agg [.int .i64 (15), .int .i64 (18)]])), (4, .d (.int .i64 (0)))] [] (fun _ => false) tt_ok (fun _ h => nomatch h) (Nat.zero_le _) rfl ?_ t14_3
  · simp only [go_sem, Nat.reduceBEq, Nat.reduceEqDiff, Nat.reduceLT, Nat.reduceLeDiff, Nat.reduceAdd, Nat.reduceSub, Nat.reduceMul, reduceCtorEq, Int.reduceToNat, Int.reduceEq, Int.reduceLT, Int.reduceLE, Int.reduceNe, Int.reduceNeg , or_self, or_false, false_or , List.length_map]
    refine (c55 100).call rfl rfl rfl ?_
    simp only [go_sem, Nat.reduceBEq, Nat.reduceEqDiff, Nat.reduceLT, Nat.reduceLeDiff, Nat.reduceAdd, Nat.reduceSub, Nat.reduceMul, reduceCtorEq, Int.reduceToNat, Int.reduceEq, Int.reduceLT, Int.reduceLE, Int.reduceNe, Int.reduceNeg , or_self, or_false, false_or , List.length_map, Sp.d]
    refine e17.call rfl rfl rfl ?_
    simp only [go_sem, Nat.reduceBEq, Nat.reduceEqDiff, Nat.reduceLT, Nat.reduceLeDiff, Nat.reduceAdd, Nat.reduceSub, Nat.reduceMul, reduceCtorEq, Int.reduceToNat, Int.reduceEq, Int.reduceLT, Int.reduceLE, Int.reduceNe, Int.reduceNeg , or_self, or_false, false_or , List.length_map, Sp.d]
    exact ForgetTo.same (Nat.zero_le _) (by simp only [EWe, go_sem, Nat.reduceBEq, Nat.reduceEqDiff, Nat.reduceLT, Nat.reduceLeDiff, Nat.reduceAdd, Nat.reduceSub, Nat.reduceMul, reduceCtorEq, Int.reduceToNat, Int.reduceEq, Int.reduceLT, Int.reduceLE, Int.reduceNe, Int.reduceNeg , or_self, or_false, false_or , List.length_map])

set_option maxRecDepth 4000 in
theorem t14_1 : AWP prog 179 0 none (restC 1 (bodyOf f14)) [] [] Q14 := by
  refine AWP.step [(1, .slx (some false) [.agg [.int .i64 (88), .int .i64 (90)], .agg [.int .i64 (15), .int .i64 (16)]]), (2, .slx (some false) [.agg [.int .i64 (91), .int .i64 (95)], .agg [.int .i64 (15), .int .i64 (16)]])] [] (fun _ => false) tt_ok (fun _ h => nomatch h) (Nat.zero_le _) rfl ?_ t14_2
  · simp only [go_sem, Nat.reduceBEq, Nat.reduceEqDiff, Nat.reduceLT, Nat.reduceLeDiff, Nat.reduceAdd, Nat.reduceSub, Nat.reduceMul, reduceCtorEq, Int.reduceToNat, Int.reduceEq, Int.reduceLT, Int.reduceLE, Int.reduceNe, Int.reduceNeg , or_self, or_false, false_or , List.length_map]
    refine (c24 88 90).call rfl rfl rfl ?_
    simp only [go_sem, Nat.reduceBEq, Nat.reduceEqDiff, Nat.reduceLT, Nat.reduceLeDiff, Nat.reduceAdd, Nat.reduceSub, Nat.reduceMul, reduceCtorEq, Int.reduceToNat, Int.reduceEq, Int.reduceLT, Int.reduceLE, Int.reduceNe, Int.reduceNeg , or_self, or_false, false_or , List.length_map, Sp.d]
    refine (c24 15 16).call rfl rfl rfl ?_
    simp only [go_sem, Nat.reduceBEq, Nat.reduceEqDiff, Nat.reduceLT, Nat.reduceLeDiff, Nat.reduceAdd, Nat.reduceSub, Nat.reduceMul, reduceCtorEq, Int.reduceToNat, Int.reduceEq, Int.reduceLT, Int.reduceLE, Int.reduceNe, Int.reduceNeg , or_self, or_false, false_or , List.length_map, Sp.d]
    refine (c24 91 95).call rfl rfl rfl ?_
    simp only [go_sem, Nat.reduceBEq, Nat.reduceEqDiff, Nat.reduceLT, Nat.reduceLeDiff, Nat.reduceAdd, Nat.reduceSub, Nat.reduceMul, reduceCtorEq, Int.reduceToNat, Int.reduceEq, Int.reduceLT, Int.reduceLE, Int.reduceNe, Int.reduceNeg , or_self, or_false, false_or , List.length_map, Sp.d]
    refine (c24 15 16).call rfl rfl rfl ?_
    simp only [go_sem, Nat.reduceBEq, Nat.reduceEqDiff, Nat.reduceLT, Nat.reduceLeDiff, Nat.reduceAdd, Nat.reduceSub, Nat.reduceMul, reduceCtorEq, Int.reduceToNat, Int.reduceEq, Int.reduceLT, Int.reduceLE, Int.reduceNe, Int.reduceNeg , or_self, or_false, false_or , List.length_map, Sp.d]
    exact ForgetTo.same (Nat.zero_le _) (by simp only [EWe, go_sem, Nat.reduceBEq, Nat.reduceEqDiff, Nat.reduceLT, Nat.reduceLeDiff, Nat.reduceAdd, Nat.reduceSub, Nat.reduceMul, reduceCtorEq, Int.reduceToNat, Int.reduceEq, Int.reduceLT, Int.reduceLE, Int.reduceNe, Int.reduceNeg , or_self, or_false, false_or , List.length_map])

set_option maxRecDepth 4000 in
theorem t14_0 : AWP prog 179 0 none (restC 0 (bodyOf f14)) [] [] Q14 := by
  refine AWP.step [] [] (fun _ => false) tt_ok (fun _ h => nomatch h) (Nat.zero_le _) rfl ?_ t14_1
  · simp only [go_sem, Nat.reduceBEq, Nat.reduceEqDiff, Nat.reduceLT, Nat.reduceLeDiff, Nat.reduceAdd, Nat.reduceSub, Nat.reduceMul, reduceCtorEq, Int.reduceToNat, Int.reduceEq, Int.reduceLT, Int.reduceLE, Int.reduceNe, Int.reduceNeg , or_self, or_false, false_or , List.length_map]
    exact ForgetTo.same (Nat.zero_le _) (by simp only [EWe, go_sem, Nat.reduceBEq, Nat.reduceEqDiff, Nat.reduceLT, Nat.reduceLeDiff, Nat.reduceAdd, Nat.reduceSub, Nat.reduceMul, reduceCtorEq, Int.reduceToNat, Int.reduceEq, Int.reduceLT, Int.reduceLE, Int.reduceNe, Int.reduceNeg , or_self, or_false, false_or , List.length_map])

theorem c14 : PC prog 14 [] (.d (.bool true)) :=
  PC.of_body tt_ok (fn := f14) (rs := [.tmp 0]) rfl rfl rfl rfl rfl rfl t14_0
end Go.Aw
end

section
set_option maxRecDepth 100000
namespace Go.Aw
open Go Go.Proofs

theorem has_int {f : Nat} {y : D} (h : HasT Try.prog (f + 1) 3 y) : ∃ n, y = .int .i64 n ∧ (Lit.int .i64 n).wf = true := by
  unfold HasT at h
  rw [Try.underlying3] at h
  exact h

theorem has_sp {f : Nat} {y : D} (h : HasT Try.prog (f + 2) 40 y) : ∃ s : Sp, y = s.d := by
  unfold HasT at h
  rw [Try.underlying40] at h
  obtain ⟨l, rfl, h⟩ := h
  simp only [HasFs] at h
  obtain ⟨y1, r1, rfl, h1, y2, r2, rfl, h2, rfl⟩ := h
  obtain ⟨n1, rfl, _⟩ := has_int h1
  obtain ⟨n2, rfl, _⟩ := has_int h2
  exact ⟨⟨n1, n2⟩, rfl⟩

theorem has_sale {f : Nat} {y : D} (h : HasT Try.prog (f + 3) 80 y) : ∃ s : Sale, y = s.d := by
  unfold HasT at h
  rw [Try.underlying80] at h
  obtain ⟨l, rfl, h⟩ := h
  simp only [HasFs] at h
  obtain ⟨y1, r1, rfl, h1, y2, r2, rfl, h2, rfl⟩ := h
  obtain ⟨s, rfl⟩ := has_sp h1
  obtain ⟨n2, rfl, _⟩ := has_int h2
  exact ⟨⟨s, n2⟩, rfl⟩

theorem has_list {α : Type} {enc : α → D} {p : D → Prop} (he : ∀ y, p y → ∃ s, y = enc s) : ∀ l : List D, (∀ y ∈ l, p y) → ∃ ss : List α, l = ss.map enc
  | [], _ => ⟨[], rfl⟩
  | y :: r, h => by
    obtain ⟨s, rfl⟩ := he y (h y (by simp))
    obtain ⟨ss, rfl⟩ := has_list he r fun z hz => h z (List.mem_cons_of_mem _ hz)
    exact ⟨s :: ss, rfl⟩

theorem has_sales {y : D} (h : HasT Try.prog 4 76 y) : ∃ l : List Sale, y = .sl (l.map Sale.d) := by
  unfold HasT at h
  rw [Try.underlying76] at h
  obtain ⟨l, rfl, _, hl⟩ := h
  obtain ⟨ss, rfl⟩ := has_list (fun y hy => has_sale (f := 0) hy) l hl
  exact ⟨ss, rfl⟩

theorem has_ints {f : Nat} {y : D} (h : HasT Try.prog (f + 2) 22 y) : ∃ l : List Int, y = .sl (l.map (.int .i64)) ∧ l.length ≤ maxLen ∧ ∀ n ∈ l, (Lit.int .i64 n).wf = true := by
  unfold HasT at h
  rw [Try.underlying22] at h
  obtain ⟨l, rfl, h1, hl⟩ := h
  obtain ⟨ss, rfl⟩ := has_list (enc := fun n : {n : Int // (Lit.int .i64 n).wf = true} => D.int .i64 n.1) (fun y hy => by obtain ⟨n, rfl, hn⟩ := has_int hy; exact ⟨⟨n, hn⟩, rfl⟩) l hl
  refine ⟨ss.map Subtype.val, by simp, by simpa using h1, fun n hn => ?_⟩
  obtain ⟨x, _, rfl⟩ := List.mem_map.1 hn
  exact x.2

end Go.Aw
end
