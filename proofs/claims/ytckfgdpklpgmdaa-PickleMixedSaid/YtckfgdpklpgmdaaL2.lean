/- Fillings: whether plates of a filling have an order; what is known is kept. Fillings. Acids that are mixed. What was seen. The rust of all plates, if the bath was filled with a strength. The strengths with which a bath can have been filled. What was. All sets of so many numbers. What is wrong. What is missing. The reference: lists compared. The reference: baths; the law's helpers. The reference: Steps, Weaker; the bath of the examples. The bath of the document's examples. The document's examples. What the document's examples say is so. -/
import Derived.Test.YtckfgdpklpgmdaaL1
set_option linter.unusedSimpArgs false
set_option linter.unusedVariables false

section
set_option maxRecDepth 100000
namespace Go.Aw
open Go Go.Proofs.Try

/-- Have some plates an order? -/
def wellP (b : Bath) (set : Nat) : Bool := (bestOf b set).found

/-- What is known. -/
def cache (b : Bath) (M : List Nat) : List (D × D) := M.map fun k : Nat => (.int .i64 (k : Int), .bool (wellP b k))

def insN (M : List Nat) (k : Nat) : List Nat := if k ∈ M then M else M ++ [k]

theorem cache_find (b : Bath) (k : Nat) : ∀ M : List Nat, mfind (.int .i64 (k : Int)) (cache b M) = some (if k ∈ M then some (.bool (wellP b k)) else none)
  | [] => rfl
  | a :: M => by
    simp only [cache, List.map_cons, mfind, keq, if_true]
    by_cases h : k = a
    · subst h; simp
    · have hb : ((k : Int) == (a : Int)) = false := by simp; omega
      have ih := cache_find b k M
      simp only [cache] at ih
      rw [hb]
      simp only [ih, List.mem_cons, h, false_or]

theorem cache_put (b : Bath) (k : Nat) : ∀ M : List Nat, k ∉ M → mput (.int .i64 (k : Int)) (.bool (wellP b k)) (cache b M) = some (cache b (M ++ [k]))
  | [], _ => rfl
  | a :: M, hk => by
    simp only [List.mem_cons, not_or] at hk
    simp only [cache, List.map_cons, List.cons_append, mput, keq, if_true]
    have hb : ((k : Int) == (a : Int)) = false := by simp; omega
    have ih := cache_put b k M hk.2
    simp only [cache] at ih
    rw [hb]
    simp only [ih]

theorem set_same {H : Heap} {i : Nat} {x : Blk} (h : H[i]? = some x) : H.set i x = H := by
  apply List.ext_getElem?
  intro j
  rw [List.getElem?_set]
  split
  · rename_i e; subst e
    rw [if_pos (lt_of_getElem? h), h]
  · rfl

theorem c84 {b : Bath} (hok : b.Ok) {set : Nat} (hs : set ≤ 31) {M : List Nat} {H : Heap} (hbb : BBs H.length H) (h3 : H[3]? = some (.cells [.d (.int .i64 b.str.lo), .d (.int .i64 b.str.hi), .d (.sl (b.plates.map Plate.d))])) (h4 : H[4]? = some (.obj (.map (cache b M)))) (h5 : H[5]? = some (.cells [.obj 4]))
    {Q : V → Heap → Prop} (hq : Q (.d (.bool (wellP b set))) (H.set 4 (.obj (.map (cache b (insN M set)))))) : ACalls prog 84 [.d (.int .i64 set), .ptr 5 0, .ptr 3 0] H Q := by
  have hl4 := lt_of_getElem? h4
  have hl5 := lt_of_getElem? h5
  refine ACalls.run (fun k => k == 17) tt_ok (fn := f84) (rs := [.tmp 4]) rfl rfl rfl rfl rfl rfl rfl ?_
  by_cases hm : set ∈ M
  · have hf : mfind (.int .i64 (set : Int)) (cache b M) = some (some (.bool (wellP b set))) := by rw [cache_find, if_pos hm]
    simp only [go_sem, Nat.reduceBEq, Nat.reduceEqDiff, Nat.reduceLT, Nat.reduceLeDiff, Nat.reduceAdd, Nat.reduceSub, Nat.reduceMul, reduceCtorEq, Int.reduceToNat, Int.reduceEq, Int.reduceLT, Int.reduceLE, Int.reduceNe, Int.reduceNeg, h3, h4, h5, hf]
    rw [insN, if_pos hm, set_same h4] at hq
    exact hq
  · have hf : mfind (.int .i64 (set : Int)) (cache b M) = some none := by rw [cache_find, if_neg hm]
    simp only [go_sem, Nat.reduceBEq, Nat.reduceEqDiff, Nat.reduceLT, Nat.reduceLeDiff, Nat.reduceAdd, Nat.reduceSub, Nat.reduceMul, reduceCtorEq, Int.reduceToNat, Int.reduceEq, Int.reduceLT, Int.reduceLE, Int.reduceNe, Int.reduceNeg, h3, h4, h5, hf]
    have key := fun Q => c83 hok 31 set [] 0 0 ⟨[], 0, false⟩ (H ++ [stB b ⟨[], 0, false⟩]) H.length (by simp) (BBs_append (BBs_le (by simp) hbb) ⟨BB_stB _ _ _, trivial⟩) hs (by omega) (by simp) (by omega) (by omega) Q
    have hset : ∀ X Y : Blk, (H ++ [X]).set H.length Y = H ++ [Y] := fun X Y => by simp
    have hg4 : ∀ Y : Blk, (H ++ [Y])[4]? = some (.obj (.map (cache b M))) := fun Y => by rw [List.getElem?_append_left hl4, h4]
    have hg5 : ∀ Y : Blk, (H ++ [Y])[5]? = some (.cells [.obj 4]) := fun Y => by rw [List.getElem?_append_left hl5, h5]
    simp only [hset] at key
    refine ACallV.of rfl (key _ ?_)
    have hwp : wellP b set = (bestOf b set).found := rfl
    have hput := cache_put b set M hm
    rw [insN, if_neg hm] at hq
    rw [hwp] at hq
    rw [hwp] at hput
    simp only [bestOf] at hput hq
    generalize onF b 31 set [] 0 0 ⟨[], 0, false⟩ = s at hput hq ⊢
    have hgN : ∀ Y : Blk, (H ++ [Y])[H.length]? = some Y := fun Y => by simp
    simp only [stB, go_sem, Nat.reduceBEq, Nat.reduceEqDiff, Nat.reduceLT, Nat.reduceLeDiff, Nat.reduceAdd, Nat.reduceSub, Nat.reduceMul, reduceCtorEq, Int.reduceToNat, Int.reduceEq, Int.reduceLT, Int.reduceLE, Int.reduceNe, Int.reduceNeg, hg4, hg5, hgN, hput, List.set_append_left _ _ hl4]
    have ht : ∀ Y : Blk, List.take H.length (H.set 4 (.obj (.map (cache b (M ++ [set])))) ++ [Y]) = H.set 4 (.obj (.map (cache b (M ++ [set])))) := fun Y => by
      rw [List.take_append_of_le_length (by simp)]; exact List.take_of_length_le (by simp)
    rw [ht]
    exact ⟨.inr (BBs_set hbb (by simp [BB])), hq⟩
end Go.Aw
end

section
set_option maxRecDepth 100000
namespace Go.Aw
open Go Go.Proofs.Try

theorem bit_lt {x k : Nat} (h : x < 2 ^ k) : x ||| 2 ^ k < 2 ^ (k + 1) :=
  Nat.or_lt_two_pow (Nat.lt_of_lt_of_le h (Nat.pow_le_pow_right (by omega) (by omega))) (Nat.pow_lt_pow_right (by omega) (by omega))

/-- Sets of plates, each less than two to the number of plates. -/
theorem fillF_lt : ∀ (r : Nat) (l fills : List Nat), (∀ x ∈ fills, x < 2 ^ l.length) → ∀ p ∈ fillF r l fills, ∀ x ∈ p.2, x < 2 ^ (l.length + r)
  | 0, l, fills, h, p, hp => by
    simp only [fillF, List.mem_singleton] at hp
    subst hp
    exact h
  | r + 1, l, fills, h, p, hp => by
    simp only [fillF, List.mem_flatMap, List.mem_range] at hp
    obtain ⟨i, hi, hp⟩ := hp
    have := fillF_lt r (l ++ [i]) _ (fun x hx => ?_) p hp
    · rw [show l.length + (r + 1) = (l ++ [i]).length + r by simp; omega]; exact this
    · rw [List.length_append, List.length_singleton]
      rcases List.mem_or_eq_of_mem_set hx with hx | rfl
      · exact Nat.lt_of_lt_of_le (h x hx) (Nat.pow_le_pow_right (by omega) (by omega))
      · refine bit_lt ?_
        rw [List.getD_eq_getElem?_getD, List.getElem?_eq_getElem hi]
        exact h _ (List.getElem_mem hi)

/-- The ways to give the plates to so many fillings. -/
def fillG (b : Bath) (many : Nat) : List (List Nat × List Nat) := fillF b.plates.length [] (List.replicate many 0)

theorem fillG_lt {b : Bath} (hb : b.plates.length ≤ 5) {many : Nat} {p : List Nat × List Nat} (hp : p ∈ fillG b many) : ∀ x ∈ p.2, x ≤ 31 := by
  intro x hx
  have := fillF_lt _ [] _ (fun x hx => by simp [List.eq_of_mem_replicate hx]) p hp x hx
  have h2 : 2 ^ (0 + b.plates.length) ≤ 2 ^ 5 := Nat.pow_le_pow_right (by omega) (by omega)
  simp only [List.length_nil] at this
  omega

theorem fillF_len : ∀ (r : Nat) (l fills : List Nat), ∀ p ∈ fillF r l fills, p.2.length = fills.length
  | 0, l, fills, p, hp => by
    simp only [fillF, List.mem_singleton] at hp
    subst hp
    rfl
  | r + 1, l, fills, p, hp => by
    simp only [fillF, List.mem_flatMap, List.mem_range] at hp
    obtain ⟨i, hi, hp⟩ := hp
    rw [fillF_len r _ _ p hp, List.length_set]

theorem all_take {f : Nat → Bool} {l : List Nat} {i : Nat} (h : (l.take i).all f = true) {x : Nat} (hx : l[i]? = some x) (hf : f x = true) : (l.take (i + 1)).all f = true := by
  rw [List.take_add_one, hx]; simp [List.all_append, h, hf]

def okF (b : Bath) (p : List Nat × List Nat) : Bool := p.2.all (wellP b)

def fillFirst (b : Bath) : Option (List Nat × List Nat) := ((List.range (b.plates.length + 1)).flatMap (fillG b)).find? (okF b)

def fillingsV (b : Bath) : V :=
  if checkP b = 0 then (match fillFirst b with | some p => .tup [.d (.sl (natsD p.1)), .d (.int .i64 0)] | none => .tup [.slx (some true) [], .d (.int .i64 9)]) else .tup [.slx (some true) [], .d (.int .i64 (checkP b))]

/-- The heap of Fillings. -/
def hF (b : Bath) (M : List Nat) (v : V) (e : Int) : Heap :=
  [.cells [.d (.int .i64 b.str.lo), .d (.int .i64 b.str.hi), .d (.sl (b.plates.map Plate.d))], .cells [v], .cells [.d (.int .i64 e)],
    .cells [.d (.int .i64 b.str.lo), .d (.int .i64 b.str.hi), .d (.sl (b.plates.map Plate.d))], .obj (.map (cache b M)), .cells [.obj 4], .cells [.fn (.func 84) [] [.ptr 5 0, .ptr 3 0]]]

theorem c38 (b : Bath) (hb : b.plates.length ≤ 4294967296) : PC prog 38 [.d b.d] (fillingsV b) := by
  refine PC.run (fun k => false) tt_ok (fn := f38) (rs := [.cell 2 27, .cell 3 30]) rfl rfl rfl rfl rfl rfl rfl ?_
  simp only [go_sem, Nat.reduceBEq, Nat.reduceEqDiff, Nat.reduceLT, Nat.reduceLeDiff, Nat.reduceAdd, Nat.reduceSub, Nat.reduceMul, reduceCtorEq, Int.reduceToNat, Int.reduceEq, Int.reduceLT, Int.reduceLE, Int.reduceNe, Int.reduceNeg, Bath.d]
  refine (c76 b hb).call rfl rfl rfl ?_
  simp only [go_sem, Nat.reduceBEq, Nat.reduceEqDiff, Nat.reduceLT, Nat.reduceLeDiff, Nat.reduceAdd, Nat.reduceSub, Nat.reduceMul, reduceCtorEq, Int.reduceToNat, Int.reduceEq, Int.reduceLT, Int.reduceLE, Int.reduceNe, Int.reduceNeg, Bath.d]
  refine Br_split (fun hc => ?_) (fun hc => ?_) <;> simp only [go_sem, Nat.reduceBEq, Nat.reduceEqDiff, Nat.reduceLT, Nat.reduceLeDiff, Nat.reduceAdd, Nat.reduceSub, Nat.reduceMul, reduceCtorEq, Int.reduceToNat, Int.reduceEq, Int.reduceLT, Int.reduceLE, Int.reduceNe, Int.reduceNeg, hc]
  · have h0 : ¬ checkP b = 0 := by simpa using hc
    simp [fillingsV, h0]
  have h0 : checkP b = 0 := by simpa using hc
  have hok := checkP_iff.1 h0
  have hok' := hok
  obtain ⟨_, _, _, hb5, _⟩ := hok'
  have hw : IntKind.i64.wrap ((b.plates.length : Int) + 1) = ((b.plates.length + 1 : Nat) : Int) := by rw [w64 (by omega) (by omega)]; omega
  simp only [go_sem, Nat.reduceBEq, Nat.reduceEqDiff, Nat.reduceLT, Nat.reduceLeDiff, Nat.reduceAdd, Nat.reduceSub, Nat.reduceMul, reduceCtorEq, Int.reduceToNat, Int.reduceEq, Int.reduceLT, Int.reduceLE, Int.reduceNe, Int.reduceNeg, hw]
  refine ALoop.by (S := Nat × List Nat) (fun s => [(28, .d (.int .i64 s.1)), (27, .d (.int .i64 (b.plates.length + 1 : Nat))), (7, .ptr 6 0), (4, .ptr 3 0), (3, .ptr 2 0), (2, .ptr 1 0)])
    (fun s => hF b s.2 (.slx (some true) []) 0) (fun s => b.plates.length + 1 - s.1)
    (fun s => s.1 ≤ b.plates.length + 1 ∧ fillFirst b = (((List.range (b.plates.length + 1)).drop s.1).flatMap (fillG b)).find? (okF b)) (0, []) (by simp) (fun _ h => nomatch h) ⟨Nat.zero_le _, rfl⟩ ?_ ?_
  · exact ForgetTo.same' (by simp) (by simp [EWe, Env.look]) (by simp [hF, cache])
  rintro ⟨many, M⟩ ⟨hm, hfst⟩ hn'
  simp only at hm hfst hn' ⊢
  refine AWP.run (fun _ => false) tt_ok (fun _ h => nomatch h) (by simp) rfl ?_
  simp only [go_sem, Nat.reduceBEq, Nat.reduceEqDiff, Nat.reduceLT, Nat.reduceLeDiff, Nat.reduceAdd, Nat.reduceSub, Nat.reduceMul, reduceCtorEq, Int.reduceToNat, Int.reduceEq, Int.reduceLT, Int.reduceLE, Int.reduceNe, Int.reduceNeg]
  refine Br_split (fun hd => ?_) (fun hd => ?_) <;> simp only [go_sem, Nat.reduceBEq, Nat.reduceEqDiff, Nat.reduceLT, Nat.reduceLeDiff, Nat.reduceAdd, Nat.reduceSub, Nat.reduceMul, reduceCtorEq, Int.reduceToNat, Int.reduceEq, Int.reduceLT, Int.reduceLE, Int.reduceNe, Int.reduceNeg, hd]
  · have hlt : many < b.plates.length + 1 := by simp only [decide_eq_true_eq] at hd; omega
    have hmk : (0 : Int) ≤ (many : Int) := by omega
    have hml : (many : Int) ≤ 4294967296 := by omega
    refine ADrw.treeG (fun _ => false) tt_ok (by kernel_rfl) (fun k => if k = 0 then some .L else if k = 2 then some .A else some .S) (.ones [0, 1, 2, 3] .done) (by simp) (fun _ h => nomatch h) rfl rfl (by kernel_rfl) ?_
    simp only [go_sem, Nat.reduceBEq, Nat.reduceEqDiff, Nat.reduceLT, Nat.reduceLeDiff, Nat.reduceAdd, Nat.reduceSub, Nat.reduceMul, reduceCtorEq, Int.reduceToNat, Int.reduceEq, Int.reduceLT, Int.reduceLE, Int.reduceNe, Int.reduceNeg, hF, hmk, hml, Int.toNat_natCast]
    refine (c85 b [] (List.replicate many 0)).callS (by simp [natsD, dz, Bath.d]) rfl rfl rfl rfl rfl ?_
    simp only [go_sem, Nat.reduceBEq, Nat.reduceEqDiff, Nat.reduceLT, Nat.reduceLeDiff, Nat.reduceAdd, Nat.reduceSub, Nat.reduceMul, reduceCtorEq, Int.reduceToNat, Int.reduceEq, Int.reduceLT, Int.reduceLE, Int.reduceNe, Int.reduceNeg]
    rw [List.drop_eq_getElem_cons (by simpa using hlt), List.flatMap_cons, List.find?_append, List.getElem_range] at hfst
    refine ARng.iter (items := (fillG b many).map fillI) (J := fun rest Hx => ∃ (M : List Nat) (pre : List (List Nat × List Nat)), Hx = hF b M (.slx (some true) []) 0 ∧ rest = pre.map fillI ∧ (∀ p ∈ pre, p ∈ fillG b many) ∧ (fillG b many).find? (okF b) = pre.find? (okF b))
      (by simp) (fun _ h => nomatch h) rfl (c110 hb5 b.plates.length [] (List.replicate many 0) (by simp) (by simp; omega) (by intro x hx; rw [List.eq_of_mem_replicate hx]; decide)) rfl (by simp [VBs, VB, fillV]) ?_ ?_ ?_ ?_ ?_
    · rintro rest Hx ⟨M1, pre, rfl, _, _, _⟩
      exact ⟨rfl, by simp [hF, BBs, BB, VBs, VB]⟩
    · exact ⟨M, _, rfl, rfl, fun _ h => h, rfl⟩
    · rintro Hx ⟨M1, pre, rfl, hp, _, hf1⟩
      obtain rfl : pre = [] := by simpa using hp.symm
      simp only [go_sem, Nat.reduceBEq, Nat.reduceEqDiff, Nat.reduceLT, Nat.reduceLeDiff, Nat.reduceAdd, Nat.reduceSub, Nat.reduceMul, reduceCtorEq, Int.reduceToNat, Int.reduceEq, Int.reduceLT, Int.reduceLE, Int.reduceNe, Int.reduceNeg]
      refine ⟨(many + 1, M1), ⟨by omega, ?_⟩, by simp only; omega, ?_⟩
      · rw [hfst, hf1]; simp [List.range_succ]
      · exact ForgetTo.same' (by simp) (by simp [EWe, Env.look, w64 (n := (many : Int) + 1) (by omega) (by omega)]) rfl
    · intro xs hxs
      obtain ⟨p, _, rfl⟩ := List.mem_map.1 hxs
      rfl
    · rintro L L' xs rest Hx hxs ⟨M1, pre, rfl, hp, hpm, hf1⟩
      obtain ⟨p, rest', rfl⟩ : ∃ p rest', pre = p :: rest' := by cases pre with
        | nil => cases hp
        | cons p r => exact ⟨p, r, rfl⟩
      obtain ⟨rfl, rfl⟩ : xs = fillI p ∧ rest = rest'.map fillI := by simpa using hp
      refine AWP.run (fun _ => false) tt_ok (fun _ h => by cases h; simp) (by simp [hF]) rfl ?_
      simp only [go_sem, Nat.reduceBEq, Nat.reduceEqDiff, Nat.reduceLT, Nat.reduceLeDiff, Nat.reduceAdd, Nat.reduceSub, Nat.reduceMul, reduceCtorEq, Int.reduceToNat, Int.reduceEq, Int.reduceLT, Int.reduceLE, Int.reduceNe, Int.reduceNeg, fillI, hF]
      refine AWP.run (fun _ => false) tt_ok (fun _ h => by cases h; simp) (by simp) rfl ?_
      simp only [go_sem, Nat.reduceBEq, Nat.reduceEqDiff, Nat.reduceLT, Nat.reduceLeDiff, Nat.reduceAdd, Nat.reduceSub, Nat.reduceMul, reduceCtorEq, Int.reduceToNat, Int.reduceEq, Int.reduceLT, Int.reduceLE, Int.reduceNe, Int.reduceNeg]
      have hpl : p.2.length = many := by rw [fillF_len _ _ _ p (hpm p List.mem_cons_self)]; simp
      have hp31 := fillG_lt hb5 (hpm p List.mem_cons_self)
      have hnl := natsD_len p.2
      refine ALoop.by (S := Nat × List Nat) (fun s => [(39, .d (.int .i64 s.1)), (38, .d (.int .i64 p.2.length)), (37, .d (.sl (natsD p.2))), (9, .d (.sl (natsD p.1))), (7, .ptr 6 0), (3, .ptr 2 0), (2, .ptr 1 0)])
        (fun s => hF b s.2 (.slx (some true) []) 0 ++ [L']) (fun s => p.2.length - s.1) (fun s => s.1 ≤ p.2.length ∧ (p.2.take s.1).all (wellP b) = true) (0, M1) (by simp) (fun _ h => by cases h; simp) ⟨Nat.zero_le _, rfl⟩ ?_ ?_
      · exact ForgetTo.same' (by simp [hF]) (by simp [EWe, Env.look, hnl]) rfl
      rintro ⟨i, M2⟩ ⟨hi, hall⟩ hn2
      simp only at hi hall hn2 ⊢
      refine AWP.run (fun _ => false) tt_ok (fun _ h => by cases h; simp) (by simp [hF]) rfl ?_
      simp only [go_sem, Nat.reduceBEq, Nat.reduceEqDiff, Nat.reduceLT, Nat.reduceLeDiff, Nat.reduceAdd, Nat.reduceSub, Nat.reduceMul, reduceCtorEq, Int.reduceToNat, Int.reduceEq, Int.reduceLT, Int.reduceLE, Int.reduceNe, Int.reduceNeg]
      refine Br_split (fun he => ?_) (fun he => ?_) <;> simp only [go_sem, Nat.reduceBEq, Nat.reduceEqDiff, Nat.reduceLT, Nat.reduceLeDiff, Nat.reduceAdd, Nat.reduceSub, Nat.reduceMul, reduceCtorEq, Int.reduceToNat, Int.reduceEq, Int.reduceLT, Int.reduceLE, Int.reduceNe, Int.reduceNeg, he]
      · have hil : i < p.2.length := by simpa using he
        have hix : idx? (natsD p.2) (i : Int) = some (.int .i64 (p.2[i] : Nat)) := by simp [idx?, natsD, List.getElem?_eq_getElem hil]
        simp only [go_sem, Nat.reduceBEq, Nat.reduceEqDiff, Nat.reduceLT, Nat.reduceLeDiff, Nat.reduceAdd, Nat.reduceSub, Nat.reduceMul, reduceCtorEq, Int.reduceToNat, Int.reduceEq, Int.reduceLT, Int.reduceLE, Int.reduceNe, Int.reduceNeg, hix, hF]
        have hx31 := hp31 _ (List.getElem_mem hil)
        have hgx : p.2[i]? = some p.2[i] := List.getElem?_eq_getElem hil
        generalize p.2[i] = x at hx31 hgx
        have hbf : BBs 7 (hF b M2 (.slx (some true) []) 0) := by simp [hF, BBs, BB, VBs, VB]
        refine (ACallV.frame (H := hF b M2 (.slx (some true) []) 0) (X := [L']) (Q := fun v H' => v = .d (.bool (wellP b x)) ∧ H' = hF b (insN M2 x) (.slx (some true) []) 0) (fun id y hy => BBs_get hbf id y hy) rfl rfl (by rintro v H' ⟨_, rfl⟩; rfl) (ACallV.of rfl (c84 hok hx31 (H := hF b M2 (.slx (some true) []) 0) (M := M2) hbf rfl rfl rfl ⟨rfl, rfl⟩))).mono ?_
        rintro v H' ⟨H1, rfl, rfl, rfl⟩
        simp only [go_sem, Nat.reduceBEq, Nat.reduceEqDiff, Nat.reduceLT, Nat.reduceLeDiff, Nat.reduceAdd, Nat.reduceSub, Nat.reduceMul, reduceCtorEq, Int.reduceToNat, Int.reduceEq, Int.reduceLT, Int.reduceLE, Int.reduceNe, Int.reduceNeg, hF]
        refine Br_split (fun hw2 => ?_) (fun hw2 => ?_) <;> simp only [go_sem, Nat.reduceBEq, Nat.reduceEqDiff, Nat.reduceLT, Nat.reduceLeDiff, Nat.reduceAdd, Nat.reduceSub, Nat.reduceMul, reduceCtorEq, Int.reduceToNat, Int.reduceEq, Int.reduceLT, Int.reduceLE, Int.reduceNe, Int.reduceNeg, hw2]
        · have hw3 : wellP b x = false := by simpa using hw2
          refine ⟨insN M2 x, rest', rfl, rfl, fun q hq => hpm q (List.mem_cons_of_mem _ hq), ?_⟩
          rw [hf1, List.find?_cons_of_neg]
          simp only [okF, List.all_eq_true]
          intro hh
          have := hh x (List.mem_of_getElem? hgx)
          rw [hw3] at this
          cases this
        · have hw3 : wellP b x = true := by simpa using hw2
          refine ⟨(i + 1, insN M2 x), ⟨hil, all_take hall hgx hw3⟩, by simp only; omega, ?_⟩
          exact ForgetTo.same' (by simp [hF]) (by simp [EWe, Env.look, w64 (n := (i : Int) + 1) (by omega) (by omega)]) rfl
      · have hie : i = p.2.length := by simp only [decide_eq_false_iff_not] at he; omega
        subst hie
        rw [List.take_length] at hall
        rw [List.find?_cons_of_pos (by simpa [okF] using hall)] at hf1
        simp only [go_sem, Nat.reduceBEq, Nat.reduceEqDiff, Nat.reduceLT, Nat.reduceLeDiff, Nat.reduceAdd, Nat.reduceSub, Nat.reduceMul, reduceCtorEq, Int.reduceToNat, Int.reduceEq, Int.reduceLT, Int.reduceLE, Int.reduceNe, Int.reduceNeg, hF]
        rw [hf1] at hfst
        simp [fillingsV, h0, hfst]
  · have hme : many = b.plates.length + 1 := by simp only [decide_eq_false_iff_not] at hd; omega
    rw [List.drop_eq_nil_of_le (by simp [hme])] at hfst
    simp only [go_sem, Nat.reduceBEq, Nat.reduceEqDiff, Nat.reduceLT, Nat.reduceLeDiff, Nat.reduceAdd, Nat.reduceSub, Nat.reduceMul, reduceCtorEq, Int.reduceToNat, Int.reduceEq, Int.reduceLT, Int.reduceLE, Int.reduceNe, Int.reduceNeg, hF]
    simp [fillingsV, h0, hfst]
end Go.Aw
end

section
set_option maxRecDepth 100000
namespace Go.Aw
open Go Go.Proofs.Try

/-- An acid to mix. -/
structure Acid where
  str : Sp
  oz : Int
deriving DecidableEq

def Acid.d (a : Acid) : D := .agg [.int .i64 a.str.lo, .int .i64 a.str.hi, .int .i64 a.oz]

theorem enc_acid : Enc 3 (Tt 75) Acid.d := fun x => ⟨rfl, rfl⟩

def badAcid (a : Acid) : Bool := !(within 0 40 [a.str.lo, a.str.hi] && decide (a.str.lo ≤ a.str.hi)) || !within 1 200 [a.oz]

theorem c113 (a : Acid) : PC prog 113 [.d a.d] (.d (.bool (badAcid a))) := by
  refine PC.run (fun _ => false) tt_ok (fn := f113) (rs := [.tmp 2]) rfl rfl rfl rfl rfl rfl rfl ?_
  simp only [go_sem, Nat.reduceBEq, Nat.reduceEqDiff, Nat.reduceLT, Nat.reduceLeDiff, Nat.reduceAdd, Nat.reduceSub, Nat.reduceMul, reduceCtorEq, Int.reduceToNat, Int.reduceEq, Int.reduceLT, Int.reduceLE, Int.reduceNe, Int.reduceNeg, Acid.d]
  refine (c73 0 40 a.str).call rfl rfl rfl ?_
  simp only [go_sem, Nat.reduceBEq, Nat.reduceEqDiff, Nat.reduceLT, Nat.reduceLeDiff, Nat.reduceAdd, Nat.reduceSub, Nat.reduceMul, reduceCtorEq, Int.reduceToNat, Int.reduceEq, Int.reduceLT, Int.reduceLE, Int.reduceNe, Int.reduceNeg]
  refine Br_split (fun hc => ?_) (fun hc => ?_)
  · simp only [go_sem, Nat.reduceBEq, Nat.reduceEqDiff, Nat.reduceLT, Nat.reduceLeDiff, Nat.reduceAdd, Nat.reduceSub, Nat.reduceMul, reduceCtorEq, Int.reduceToNat, Int.reduceEq, Int.reduceLT, Int.reduceLE, Int.reduceNe, Int.reduceNeg, hc, badAcid, Bool.true_or]
  · simp only [go_sem, Nat.reduceBEq, Nat.reduceEqDiff, Nat.reduceLT, Nat.reduceLeDiff, Nat.reduceAdd, Nat.reduceSub, Nat.reduceMul, reduceCtorEq, Int.reduceToNat, Int.reduceEq, Int.reduceLT, Int.reduceLE, Int.reduceNe, Int.reduceNeg, hc]
    refine (c74 1 200 [a.oz] (by simp)).call rfl rfl rfl ?_
    simp only [go_sem, Nat.reduceBEq, Nat.reduceEqDiff, Nat.reduceLT, Nat.reduceLeDiff, Nat.reduceAdd, Nat.reduceSub, Nat.reduceMul, reduceCtorEq, Int.reduceToNat, Int.reduceEq, Int.reduceLT, Int.reduceLE, Int.reduceNe, Int.reduceNeg, hc, badAcid, Bool.false_or]

theorem within_iff (a b : Int) (l : List Int) : within a b l = true ↔ ∀ x ∈ l, a ≤ x ∧ x ≤ b := by
  simp [within]

def Acid.Ok (a : Acid) : Prop := 0 ≤ a.str.lo ∧ a.str.lo ≤ a.str.hi ∧ a.str.hi ≤ 40 ∧ 1 ≤ a.oz ∧ a.oz ≤ 200

theorem badAcid_iff (a : Acid) : badAcid a = false ↔ a.Ok := by
  simp [badAcid, within, Acid.Ok]
  omega

/-- What is mixed so far. -/
structure Mixed where
  lo : Int
  hi : Int
  oz : Int
deriving DecidableEq

def Mixed.d (m : Mixed) : D := .agg [.int .i64 m.lo, .int .i64 m.hi, .int .i64 m.oz]

def Mixed.add (m : Mixed) (a : Acid) : Mixed := ⟨m.lo + a.str.lo * a.oz, m.hi + a.str.hi * a.oz, m.oz + a.oz⟩

def mixAll (l : List Acid) : Mixed := l.foldl Mixed.add ⟨0, 0, 0⟩

/-- The error of acids. -/
def acidsP (l : List Acid) : Int := if l.length > 5 then 5 else if l.length = 0 then 7 else if l.any badAcid = true then 2 else 0

def mixP (l : List Acid) : Mixed := if acidsP l = 0 then mixAll l else ⟨0, 0, 0⟩

theorem mix_bnd : ∀ (l : List Acid) (m : Mixed), (∀ a ∈ l, a.Ok) → 0 ≤ m.lo → m.lo ≤ m.hi → m.hi ≤ 40 * m.oz → 0 ≤ m.oz →
    0 ≤ (l.foldl Mixed.add m).lo ∧ (l.foldl Mixed.add m).lo ≤ (l.foldl Mixed.add m).hi ∧ (l.foldl Mixed.add m).hi ≤ 40 * (l.foldl Mixed.add m).oz ∧ m.oz + l.length ≤ (l.foldl Mixed.add m).oz ∧ (l.foldl Mixed.add m).oz ≤ m.oz + 200 * l.length
  | [], m, _, h1, h2, h3, h4 => by simp; omega
  | a :: r, m, hl, h1, h2, h3, h4 => by
    obtain ⟨k1, k2, k3, k4, k5⟩ := hl a List.mem_cons_self
    have p1 : 0 ≤ a.str.lo * a.oz := Int.mul_nonneg k1 (by omega)
    have p2 : a.str.lo * a.oz ≤ a.str.hi * a.oz := Int.mul_le_mul_of_nonneg_right k2 (by omega)
    have p3 : a.str.hi * a.oz ≤ 40 * a.oz := Int.mul_le_mul_of_nonneg_right k3 (by omega)
    have := mix_bnd r (m.add a) (fun x hx => hl x (List.mem_cons_of_mem _ hx)) (by simp only [Mixed.add]; omega) (by simp only [Mixed.add]; omega) (by simp only [Mixed.add]; omega) (by simp only [Mixed.add]; omega)
    simp only [List.foldl_cons, List.length_cons]
    simp only [Mixed.add] at this ⊢
    omega

theorem c90 (l : List Acid) (hl : l.length ≤ 4294967296) : PC prog 90 [.d (.sl (l.map Acid.d))] (.tup [.d (mixP l).d, .d (.int .i64 (acidsP l))]) := by
  refine PC.run (fun _ => false) tt_ok (fn := f90) (rs := [.cell 2 163, .tmp 3]) rfl rfl rfl rfl rfl rfl rfl ?_
  simp only [go_sem, Nat.reduceBEq, Nat.reduceEqDiff, Nat.reduceLT, Nat.reduceLeDiff, Nat.reduceAdd, Nat.reduceSub, Nat.reduceMul, reduceCtorEq, Int.reduceToNat, Int.reduceEq, Int.reduceLT, Int.reduceLE, Int.reduceNe, Int.reduceNeg]
  refine Br_split (fun hc => ?_) (fun hc => ?_) <;> simp only [go_sem, Nat.reduceBEq, Nat.reduceEqDiff, Nat.reduceLT, Nat.reduceLeDiff, Nat.reduceAdd, Nat.reduceSub, Nat.reduceMul, reduceCtorEq, Int.reduceToNat, Int.reduceEq, Int.reduceLT, Int.reduceLE, Int.reduceNe, Int.reduceNeg, hc]
  · have h1 : l.length > 5 := by simp at hc; omega
    simp [mixP, acidsP, h1, Mixed.d]
  have h1 : ¬ l.length > 5 := by simp at hc; omega
  refine Br_split (fun hd => ?_) (fun hd => ?_) <;> simp only [go_sem, Nat.reduceBEq, Nat.reduceEqDiff, Nat.reduceLT, Nat.reduceLeDiff, Nat.reduceAdd, Nat.reduceSub, Nat.reduceMul, reduceCtorEq, Int.reduceToNat, Int.reduceEq, Int.reduceLT, Int.reduceLE, Int.reduceNe, Int.reduceNeg, hc, hd]
  · have h2 : l.length = 0 := by simp at hd; simp [hd]
    simp [mixP, acidsP, h1, h2, Mixed.d]
  have h2 : ¬ l.length = 0 := by simp at hd; simpa using hd
  refine ACallV.of rfl (c114 enc_acid l hl 113 [] [] badAcid (fun x _ Q h => (c113 x).call rfl rfl rfl h) ?_)
  simp only [go_sem, Nat.reduceBEq, Nat.reduceEqDiff, Nat.reduceLT, Nat.reduceLeDiff, Nat.reduceAdd, Nat.reduceSub, Nat.reduceMul, reduceCtorEq, Int.reduceToNat, Int.reduceEq, Int.reduceLT, Int.reduceLE, Int.reduceNe, Int.reduceNeg]
  refine Br_split (fun he => ?_) (fun he => ?_) <;> simp only [go_sem, Nat.reduceBEq, Nat.reduceEqDiff, Nat.reduceLT, Nat.reduceLeDiff, Nat.reduceAdd, Nat.reduceSub, Nat.reduceMul, reduceCtorEq, Int.reduceToNat, Int.reduceEq, Int.reduceLT, Int.reduceLE, Int.reduceNe, Int.reduceNeg, hc, hd, he]
  · simp [mixP, acidsP, h1, h2, he, Mixed.d]
  have h0 : acidsP l = 0 := by simp [acidsP, h1, h2, he]
  have hall : ∀ a ∈ l, a.Ok := fun a ha => (badAcid_iff a).1 (by
    have := List.any_eq_false.1 he a ha
    simpa using this)
  refine ALoop.by (S := Nat) (fun i => [(24, .d (.int .i64 i)), (23, .d (.int .i64 l.length)), (22, .d (.sl (l.map Acid.d))), (2, .ptr 0 0)])
    (fun i => [.cells [.d (.int .i64 ((l.take i).foldl Mixed.add ⟨0, 0, 0⟩).lo), .d (.int .i64 ((l.take i).foldl Mixed.add ⟨0, 0, 0⟩).hi), .d (.int .i64 ((l.take i).foldl Mixed.add ⟨0, 0, 0⟩).oz)]]) (fun i => l.length - i) (fun i => i ≤ l.length) 0 (by simp) (fun _ h => nomatch h) (Nat.zero_le _) ?_ ?_
  · exact ForgetTo.same' (by simp) (by simp [EWe, Env.look]) (by simp)
  rintro i hi hn
  refine AWP.run (fun _ => false) tt_ok (fun _ h => nomatch h) (by simp) rfl ?_
  simp only [go_sem, Nat.reduceBEq, Nat.reduceEqDiff, Nat.reduceLT, Nat.reduceLeDiff, Nat.reduceAdd, Nat.reduceSub, Nat.reduceMul, reduceCtorEq, Int.reduceToNat, Int.reduceEq, Int.reduceLT, Int.reduceLE, Int.reduceNe, Int.reduceNeg]
  refine Br_split (fun hf => ?_) (fun hf => ?_) <;> simp only [go_sem, Nat.reduceBEq, Nat.reduceEqDiff, Nat.reduceLT, Nat.reduceLeDiff, Nat.reduceAdd, Nat.reduceSub, Nat.reduceMul, reduceCtorEq, Int.reduceToNat, Int.reduceEq, Int.reduceLT, Int.reduceLE, Int.reduceNe, Int.reduceNeg, hf]
  · have hlt : i < l.length := by simpa using hf
    have hix : idx? (l.map Acid.d) (i : Int) = some (l[i]).d := by simp [idx?, List.getElem?_eq_getElem hlt]
    have hst : (l.take (i + 1)).foldl Mixed.add ⟨0, 0, 0⟩ = ((l.take i).foldl Mixed.add ⟨0, 0, 0⟩).add l[i] := by
      rw [List.take_add_one, List.getElem?_eq_getElem hlt, List.foldl_append]; rfl
    obtain ⟨b1, b2, b3, b4, b5⟩ := mix_bnd (l.take i) ⟨0, 0, 0⟩ (fun a ha => hall a (List.mem_of_mem_take ha)) (by simp) (by simp) (by simp) (by simp)
    have hlen : (l.take i).length = i := by simp; omega
    rw [hlen] at b4 b5
    have ha := hall _ (List.getElem_mem hlt)
    generalize (l.take i).foldl Mixed.add ⟨0, 0, 0⟩ = m at hst b1 b2 b3 b4 b5
    generalize l[i] = a at hix hst ha
    obtain ⟨k1, k2, k3, k4, k5⟩ := ha
    have p1 : 0 ≤ a.str.lo * a.oz := Int.mul_nonneg k1 (by omega)
    have p2 : a.str.lo * a.oz ≤ a.str.hi * a.oz := Int.mul_le_mul_of_nonneg_right k2 (by omega)
    have p3 : a.str.hi * a.oz ≤ 40 * a.oz := Int.mul_le_mul_of_nonneg_right k3 (by omega)
    simp only at b4 b5
    simp only [go_sem, Nat.reduceBEq, Nat.reduceEqDiff, Nat.reduceLT, Nat.reduceLeDiff, Nat.reduceAdd, Nat.reduceSub, Nat.reduceMul, reduceCtorEq, Int.reduceToNat, Int.reduceEq, Int.reduceLT, Int.reduceLE, Int.reduceNe, Int.reduceNeg, hix, Acid.d]
    refine ⟨i + 1, hlt, by omega, ?_⟩
    refine ForgetTo.drop (H0 := [_]) (Y := [_]) (Nat.zero_le _) ?_ (by simp [BBs, BB, VBs, VB]) ?_
    · rw [hst]
      simp only [Mixed.add]
      rw [w64 (n := a.str.lo * a.oz) (by omega) (by omega), w64 (n := a.str.hi * a.oz) (by omega) (by omega), w64 (by omega) (by omega), w64 (by omega) (by omega), w64 (by omega) (by omega)]
    · simp [EWp, Env.look, pubV, w64 (n := (i : Int) + 1) (by omega) (by omega)]
  · have hie : i = l.length := by simp at hf; omega
    subst hie
    rw [List.take_length]
    simp [mixP, h0, mixAll, Mixed.d]

/-- How strong it is with water. -/
def Mixed.with (m : Mixed) (w : Int) : Sp := ⟨m.lo / (m.oz + w), (m.hi + (m.oz + w) - 1) / (m.oz + w)⟩

theorem c91 (m : Mixed) (w : Int) (h1 : 0 ≤ m.lo) (h2 : m.lo ≤ 40000) (h3 : 0 ≤ m.hi) (h4 : m.hi ≤ 40000) (h5 : 1 ≤ m.oz) (h6 : m.oz ≤ 1000) (h7 : 0 ≤ w) (h8 : w ≤ 1000) : PC prog 91 [.d m.d, .d (.int .i64 w)] (.d (m.with w).d) := by
  refine PC.run (fun _ => false) tt_ok (fn := f91) (rs := [.cell 4 23]) rfl rfl rfl rfl rfl rfl rfl ?_
  simp only [go_sem, Nat.reduceBEq, Nat.reduceEqDiff, Nat.reduceLT, Nat.reduceLeDiff, Nat.reduceAdd, Nat.reduceSub, Nat.reduceMul, reduceCtorEq, Int.reduceToNat, Int.reduceEq, Int.reduceLT, Int.reduceLE, Int.reduceNe, Int.reduceNeg, Mixed.d]
  have hn : IntKind.i64.wrap (m.oz + w) = m.oz + w := w64 (by omega) (by omega)
  have hnz : ¬ m.oz + w = 0 := by omega
  refine ADrw.treeG (fun _ => false) tt_ok (by kernel_rfl) (fun k => if k = 1 ∨ k = 5 then some .L else if k = 12 then some .W else some .S) (.ones [0, 1, 2, 3, 4, 5, 6, 7, 8, 9, 10, 11, 12] .done) (by simp) (fun _ h => nomatch h) rfl rfl (by kernel_rfl) ?_
  have q1 : IntKind.i64.wrap (m.lo.tdiv (m.oz + w)) = m.lo / (m.oz + w) := by
    rw [Int.tdiv_eq_ediv_of_nonneg h1]
    exact w64 (by have := Int.ediv_nonneg h1 (show 0 ≤ m.oz + w by omega); omega) (by have := Int.ediv_le_self (m.oz + w) h1; omega)
  have w2 : IntKind.i64.wrap (m.hi + (m.oz + w)) = m.hi + (m.oz + w) := w64 (by omega) (by omega)
  have w3 : IntKind.i64.wrap (m.hi + (m.oz + w) - 1) = m.hi + (m.oz + w) - 1 := w64 (by omega) (by omega)
  have h9 : 0 ≤ m.hi + (m.oz + w) - 1 := by omega
  have q2 : IntKind.i64.wrap ((m.hi + (m.oz + w) - 1).tdiv (m.oz + w)) = (m.hi + (m.oz + w) - 1) / (m.oz + w) := by
    rw [Int.tdiv_eq_ediv_of_nonneg h9]
    exact w64 (by have := Int.ediv_nonneg h9 (show 0 ≤ m.oz + w by omega); omega) (by have := Int.ediv_le_self (m.oz + w) h9; omega)
  simp only [go_sem, Nat.reduceBEq, Nat.reduceEqDiff, Nat.reduceLT, Nat.reduceLeDiff, Nat.reduceAdd, Nat.reduceSub, Nat.reduceMul, reduceCtorEq, Int.reduceToNat, Int.reduceEq, Int.reduceLT, Int.reduceLE, Int.reduceNe, Int.reduceNeg, hn, quoO_ne hnz, q1, q2, w2, w3, Mixed.with, Sp.d]

def sp0 : Sp := ⟨0, 0⟩

def mixV (l : List Acid) : Sp := if acidsP l = 0 then (mixAll l).with 0 else sp0

theorem acids_ok {l : List Acid} (h : acidsP l = 0) : l.length ≤ 5 ∧ l.length ≠ 0 ∧ (∀ a ∈ l, a.Ok) := by
  unfold acidsP at h
  split at h
  · cases h
  · split at h
    · cases h
    · split at h
      · cases h
      · rename_i h1 h2 h3
        refine ⟨by omega, h2, fun a ha => (badAcid_iff a).1 ?_⟩
        simp only [Bool.not_eq_true] at h3
        have := List.any_eq_false.1 h3 a ha
        simpa using this

theorem mixAll_bnd {l : List Acid} (h : acidsP l = 0) : 0 ≤ (mixAll l).lo ∧ (mixAll l).lo ≤ (mixAll l).hi ∧ (mixAll l).hi ≤ 40000 ∧ 1 ≤ (mixAll l).oz ∧ (mixAll l).oz ≤ 1000 := by
  obtain ⟨k1, k2, k3⟩ := acids_ok h
  have := mix_bnd l ⟨0, 0, 0⟩ k3 (by simp) (by simp) (by simp) (by simp)
  simp only [mixAll] at this ⊢
  omega

theorem c43 (l : List Acid) (hl : l.length ≤ 4294967296) : PC prog 43 [.d (.sl (l.map Acid.d))] (.tup [.d (mixV l).d, .d (.int .i64 (acidsP l))]) := by
  refine PC.run (fun _ => false) tt_ok (fn := f43) (rs := [.cell 2 23, .tmp 3]) rfl rfl rfl rfl rfl rfl rfl ?_
  simp only [go_sem, Nat.reduceBEq, Nat.reduceEqDiff, Nat.reduceLT, Nat.reduceLeDiff, Nat.reduceAdd, Nat.reduceSub, Nat.reduceMul, reduceCtorEq, Int.reduceToNat, Int.reduceEq, Int.reduceLT, Int.reduceLE, Int.reduceNe, Int.reduceNeg]
  refine (c90 l hl).call rfl rfl rfl ?_
  simp only [go_sem, Nat.reduceBEq, Nat.reduceEqDiff, Nat.reduceLT, Nat.reduceLeDiff, Nat.reduceAdd, Nat.reduceSub, Nat.reduceMul, reduceCtorEq, Int.reduceToNat, Int.reduceEq, Int.reduceLT, Int.reduceLE, Int.reduceNe, Int.reduceNeg, Mixed.d]
  refine Br_split (fun hc => ?_) (fun hc => ?_) <;> simp only [go_sem, Nat.reduceBEq, Nat.reduceEqDiff, Nat.reduceLT, Nat.reduceLeDiff, Nat.reduceAdd, Nat.reduceSub, Nat.reduceMul, reduceCtorEq, Int.reduceToNat, Int.reduceEq, Int.reduceLT, Int.reduceLE, Int.reduceNe, Int.reduceNeg, hc]
  · have h0 : ¬ acidsP l = 0 := by simpa using hc
    simp [mixV, h0, sp0, Sp.d]
  have h0 : acidsP l = 0 := by simpa using hc
  obtain ⟨k1, k2, k3, k4, k5⟩ := mixAll_bnd h0
  have hm : mixP l = mixAll l := by rw [mixP, if_pos h0]
  refine (c91 (mixP l) 0 (by rw [hm]; omega) (by rw [hm]; omega) (by rw [hm]; omega) (by rw [hm]; omega) (by rw [hm]; omega) (by rw [hm]; omega) (by omega) (by omega)).call rfl rfl rfl ?_
  simp only [go_sem, Nat.reduceBEq, Nat.reduceEqDiff, Nat.reduceLT, Nat.reduceLeDiff, Nat.reduceAdd, Nat.reduceSub, Nat.reduceMul, reduceCtorEq, Int.reduceToNat, Int.reduceEq, Int.reduceLT, Int.reduceLE, Int.reduceNe, Int.reduceNeg, Sp.d]
  simp [mixV, h0, hm, Sp.d]

/-- Whether so much water is right. -/
def fitW (m : Mixed) (want : Sp) (w : Int) : Bool := !(decide ((m.with w).lo < want.lo) || decide ((m.with w).hi > want.hi))

def waterStep (m : Mixed) (want : Sp) (s : Sp × Int) (w : Nat) : Sp × Int :=
  if fitW m want w = true then (if s.2 = 0 then (⟨s.1.lo, w⟩, 0) else (⟨w, w⟩, 0)) else s

def waterUp (m : Mixed) (want : Sp) (n : Nat) : Sp × Int := (List.range n).foldl (waterStep m want) (sp0, 7)

def waterP (l : List Acid) (want : Sp) : Sp × Int :=
  if acidsP l = 0 then (if (within 0 40 [want.lo, want.hi] && decide (want.lo ≤ want.hi)) = true then waterUp (mixAll l) want 501 else (sp0, 3)) else (sp0, acidsP l)

theorem c44 (l : List Acid) (want : Sp) (hl : l.length ≤ 4294967296) : PC prog 44 [.d (.sl (l.map Acid.d)), .d want.d] (.tup [.d (waterP l want).1.d, .d (.int .i64 (waterP l want).2)]) := by
  refine PC.run (fun _ => false) tt_ok (fn := f44) (rs := [.cell 4 23, .tmp 5]) rfl rfl rfl rfl rfl rfl rfl ?_
  simp only [go_sem, Nat.reduceBEq, Nat.reduceEqDiff, Nat.reduceLT, Nat.reduceLeDiff, Nat.reduceAdd, Nat.reduceSub, Nat.reduceMul, reduceCtorEq, Int.reduceToNat, Int.reduceEq, Int.reduceLT, Int.reduceLE, Int.reduceNe, Int.reduceNeg, Sp.d]
  refine (c90 l hl).call rfl rfl rfl ?_
  simp only [go_sem, Nat.reduceBEq, Nat.reduceEqDiff, Nat.reduceLT, Nat.reduceLeDiff, Nat.reduceAdd, Nat.reduceSub, Nat.reduceMul, reduceCtorEq, Int.reduceToNat, Int.reduceEq, Int.reduceLT, Int.reduceLE, Int.reduceNe, Int.reduceNeg, Mixed.d]
  refine Br_split (fun hc => ?_) (fun hc => ?_) <;> simp only [go_sem, Nat.reduceBEq, Nat.reduceEqDiff, Nat.reduceLT, Nat.reduceLeDiff, Nat.reduceAdd, Nat.reduceSub, Nat.reduceMul, reduceCtorEq, Int.reduceToNat, Int.reduceEq, Int.reduceLT, Int.reduceLE, Int.reduceNe, Int.reduceNeg, hc]
  · have h0 : ¬ acidsP l = 0 := by simpa using hc
    simp [waterP, h0, sp0]
  have h0 : acidsP l = 0 := by simpa using hc
  refine (c73 0 40 want).call rfl rfl rfl ?_
  simp only [go_sem, Nat.reduceBEq, Nat.reduceEqDiff, Nat.reduceLT, Nat.reduceLeDiff, Nat.reduceAdd, Nat.reduceSub, Nat.reduceMul, reduceCtorEq, Int.reduceToNat, Int.reduceEq, Int.reduceLT, Int.reduceLE, Int.reduceNe, Int.reduceNeg]
  refine Br_split (fun hd => ?_) (fun hd => ?_) <;> simp only [go_sem, Nat.reduceBEq, Nat.reduceEqDiff, Nat.reduceLT, Nat.reduceLeDiff, Nat.reduceAdd, Nat.reduceSub, Nat.reduceMul, reduceCtorEq, Int.reduceToNat, Int.reduceEq, Int.reduceLT, Int.reduceLE, Int.reduceNe, Int.reduceNeg, hc, hd]
  · have h1 : ¬ (within 0 40 [want.lo, want.hi] && decide (want.lo ≤ want.hi)) = true := by rw [Bool.not_eq_true]; simpa only [Bool.not_eq_true'] using hd
    simp only [waterP, h0, if_true, if_neg h1, sp0]
  have h1 : (within 0 40 [want.lo, want.hi] && decide (want.lo ≤ want.hi)) = true := by simpa only [Bool.not_eq_false'] using hd
  obtain ⟨k1, k2, k3, k4, k5⟩ := mixAll_bnd h0
  have hm : mixP l = mixAll l := by rw [mixP, if_pos h0]
  have hstp := fun n : Nat => show waterUp (mixAll l) want (n + 1) = waterStep (mixAll l) want (waterUp (mixAll l) want n) n by rw [waterUp, List.range_succ, List.foldl_append]; rfl
  have hcc := fun (n : Nat) (hn : n ≤ 1000) => c91 (mixAll l) n (by omega) (by omega) (by omega) (by omega) (by omega) (by omega) (by omega) (by omega)
  simp only [waterP, h0, if_true, h1]
  rw [hm]
  generalize mixAll l = m at hstp hcc
  refine ALoop.by (S := Nat) (fun i => [(24, .d (.int .i64 i)), (6, .ptr 2 0), (5, .d (.int .i64 (waterUp m want i).2)), (4, .ptr 1 0), (3, .ptr 0 0)])
    (fun i => [.cells [.d (.int .i64 want.lo), .d (.int .i64 want.hi)], .cells [.d (.int .i64 (waterUp m want i).1.lo), .d (.int .i64 (waterUp m want i).1.hi)], .cells [.d (.int .i64 m.lo), .d (.int .i64 m.hi), .d (.int .i64 m.oz)]]) (fun i => 501 - i) (fun i => i ≤ 501) 0 (by simp) (fun _ h => nomatch h) (Nat.zero_le _) ?_ ?_
  · exact ForgetTo.same' (by simp) (by simp [EWe, Env.look, waterUp]) (by simp [waterUp, sp0])
  rintro i hi hn
  refine AWP.run (fun _ => false) tt_ok (fun _ h => nomatch h) (by simp) rfl ?_
  simp only [go_sem, Nat.reduceBEq, Nat.reduceEqDiff, Nat.reduceLT, Nat.reduceLeDiff, Nat.reduceAdd, Nat.reduceSub, Nat.reduceMul, reduceCtorEq, Int.reduceToNat, Int.reduceEq, Int.reduceLT, Int.reduceLE, Int.reduceNe, Int.reduceNeg]
  refine Br_split (fun hf => ?_) (fun hf => ?_) <;> simp only [go_sem, Nat.reduceBEq, Nat.reduceEqDiff, Nat.reduceLT, Nat.reduceLeDiff, Nat.reduceAdd, Nat.reduceSub, Nat.reduceMul, reduceCtorEq, Int.reduceToNat, Int.reduceEq, Int.reduceLT, Int.reduceLE, Int.reduceNe, Int.reduceNeg, hf]
  · have hlt : i < 501 := by simp only [decide_eq_true_eq] at hf; omega
    have hnx : IntKind.i64.wrap ((i : Int) + 1) = ((i + 1 : Nat) : Int) := w64 (by omega) (by omega)
    refine (hcc i (by omega)).call rfl rfl rfl ?_
    have hst := hstp i
    have hfw : fitW m want i = !(decide ((m.with i).lo < want.lo) || decide ((m.with i).hi > want.hi)) := rfl
    generalize waterUp m want i = s at hst
    generalize m.with i = r at hfw
    simp only [go_sem, Nat.reduceBEq, Nat.reduceEqDiff, Nat.reduceLT, Nat.reduceLeDiff, Nat.reduceAdd, Nat.reduceSub, Nat.reduceMul, reduceCtorEq, Int.reduceToNat, Int.reduceEq, Int.reduceLT, Int.reduceLE, Int.reduceNe, Int.reduceNeg, Sp.d]
    have skip : fitW m want i = false → waterUp m want (i + 1) = s := fun h => by rw [hst, waterStep, if_neg (by rw [h]; simp)]
    refine Br_split (fun h2 => ?_) (fun h2 => ?_) <;> simp only [go_sem, Nat.reduceBEq, Nat.reduceEqDiff, Nat.reduceLT, Nat.reduceLeDiff, Nat.reduceAdd, Nat.reduceSub, Nat.reduceMul, reduceCtorEq, Int.reduceToNat, Int.reduceEq, Int.reduceLT, Int.reduceLE, Int.reduceNe, Int.reduceNeg, h2]
    · rw [h2] at hfw
      have hsk := skip (by rw [hfw]; simp)
      refine ⟨i + 1, hlt, by omega, ?_⟩
      refine ForgetTo.drop (H0 := [_, _, _]) (Y := [_]) (Nat.zero_le _) ?_ (by simp [BBs, BB, VBs, VB]) ?_
      · rw [hsk]
      · simp [EWp, Env.look, pubV, hnx, hsk]
    · refine Br_split (fun h3 => ?_) (fun h3 => ?_) <;> simp only [go_sem, Nat.reduceBEq, Nat.reduceEqDiff, Nat.reduceLT, Nat.reduceLeDiff, Nat.reduceAdd, Nat.reduceSub, Nat.reduceMul, reduceCtorEq, Int.reduceToNat, Int.reduceEq, Int.reduceLT, Int.reduceLE, Int.reduceNe, Int.reduceNeg, h2, h3]
      · rw [h2, show decide (r.hi > want.hi) = true from h3] at hfw
        have hsk := skip (by rw [hfw]; rfl)
        refine ⟨i + 1, hlt, by omega, ?_⟩
        refine ForgetTo.drop (H0 := [_, _, _]) (Y := [_]) (Nat.zero_le _) ?_ (by simp [BBs, BB, VBs, VB]) ?_
        · rw [hsk]
        · simp [EWp, Env.look, pubV, hnx, hsk]
      · rw [h2, show decide (r.hi > want.hi) = false from h3] at hfw
        have hfw' : fitW m want i = true := by rw [hfw]; rfl
        rw [waterStep, if_pos hfw'] at hst
        refine Br_split (fun h4 => ?_) (fun h4 => ?_) <;> simp only [go_sem, Nat.reduceBEq, Nat.reduceEqDiff, Nat.reduceLT, Nat.reduceLeDiff, Nat.reduceAdd, Nat.reduceSub, Nat.reduceMul, reduceCtorEq, Int.reduceToNat, Int.reduceEq, Int.reduceLT, Int.reduceLE, Int.reduceNe, Int.reduceNeg, h4]
        · have h5 : ¬ s.2 = 0 := by simpa using h4
          rw [if_neg h5] at hst
          refine ⟨i + 1, hlt, by omega, ?_⟩
          refine ForgetTo.drop (H0 := [_, _, _]) (Y := [_]) (Nat.zero_le _) ?_ (by simp [BBs, BB, VBs, VB]) ?_
          · rw [hst]
          · simp [EWp, Env.look, pubV, hnx, hst]
        · have h5 : s.2 = 0 := by simpa using h4
          rw [if_pos h5] at hst
          refine ⟨i + 1, hlt, by omega, ?_⟩
          refine ForgetTo.drop (H0 := [_, _, _]) (Y := [_]) (Nat.zero_le _) ?_ (by simp [BBs, BB, VBs, VB]) ?_
          · rw [hst]
          · simp [EWp, Env.look, pubV, hnx, hst]
  · have hie : i = 501 := by simp only [decide_eq_false_iff_not] at hf; omega
    subst hie
    simp
end Go.Aw
end

section
set_option maxRecDepth 100000
namespace Go.Aw
open Go Go.Proofs.Try

/-- A thing seen. -/
structure Seen where
  step : Step
  how : Int
deriving DecidableEq

def Seen.d (s : Seen) : D := .agg [.int .i64 s.step.plate, .int .i64 s.step.hours, .int .i64 s.how]

/-- What was seen of a bath, but some things. -/
structure Log where
  bath : Bath
  seen : List Seen
  without : Nat

def Log.d (x : Log) : D := .agg [.int .i64 x.bath.str.lo, .int .i64 x.bath.str.hi, .sl (x.bath.plates.map Plate.d), .sl (x.seen.map Seen.d), .int .i64 x.without]

def badHow (s : Seen) : Bool := decide (s.how < 1) || decide (s.how > 3)

/-- The error of a bath and of what was seen of it. -/
def logE (b : Bath) (l : List Seen) : Int :=
  if checkP b = 0 then (if l.any badHow = true then 4 else if stepsOk b.plates.length 0 (l.map Seen.step) = true then 0 else 4) else checkP b

def log0 : Log := ⟨⟨⟨0, 0⟩, []⟩, [], 0⟩

def logP (b : Bath) (l : List Seen) : Log := if logE b l = 0 then ⟨b, l, 0⟩ else log0

theorem sized_steps' (l : List Seen) : sized 2 ((l.map Seen.step).map Step.d) = true := sized_steps _

theorem c92 (b : Bath) (l : List Seen) (hb : b.plates.length ≤ 4294967296) (hl : l.length ≤ 1000) : PC prog 92 [.d b.d, .d (.sl (l.map Seen.d))] (.tup [.d (logP b l).d, .d (.int .i64 (logE b l))]) := by
  refine PC.run (fun k => k == 7) tt_ok (fn := f92) (rs := [.cell 4 168, .tmp 5]) rfl rfl rfl rfl rfl rfl rfl ?_
  simp only [go_sem, Nat.reduceBEq, Nat.reduceEqDiff, Nat.reduceLT, Nat.reduceLeDiff, Nat.reduceAdd, Nat.reduceSub, Nat.reduceMul, reduceCtorEq, Int.reduceToNat, Int.reduceEq, Int.reduceLT, Int.reduceLE, Int.reduceNe, Int.reduceNeg, Bath.d]
  refine (c76 b hb).call rfl rfl rfl ?_
  simp only [go_sem, Nat.reduceBEq, Nat.reduceEqDiff, Nat.reduceLT, Nat.reduceLeDiff, Nat.reduceAdd, Nat.reduceSub, Nat.reduceMul, reduceCtorEq, Int.reduceToNat, Int.reduceEq, Int.reduceLT, Int.reduceLE, Int.reduceNe, Int.reduceNeg, Bath.d]
  refine Br_split (fun hc => ?_) (fun hc => ?_) <;> simp only [go_sem, Nat.reduceBEq, Nat.reduceEqDiff, Nat.reduceLT, Nat.reduceLeDiff, Nat.reduceAdd, Nat.reduceSub, Nat.reduceMul, reduceCtorEq, Int.reduceToNat, Int.reduceEq, Int.reduceLT, Int.reduceLE, Int.reduceNe, Int.reduceNeg, hc]
  · have h0 : ¬ checkP b = 0 := by simpa using hc
    simp [logP, logE, h0, log0, Log.d]
  have h0 : checkP b = 0 := by simpa using hc
  have hok := checkP_iff.1 h0
  have hok' := hok
  obtain ⟨s1, s2, s3, hb5, _⟩ := hok'
  refine ALoop.by (S := Nat) (fun i => [(21, .d (.int .i64 i)), (20, .d (.int .i64 l.length)), (19, .d (.sl (l.map Seen.d))), (7, .ref 3 i 0 i), (6, .ptr 2 0), (4, .ptr 1 0), (1, .d (.sl (l.map Seen.d)))])
    (fun i => [.cells [.d (.int .i64 b.str.lo), .d (.int .i64 b.str.hi), .d (.sl (b.plates.map Plate.d))], .cells [.d (.int .i64 0), .d (.int .i64 0), .d (.sl []), .d (.sl []), .d (.int .i64 0)], .cells [.d (.int .i64 b.str.lo), .d (.int .i64 b.str.hi), .d (.sl (b.plates.map Plate.d))], .arr 2 (decide (i = 0)) ((l.take i).map fun s => s.step.d)])
    (fun i => l.length - i) (fun i => i ≤ l.length ∧ (l.take i).any badHow = false) 0 (by simp) (fun _ h => nomatch h) ⟨Nat.zero_le _, rfl⟩ ?_ ?_
  · exact ForgetTo.same' (by simp) (by simp [EWe, Env.look]) (by simp)
  rintro i ⟨hi, hany⟩ hn
  refine AWP.run (fun k => k == 7) tt_ok (fun _ h => nomatch h) (by simp) rfl ?_
  simp only [go_sem, Nat.reduceBEq, Nat.reduceEqDiff, Nat.reduceLT, Nat.reduceLeDiff, Nat.reduceAdd, Nat.reduceSub, Nat.reduceMul, reduceCtorEq, Int.reduceToNat, Int.reduceEq, Int.reduceLT, Int.reduceLE, Int.reduceNe, Int.reduceNeg]
  refine Br_split (fun hd => ?_) (fun hd => ?_) <;> simp only [go_sem, Nat.reduceBEq, Nat.reduceEqDiff, Nat.reduceLT, Nat.reduceLeDiff, Nat.reduceAdd, Nat.reduceSub, Nat.reduceMul, reduceCtorEq, Int.reduceToNat, Int.reduceEq, Int.reduceLT, Int.reduceLE, Int.reduceNe, Int.reduceNeg, hd]
  · have hlt : i < l.length := by simpa using hd
    have hix : idx? (l.map Seen.d) (i : Int) = some (l[i]).d := by simp [idx?, List.getElem?_eq_getElem hlt]
    have hst : (l.take (i + 1)).map (fun s => s.step.d) = (l.take i).map (fun s => s.step.d) ++ [l[i].step.d] := by
      rw [List.take_add_one, List.getElem?_eq_getElem hlt, List.map_append]; rfl
    have hst2 : (l.take (i + 1)).any badHow = badHow l[i] := by
      rw [List.take_add_one, List.getElem?_eq_getElem hlt, List.any_append, hany]; simp
    have hmem : badHow l[i] = true → l.any badHow = true := fun h => List.any_eq_true.2 ⟨_, List.getElem_mem hlt, h⟩
    have hln : ((l.take i).map fun s => s.step.d).length = i := by simp; omega
    have hi1 : i + 1 ≤ 4294967296 := by omega
    generalize l[i] = s at hix hst hst2 hmem
    simp only [go_sem, Nat.reduceBEq, Nat.reduceEqDiff, Nat.reduceLT, Nat.reduceLeDiff, Nat.reduceAdd, Nat.reduceSub, Nat.reduceMul, reduceCtorEq, Int.reduceToNat, Int.reduceEq, Int.reduceLT, Int.reduceLE, Int.reduceNe, Int.reduceNeg, hix, Seen.d, hln, hi1]
    have bad : badHow s = true → logE b l = 4 := fun h => by rw [logE, if_pos h0, if_pos (hmem h)]
    refine Br_split (fun h1 => ?_) (fun h1 => ?_) <;> simp only [go_sem, Nat.reduceBEq, Nat.reduceEqDiff, Nat.reduceLT, Nat.reduceLeDiff, Nat.reduceAdd, Nat.reduceSub, Nat.reduceMul, reduceCtorEq, Int.reduceToNat, Int.reduceEq, Int.reduceLT, Int.reduceLE, Int.reduceNe, Int.reduceNeg, h1]
    · have he := bad (by rw [badHow, h1]; rfl)
      simp [logP, he, log0, Log.d]
    refine Br_split (fun h2 => ?_) (fun h2 => ?_) <;> simp only [go_sem, Nat.reduceBEq, Nat.reduceEqDiff, Nat.reduceLT, Nat.reduceLeDiff, Nat.reduceAdd, Nat.reduceSub, Nat.reduceMul, reduceCtorEq, Int.reduceToNat, Int.reduceEq, Int.reduceLT, Int.reduceLE, Int.reduceNe, Int.reduceNeg, h1, h2]
    · have he := bad (by rw [badHow, h1]; exact h2)
      simp [logP, he, log0, Log.d]
    · refine ⟨i + 1, ⟨hlt, by rw [hst2, badHow, h1]; exact h2⟩, by omega, ?_⟩
      refine ForgetTo.drop (H0 := [_, _, _, _]) (Y := [_]) (Nat.zero_le _) ?_ (by simp [BBs, BB, VBs, VB]) ?_
      · rw [hst]; simp [Step.d]
      · simp [EWp, Env.look, pubV, w64 (n := (i : Int) + 1) (by omega) (by omega)]
  · have hie : i = l.length := by simp at hd; omega
    subst hie
    rw [List.take_length] at hany ⊢
    have hmm : (l.map fun s => s.step.d) = (l.map Seen.step).map Step.d := by simp
    rw [hmm]
    have htk : (l.map (Step.d ∘ Seen.step)).take l.length = l.map (Step.d ∘ Seen.step) := List.take_of_length_le (by simp)
    refine (c77 b (l.map Seen.step) (by omega) (by simp; omega)).callL rfl (by simp [pubVs, pubV, dz, Bath.d, htk]) rfl ?_
    simp only [go_sem, Nat.reduceBEq, Nat.reduceEqDiff, Nat.reduceLT, Nat.reduceLeDiff, Nat.reduceAdd, Nat.reduceSub, Nat.reduceMul, reduceCtorEq, Int.reduceToNat, Int.reduceEq, Int.reduceLT, Int.reduceLE, Int.reduceNe, Int.reduceNeg]
    refine Br_split (fun h2 => ?_) (fun h2 => ?_) <;> simp only [go_sem, Nat.reduceBEq, Nat.reduceEqDiff, Nat.reduceLT, Nat.reduceLeDiff, Nat.reduceAdd, Nat.reduceSub, Nat.reduceMul, reduceCtorEq, Int.reduceToNat, Int.reduceEq, Int.reduceLT, Int.reduceLE, Int.reduceNe, Int.reduceNeg, h2]
    · have h2' : ¬ stepsOk b.plates.length 0 (l.map Seen.step) = true := by simpa using h2
      have he : logE b l = 4 := by rw [logE, if_pos h0, hany, if_neg (by simp), if_neg h2']
      simp [logP, he, log0, Log.d]
    · have h2' : stepsOk b.plates.length 0 (l.map Seen.step) = true := by simpa using h2
      have he : logE b l = 0 := by rw [logE, if_pos h0, hany, if_neg (by simp), if_pos h2']
      simp [logP, he, Log.d]
end Go.Aw
end

section
set_option maxRecDepth 100000
namespace Go.Aw
open Go Go.Proofs.Try

/-- What a thing seen leaves of a plate's rust. -/
def narrow (p : Plate) (how loses : Int) (r : Sp) : Sp :=
  if how = 1 then ⟨max r.lo (loses + 1), r.hi⟩ else if how = 3 then ⟨r.lo, min r.hi (loses - p.thin - 1)⟩ else ⟨max r.lo (loses - p.thin), min r.hi loses⟩

def nowL (b : Bath) (l : List Sp) (p : Int) : Sp := l.getD p.toNat ⟨0, 0⟩

def rustsR (b : Bath) (str : Int) (w : Nat) : List Seen → Nat → Int → List Sp → Option (List Sp)
  | [], _, _, l => some l
  | s :: r, i, fell, l =>
    if w.testBit i = true then rustsR b str w r (i + 1) (fell + (b.pl s.step.plate).takes) l
    else if (narrow (b.pl s.step.plate) s.how (aft fell str * s.step.hours) (nowL b l s.step.plate)).lo > (narrow (b.pl s.step.plate) s.how (aft fell str * s.step.hours) (nowL b l s.step.plate)).hi then none
    else rustsR b str w r (i + 1) (fell + (b.pl s.step.plate).takes) (l.set s.step.plate.toNat (narrow (b.pl s.step.plate) s.how (aft fell str * s.step.hours) (nowL b l s.step.plate)))

def rustsP (x : Log) (str : Int) : Option (List Sp) := rustsR x.bath str x.without x.seen 0 0 (x.bath.plates.map Plate.rust)

def Log.Ok (x : Log) : Prop := x.bath.Ok ∧ x.seen.length ≤ 62 ∧ x.without < 2 ^ 62 ∧ ∀ s ∈ x.seen, (0 ≤ s.step.plate ∧ s.step.plate < x.bath.plates.length) ∧ 1 ≤ s.step.hours ∧ s.step.hours ≤ 24

def boxX (x : Log) : Blk := .cells [.d (.int .i64 x.bath.str.lo), .d (.int .i64 x.bath.str.hi), .d (.sl (x.bath.plates.map Plate.d)), .d (.sl (x.seen.map Seen.d)), .d (.int .i64 x.without)]

def rB (x : Log) (str : Int) : Heap := match rustsP x str with
  | none => []
  | some l => [boxX x, .arr 2 (decide (x.bath.plates.length = 0)) (l.map Sp.d)]

def rV (x : Log) (str : Int) : V := match rustsP x str with
  | none => .tup [.d (.sl []), .d (.bool false)]
  | some _ => .tup [.ref 1 x.bath.plates.length 0 x.bath.plates.length, .d (.bool true)]

theorem r115 {x : Log} (hok : x.Ok) {str : Int} (hs : 0 ≤ str ∧ str ≤ 40) : PCr prog 115 [.d x.d, .d (.int .i64 str)] (rB x str) (rV x str) := by
  refine PCr.of_body tt_ok (fn := f115) (rs := [.tmp 4, .tmp 5]) (rB x str).length rfl rfl rfl rfl rfl rfl ?_
  refine AWP.run (fun k => k == 4) tt_ok (fun _ h => nomatch h) (Nat.zero_le _) rfl ?_
  obtain ⟨hb, hl62, hw62, hst⟩ := hok
  have hb' := hb
  obtain ⟨s1, s2, s3, hb5, _⟩ := hb'
  simp only [go_sem, Nat.reduceBEq, Nat.reduceEqDiff, Nat.reduceLT, Nat.reduceLeDiff, Nat.reduceAdd, Nat.reduceSub, Nat.reduceMul, reduceCtorEq, Int.reduceToNat, Int.reduceEq, Int.reduceLT, Int.reduceLE, Int.reduceNe, Int.reduceNeg, Log.d]
  refine ALoop.by (S := Nat) (fun i => [(19, .d (.int .i64 i)), (18, .d (.int .i64 x.bath.plates.length)), (17, .d (.sl (x.bath.plates.map Plate.d))), (4, .ref 1 i 0 i), (2, .ptr 0 0), (1, .d (.int .i64 str))])
    (fun i => [boxX x, .arr 2 (decide (i = 0)) (((x.bath.plates.take i).map Plate.rust).map Sp.d)])
    (fun i => x.bath.plates.length - i) (fun i => i ≤ x.bath.plates.length) 0 (by simp) (fun _ h => nomatch h) (Nat.zero_le _) ?_ ?_
  · exact ForgetTo.same' (by simp) (by simp [EWe, Env.look]) (by simp [boxX])
  · rintro i hi hn
    refine AWP.run (fun k => k == 4) tt_ok (fun _ h => nomatch h) (by simp) rfl ?_
    simp only [go_sem, Nat.reduceBEq, Nat.reduceEqDiff, Nat.reduceLT, Nat.reduceLeDiff, Nat.reduceAdd, Nat.reduceSub, Nat.reduceMul, reduceCtorEq, Int.reduceToNat, Int.reduceEq, Int.reduceLT, Int.reduceLE, Int.reduceNe, Int.reduceNeg]
    refine Br_split (fun hd => ?_) (fun hd => ?_) <;> simp only [go_sem, Nat.reduceBEq, Nat.reduceEqDiff, Nat.reduceLT, Nat.reduceLeDiff, Nat.reduceAdd, Nat.reduceSub, Nat.reduceMul, reduceCtorEq, Int.reduceToNat, Int.reduceEq, Int.reduceLT, Int.reduceLE, Int.reduceNe, Int.reduceNeg, hd]
    · have hlt : i < x.bath.plates.length := by simpa using hd
      have hix : idx? (x.bath.plates.map Plate.d) (i : Int) = some (x.bath.plates[i]).d := by simp [idx?, List.getElem?_eq_getElem hlt]
      have hsc : ((x.bath.plates.take (i + 1)).map Plate.rust).map Sp.d = ((x.bath.plates.take i).map Plate.rust).map Sp.d ++ [x.bath.plates[i].rust.d] := by
        rw [List.take_add_one, List.getElem?_eq_getElem hlt, List.map_append, List.map_append]; rfl
      have hln : (((x.bath.plates.take i).map Plate.rust).map Sp.d).length = i := by simp; omega
      have hi1 : i + 1 ≤ 4294967296 := by omega
      generalize x.bath.plates[i] = p at hix hsc
      simp only [go_sem, Nat.reduceBEq, Nat.reduceEqDiff, Nat.reduceLT, Nat.reduceLeDiff, Nat.reduceAdd, Nat.reduceSub, Nat.reduceMul, reduceCtorEq, Int.reduceToNat, Int.reduceEq, Int.reduceLT, Int.reduceLE, Int.reduceNe, Int.reduceNeg, hix, Plate.d, hln, hi1, boxX]
      refine ⟨i + 1, hlt, by omega, ?_⟩
      refine ForgetTo.drop (H0 := [_, _]) (Y := [_]) (Nat.zero_le _) ?_ (by simp [BBs, BB, VBs, VB]) ?_
      · rw [hsc]; simp [Sp.d]
      · simp [EWp, Env.look, pubV, w64 (n := (i : Int) + 1) (by omega) (by omega)]
    · have hie : i = x.bath.plates.length := by simp at hd; omega
      subst hie
      rw [List.take_length]
      simp only [go_sem, Nat.reduceBEq, Nat.reduceEqDiff, Nat.reduceLT, Nat.reduceLeDiff, Nat.reduceAdd, Nat.reduceSub, Nat.reduceMul, reduceCtorEq, Int.reduceToNat, Int.reduceEq, Int.reduceLT, Int.reduceLE, Int.reduceNe, Int.reduceNeg, boxX]
      refine ALoop.by (S := Nat × List Sp × Int) (fun s => [(32, .d (.int .i64 s.1)), (31, .d (.int .i64 x.seen.length)), (30, .d (.sl (x.seen.map Seen.d))), (8, .d (.int .i64 s.2.2)), (4, .ref 1 x.bath.plates.length 0 x.bath.plates.length), (2, .ptr 0 0), (1, .d (.int .i64 str))])
        (fun s => [boxX x, .arr 2 (decide (x.bath.plates.length = 0)) (s.2.1.map Sp.d)])
        (fun s => x.seen.length - s.1) (fun s => s.1 ≤ x.seen.length ∧ s.2.1.length = x.bath.plates.length ∧ (0 ≤ s.2.2 ∧ s.2.2 ≤ 10 * s.1) ∧ rustsR x.bath str x.without (x.seen.drop s.1) s.1 s.2.2 s.2.1 = rustsP x str) (0, x.bath.plates.map Plate.rust, 0) (by simp) (fun _ h => nomatch h) ⟨Nat.zero_le _, by simp, by simp, rfl⟩ ?_ ?_
      · exact ForgetTo.same' (by simp) (by simp [EWe, Env.look]) (by simp [boxX])
      rintro ⟨i, l, fell⟩ ⟨hi, hll, hfe, hR⟩ hn2
      simp only at hi hll hfe hR hn2 ⊢
      refine AWP.run (fun k => k == 4) tt_ok (fun _ h => nomatch h) (by simp) rfl ?_
      simp only [go_sem, Nat.reduceBEq, Nat.reduceEqDiff, Nat.reduceLT, Nat.reduceLeDiff, Nat.reduceAdd, Nat.reduceSub, Nat.reduceMul, reduceCtorEq, Int.reduceToNat, Int.reduceEq, Int.reduceLT, Int.reduceLE, Int.reduceNe, Int.reduceNeg]
      refine Br_split (fun he => ?_) (fun he => ?_) <;> simp only [go_sem, Nat.reduceBEq, Nat.reduceEqDiff, Nat.reduceLT, Nat.reduceLeDiff, Nat.reduceAdd, Nat.reduceSub, Nat.reduceMul, reduceCtorEq, Int.reduceToNat, Int.reduceEq, Int.reduceLT, Int.reduceLE, Int.reduceNe, Int.reduceNeg, he]
      · have hlt : i < x.seen.length := by simpa using he
        have hix : idx? (x.seen.map Seen.d) (i : Int) = some (x.seen[i]).d := by simp [idx?, List.getElem?_eq_getElem hlt]
        obtain ⟨g1, g2⟩ := hst _ (List.getElem_mem hlt)
        rw [List.drop_eq_getElem_cons hlt] at hR
        generalize x.seen[i] = sn at hix g1 g2 hR
        obtain ⟨q, hq⟩ : ∃ q : Nat, sn.step.plate = q := ⟨sn.step.plate.toNat, by omega⟩
        have hqn : q < x.bath.plates.length := by omega
        have hat := Bath.at (b := x.bath) (p := sn.step.plate) g1
        have hpl := hb.pl sn.step.plate
        simp only [Plate.Ok] at hpl
        simp only [rustsR, nowL] at hR
        generalize x.bath.pl sn.step.plate = p at hat hpl hR
        rw [hq] at hat hR g1
        have hgd : l.getD q ⟨0, 0⟩ = l[q] := by rw [List.getD_eq_getElem?_getD, List.getElem?_eq_getElem (by omega), Option.getD_some]
        simp only [Int.toNat_natCast, hgd] at hR
        have hlq : l[q]? = some l[q] := List.getElem?_eq_getElem (by omega)
        generalize l[q] = r at hR hlq
        simp only [go_sem, Nat.reduceBEq, Nat.reduceEqDiff, Nat.reduceLT, Nat.reduceLeDiff, Nat.reduceAdd, Nat.reduceSub, Nat.reduceMul, reduceCtorEq, Int.reduceToNat, Int.reduceEq, Int.reduceLT, Int.reduceLE, Int.reduceNe, Int.reduceNeg, hix, Seen.d, boxX, hq, hat, Plate.d]
        have haf : 0 ≤ aft fell str ∧ aft fell str ≤ 40 := by simp only [aft]; omega
        have hmul : 0 ≤ aft fell str * sn.step.hours ∧ aft fell str * sn.step.hours ≤ 960 := by
          refine ⟨Int.mul_nonneg haf.1 (by omega), ?_⟩
          have := Int.mul_le_mul haf.2 g2.2 (by omega) (by omega : (0 : Int) ≤ 40)
          omega
        have hwm : IntKind.i64.wrap (aft fell str * sn.step.hours) = aft fell str * sn.step.hours := w64 (by omega) (by omega)
        have hwf : IntKind.i64.wrap (fell + p.takes) = fell + p.takes := w64 (by omega) (by omega)
        refine ADrw.treeG (fun k => k == 4) tt_ok (by kernel_rfl) (fun k => if k = 5 then some .L else some .S) (.ones [0, 1, 2, 3, 4, 5, 6, 7] .done) (by simp) (fun _ h => nomatch h) rfl rfl (by kernel_rfl) ?_
        simp only [go_sem, Nat.reduceBEq, Nat.reduceEqDiff, Nat.reduceLT, Nat.reduceLeDiff, Nat.reduceAdd, Nat.reduceSub, Nat.reduceMul, reduceCtorEq, Int.reduceToNat, Int.reduceEq, Int.reduceLT, Int.reduceLE, Int.reduceNe, Int.reduceNeg]
        refine (c106' (a := fell) (s := str) (by omega) (by omega)).callS rfl rfl rfl rfl rfl rfl ?_
        simp only [go_sem, Nat.reduceBEq, Nat.reduceEqDiff, Nat.reduceLT, Nat.reduceLeDiff, Nat.reduceAdd, Nat.reduceSub, Nat.reduceMul, reduceCtorEq, Int.reduceToNat, Int.reduceEq, Int.reduceLT, Int.reduceLE, Int.reduceNe, Int.reduceNeg, hwm]
        generalize aft fell str * sn.step.hours = loses at hR hmul
        have hw63 : x.without < 2 ^ 63 := by omega
        have hnx : IntKind.i64.wrap ((i : Int) + 1) = ((i + 1 : Nat) : Int) := w64 (by omega) (by omega)
        simp only [go_sem, Nat.reduceBEq, Nat.reduceEqDiff, Nat.reduceLT, Nat.reduceLeDiff, Nat.reduceAdd, Nat.reduceSub, Nat.reduceMul, reduceCtorEq, Int.reduceToNat, Int.reduceEq, Int.reduceLT, Int.reduceLE, Int.reduceNe, Int.reduceNeg, hwf, shrN x.without (show i < 64 by omega), and1N (shr_lt (p := i) hw63), bitN]
        refine Br_split (fun h1 => ?_) (fun h1 => ?_) <;> simp only [go_sem, Nat.reduceBEq, Nat.reduceEqDiff, Nat.reduceLT, Nat.reduceLeDiff, Nat.reduceAdd, Nat.reduceSub, Nat.reduceMul, reduceCtorEq, Int.reduceToNat, Int.reduceEq, Int.reduceLT, Int.reduceLE, Int.reduceNe, Int.reduceNeg, h1]
        · rw [if_pos h1] at hR
          refine ⟨(i + 1, l, fell + p.takes), ⟨hlt, hll, by simp only; omega, hR⟩, by simp only; omega, ?_⟩
          refine ForgetTo.drop (H0 := [_, _]) (Y := [_, _]) (Nat.zero_le _) rfl (by simp [BBs, BB, VBs, VB, boxX]) ?_
          simp [EWp, Env.look, pubV, hnx]
        · rw [if_neg (by rw [h1]; simp)] at hR
          have hlm : (l.map Sp.d)[q]? = some r.d := by rw [List.getElem?_map, hlq]; rfl
          have hlml : (l.map Sp.d).length = x.bath.plates.length := by simp [hll]
          have c1 : (0 : Int) ≤ (q : Int) := by omega
          have c2 : (q : Int) < (x.bath.plates.length : Int) := by omega
          simp only [go_sem, Nat.reduceBEq, Nat.reduceEqDiff, Nat.reduceLT, Nat.reduceLeDiff, Nat.reduceAdd, Nat.reduceSub, Nat.reduceMul, reduceCtorEq, Int.reduceToNat, Int.reduceEq, Int.reduceLT, Int.reduceLE, Int.reduceNe, Int.reduceNeg, hlm, hlml, c1, c2, Int.toNat_natCast, hll]
          have hgs : ∀ e : D, ((l.map Sp.d).set q e)[q]? = some e := fun e => List.getElem?_set_self (by simp; omega)
          have hls : ∀ e : D, ((l.map Sp.d).set q e).length = x.bath.plates.length := fun e => by simp [hll]
          have hss : ∀ e e' : D, ((l.map Sp.d).set q e).set q e' = (l.map Sp.d).set q e' := fun e e' => by simp
          have w1 : IntKind.i64.wrap (loses + 1) = loses + 1 := w64 (by omega) (by omega)
          have w2 : IntKind.i64.wrap (loses - p.thin) = loses - p.thin := w64 (by omega) (by omega)
          have w3 : IntKind.i64.wrap (loses - p.thin - 1) = loses - p.thin - 1 := w64 (by omega) (by omega)
          refine Br_split (fun h2 => ?_) (fun h2 => ?_) <;> simp only [go_sem, Nat.reduceBEq, Nat.reduceEqDiff, Nat.reduceLT, Nat.reduceLeDiff, Nat.reduceAdd, Nat.reduceSub, Nat.reduceMul, reduceCtorEq, Int.reduceToNat, Int.reduceEq, Int.reduceLT, Int.reduceLE, Int.reduceNe, Int.reduceNeg, h2, hlm, hlml, hgs, hls, hss, w1, Sp.d]
          · have h2' : sn.how = 1 := by simpa using h2
            have hN : narrow p sn.how loses r = ⟨max r.lo (loses + 1), r.hi⟩ := by simp [narrow, h2']
            rw [hN] at hR
            generalize max r.lo (loses + 1) = lo at hR
            generalize r.hi = hi' at hR
            refine ADrw.treeG (fun k => k == 4) tt_ok (by kernel_rfl) (fun k => if k = 3 ∨ k = 7 then some .L else some .S) (.ones [0, 1, 2, 3, 4, 5, 6, 7, 8] .done) (by simp) (fun _ h => nomatch h) rfl rfl (by kernel_rfl) ?_
            simp only [go_sem, Nat.reduceBEq, Nat.reduceEqDiff, Nat.reduceLT, Nat.reduceLeDiff, Nat.reduceAdd, Nat.reduceSub, Nat.reduceMul, reduceCtorEq, Int.reduceToNat, Int.reduceEq, Int.reduceLT, Int.reduceLE, Int.reduceNe, Int.reduceNeg, hgs, hls, hss]
            refine Br_split (fun h4 => ?_) (fun h4 => ?_) <;> simp only [go_sem, Nat.reduceBEq, Nat.reduceEqDiff, Nat.reduceLT, Nat.reduceLeDiff, Nat.reduceAdd, Nat.reduceSub, Nat.reduceMul, reduceCtorEq, Int.reduceToNat, Int.reduceEq, Int.reduceLT, Int.reduceLE, Int.reduceNe, Int.reduceNeg, h4, hgs, hls, hss]
            · have h5 : lo > hi' := by simpa using h4
              rw [if_pos h5] at hR
              have hB : rB x str = [] := by simp only [rB, ← hR]
              have hV : rV x str = .tup [.d (.sl []), .d (.bool false)] := by simp only [rV, ← hR]
              rw [hB, hV]
              simp only [go_sem, Nat.reduceBEq, Nat.reduceEqDiff, Nat.reduceLT, Nat.reduceLeDiff, Nat.reduceAdd, Nat.reduceSub, Nat.reduceMul, reduceCtorEq, Int.reduceToNat, Int.reduceEq, Int.reduceLT, Int.reduceLE, Int.reduceNe, Int.reduceNeg]
            · have h5 : ¬ lo > hi' := by simpa using h4
              rw [if_neg h5] at hR
              refine ⟨(i + 1, l.set q ⟨lo, hi'⟩, fell + p.takes), ⟨hlt, by simp [hll], by simp only; omega, hR⟩, by simp only; omega, ?_⟩
              refine ForgetTo.drop (H0 := [_, _]) (Y := [_, _]) (Nat.zero_le _) ?_ (by simp [BBs, BB, VBs, VB, boxX]) ?_
              · simp [boxX, List.map_set, Sp.d]
              · simp [EWp, Env.look, pubV, hnx]
          · have h2' : ¬ sn.how = 1 := by simpa using h2
            refine Br_split (fun h3 => ?_) (fun h3 => ?_) <;> simp only [go_sem, Nat.reduceBEq, Nat.reduceEqDiff, Nat.reduceLT, Nat.reduceLeDiff, Nat.reduceAdd, Nat.reduceSub, Nat.reduceMul, reduceCtorEq, Int.reduceToNat, Int.reduceEq, Int.reduceLT, Int.reduceLE, Int.reduceNe, Int.reduceNeg, h2, h3]
            · have h3' : sn.how = 3 := by simpa using h3
              refine ADrw.treeG (fun k => k == 4) tt_ok (by kernel_rfl) (fun k => if k = 4 ∨ k = 7 then some .L else if k = 13 then some .W else some .S) (.ones [0, 1, 2, 3, 4, 5, 6, 7, 8, 9, 10, 11, 12, 13] .done) (by simp) (fun _ h => nomatch h) rfl rfl (by kernel_rfl) ?_
              simp only [go_sem, Nat.reduceBEq, Nat.reduceEqDiff, Nat.reduceLT, Nat.reduceLeDiff, Nat.reduceAdd, Nat.reduceSub, Nat.reduceMul, reduceCtorEq, Int.reduceToNat, Int.reduceEq, Int.reduceLT, Int.reduceLE, Int.reduceNe, Int.reduceNeg, h2, hlm, hlml, hgs, hls, hss, w2, w3, Sp.d]
              have hN : narrow p sn.how loses r = ⟨r.lo, min r.hi (loses - p.thin - 1)⟩ := by simp [narrow, h2', h3']
              rw [hN] at hR
              generalize r.lo = lo at hR
              generalize min r.hi (loses - p.thin - 1) = hi' at hR
              refine ADrw.treeG (fun k => k == 4) tt_ok (by kernel_rfl) (fun k => if k = 3 ∨ k = 7 then some .L else some .S) (.ones [0, 1, 2, 3, 4, 5, 6, 7, 8] .done) (by simp) (fun _ h => nomatch h) rfl rfl (by kernel_rfl) ?_
              simp only [go_sem, Nat.reduceBEq, Nat.reduceEqDiff, Nat.reduceLT, Nat.reduceLeDiff, Nat.reduceAdd, Nat.reduceSub, Nat.reduceMul, reduceCtorEq, Int.reduceToNat, Int.reduceEq, Int.reduceLT, Int.reduceLE, Int.reduceNe, Int.reduceNeg, hgs, hls, hss]
              refine Br_split (fun h4 => ?_) (fun h4 => ?_) <;> simp only [go_sem, Nat.reduceBEq, Nat.reduceEqDiff, Nat.reduceLT, Nat.reduceLeDiff, Nat.reduceAdd, Nat.reduceSub, Nat.reduceMul, reduceCtorEq, Int.reduceToNat, Int.reduceEq, Int.reduceLT, Int.reduceLE, Int.reduceNe, Int.reduceNeg, h4, hgs, hls, hss]
              · have h5 : lo > hi' := by simpa using h4
                rw [if_pos h5] at hR
                have hB : rB x str = [] := by simp only [rB, ← hR]
                have hV : rV x str = .tup [.d (.sl []), .d (.bool false)] := by simp only [rV, ← hR]
                rw [hB, hV]
                simp only [go_sem, Nat.reduceBEq, Nat.reduceEqDiff, Nat.reduceLT, Nat.reduceLeDiff, Nat.reduceAdd, Nat.reduceSub, Nat.reduceMul, reduceCtorEq, Int.reduceToNat, Int.reduceEq, Int.reduceLT, Int.reduceLE, Int.reduceNe, Int.reduceNeg]
              · have h5 : ¬ lo > hi' := by simpa using h4
                rw [if_neg h5] at hR
                refine ⟨(i + 1, l.set q ⟨lo, hi'⟩, fell + p.takes), ⟨hlt, by simp [hll], by simp only; omega, hR⟩, by simp only; omega, ?_⟩
                refine ForgetTo.drop (H0 := [_, _]) (Y := [_, _]) (Nat.zero_le _) ?_ (by simp [BBs, BB, VBs, VB, boxX]) ?_
                · simp [boxX, List.map_set, Sp.d]
                · simp [EWp, Env.look, pubV, hnx]
            · have h3' : ¬ sn.how = 3 := by simpa using h3
              refine ADrw.treeG (fun k => k == 4) tt_ok (by kernel_rfl) (fun k => if k = 5 ∨ k = 8 ∨ k = 14 then some .L else if k = 19 ∨ k = 22 then some .W else some .S) (.ones [0, 1, 2, 3, 4, 5, 6, 7, 8, 9, 10, 11, 12, 13, 14, 15, 16, 17, 18, 19, 20, 21, 22] .done) (by simp) (fun _ h => nomatch h) rfl rfl (by kernel_rfl) ?_
              simp only [go_sem, Nat.reduceBEq, Nat.reduceEqDiff, Nat.reduceLT, Nat.reduceLeDiff, Nat.reduceAdd, Nat.reduceSub, Nat.reduceMul, reduceCtorEq, Int.reduceToNat, Int.reduceEq, Int.reduceLT, Int.reduceLE, Int.reduceNe, Int.reduceNeg, h2, hlm, hlml, hgs, hls, hss, w2, w3, Sp.d]
              have hN : narrow p sn.how loses r = ⟨max r.lo (loses - p.thin), min r.hi loses⟩ := by simp [narrow, h2', h3']
              rw [hN] at hR
              generalize max r.lo (loses - p.thin) = lo at hR
              generalize min r.hi loses = hi' at hR
              refine ADrw.treeG (fun k => k == 4) tt_ok (by kernel_rfl) (fun k => if k = 3 ∨ k = 7 then some .L else some .S) (.ones [0, 1, 2, 3, 4, 5, 6, 7, 8] .done) (by simp) (fun _ h => nomatch h) rfl rfl (by kernel_rfl) ?_
              simp only [go_sem, Nat.reduceBEq, Nat.reduceEqDiff, Nat.reduceLT, Nat.reduceLeDiff, Nat.reduceAdd, Nat.reduceSub, Nat.reduceMul, reduceCtorEq, Int.reduceToNat, Int.reduceEq, Int.reduceLT, Int.reduceLE, Int.reduceNe, Int.reduceNeg, hgs, hls, hss]
              refine Br_split (fun h4 => ?_) (fun h4 => ?_) <;> simp only [go_sem, Nat.reduceBEq, Nat.reduceEqDiff, Nat.reduceLT, Nat.reduceLeDiff, Nat.reduceAdd, Nat.reduceSub, Nat.reduceMul, reduceCtorEq, Int.reduceToNat, Int.reduceEq, Int.reduceLT, Int.reduceLE, Int.reduceNe, Int.reduceNeg, h4, hgs, hls, hss]
              · have h5 : lo > hi' := by simpa using h4
                rw [if_pos h5] at hR
                have hB : rB x str = [] := by simp only [rB, ← hR]
                have hV : rV x str = .tup [.d (.sl []), .d (.bool false)] := by simp only [rV, ← hR]
                rw [hB, hV]
                simp only [go_sem, Nat.reduceBEq, Nat.reduceEqDiff, Nat.reduceLT, Nat.reduceLeDiff, Nat.reduceAdd, Nat.reduceSub, Nat.reduceMul, reduceCtorEq, Int.reduceToNat, Int.reduceEq, Int.reduceLT, Int.reduceLE, Int.reduceNe, Int.reduceNeg]
              · have h5 : ¬ lo > hi' := by simpa using h4
                rw [if_neg h5] at hR
                refine ⟨(i + 1, l.set q ⟨lo, hi'⟩, fell + p.takes), ⟨hlt, by simp [hll], by simp only; omega, hR⟩, by simp only; omega, ?_⟩
                refine ForgetTo.drop (H0 := [_, _]) (Y := [_, _]) (Nat.zero_le _) ?_ (by simp [BBs, BB, VBs, VB, boxX]) ?_
                · simp [boxX, List.map_set, Sp.d]
                · simp [EWp, Env.look, pubV, hnx]
      · have hie : i = x.seen.length := by simp at he; omega
        subst hie
        rw [List.drop_eq_nil_of_le (Nat.le_refl _)] at hR
        simp only [rustsR] at hR
        have hB : rB x str = [boxX x, .arr 2 (decide (x.bath.plates.length = 0)) (l.map Sp.d)] := by simp only [rB, ← hR]
        have hV : rV x str = .tup [.ref 1 x.bath.plates.length 0 x.bath.plates.length, .d (.bool true)] := by simp only [rV, ← hR]
        rw [hB, hV]
        simp only [go_sem, Nat.reduceBEq, Nat.reduceEqDiff, Nat.reduceLT, Nat.reduceLeDiff, Nat.reduceAdd, Nat.reduceSub, Nat.reduceMul, reduceCtorEq, Int.reduceToNat, Int.reduceEq, Int.reduceLT, Int.reduceLE, Int.reduceNe, Int.reduceNeg, boxX, hll]

/-- What a function that leaves blocks of its own behind answers, as data. -/
theorem PC.of_r {P : Program} {f : FuncId} {vs : List V} {B : Heap} {v v' : V} (h : PCr P f vs B v) (hv : pubV 0 B v = some v') : PC P f vs v' := by
  refine ⟨h.1, fun g w cvs hr hvs => CallsIn.mono (h.2 g w cvs hr hvs) ?_⟩
  rintro e w' ⟨c, g', r, H', k1, ⟨rfl, rfl⟩, k3, k4, k5, k6⟩
  refine ⟨c, g'.pub 0, v', H'.take 0, k1, ⟨rfl, rfl⟩, pub_sound k4 _ _ _ hv k3, HR_pub k4 (Nat.zero_le _) (.inr trivial), k5.pub _, fun id x hx => by simp at hx⟩

def rustsV (x : Log) (str : Int) : V := match rustsP x str with
  | none => .tup [.d (.sl []), .d (.bool false)]
  | some l => .tup [.d (.sl (l.map Sp.d)), .d (.bool true)]

theorem rustsR_len (b : Bath) (str : Int) (w : Nat) : ∀ (l : List Seen) (i : Nat) (fell : Int) (r r' : List Sp), rustsR b str w l i fell r = some r' → r'.length = r.length
  | [], _, _, r, r', h => by simp only [rustsR, Option.some.injEq] at h; rw [h]
  | s :: l, i, fell, r, r', h => by
    simp only [rustsR] at h
    split at h
    · exact rustsR_len b str w l _ _ _ _ h
    · split at h
      · cases h
      · rw [rustsR_len b str w l _ _ _ _ h, List.length_set]

theorem rustsP_len {x : Log} {str : Int} {l : List Sp} (h : rustsP x str = some l) : l.length = x.bath.plates.length := by
  rw [rustsR_len _ _ _ _ _ _ _ _ h, List.length_map]

theorem c115 {x : Log} (hok : x.Ok) {str : Int} (hs : 0 ≤ str ∧ str ≤ 40) : PC prog 115 [.d x.d, .d (.int .i64 str)] (rustsV x str) := by
  refine PC.of_r (r115 hok hs) ?_
  cases h : rustsP x str with
  | none => simp only [rB, rV, rustsV, h]; rfl
  | some l =>
    have hl := rustsP_len h
    have htk : (l.map Sp.d).take x.bath.plates.length = l.map Sp.d := List.take_of_length_le (by simp [hl])
    simp [rB, rV, rustsV, h, pubV, pubVs, hl, htk]
end Go.Aw
end

section
set_option maxRecDepth 100000
namespace Go.Aw
open Go Go.Proofs.Try

abbrev ItemU := List V × Option (Nat × Blk)

theorem BBs_upd {n : Nat} {u : Option (Nat × Blk)} {H : Heap} (hu : uOk u H) (hb : BBs n H) : BBs n (upd u H) := by
  cases u with
  | none => exact hb
  | some p =>
    obtain ⟨i, x⟩ := p
    cases x with
    | arr sz nl els => exact BBs_set hb trivial
    | _ => exact hu.elim

theorem yield_frameU {yv : V} {n : Nat} {I : List ItemU → Heap → Prop} {Q : V → Heap → Prop} (hyv : VB n yv = true) (hI : ∀ l H, I l H → H.length = n ∧ BBs n H)
    (hy : ∀ a r H, I (a :: r) H → uOk a.2 H ∧ ACallV prog yv a.1 (upd a.2 H) (fun v H' => (v = .d (.bool true) ∧ I r H') ∨ (v = .d (.bool false) ∧ H'.length = n ∧ BBs n H' ∧ Q (.tup []) H')))
    {a : ItemU} {r : List ItemU} {H : Heap} (X : Heap) (ha : VBs n a.1 = true) (h : I (a :: r) H) :
    ACallV prog yv a.1 (upd a.2 H ++ X) (fun v H' => ∃ H1, H' = H1 ++ X ∧ H1.length = n ∧ BBs n H1 ∧ ((v = .d (.bool true) ∧ I r H1) ∨ (v = .d (.bool false) ∧ Q (.tup []) H1))) := by
  obtain ⟨hl, hb⟩ := hI _ _ h
  obtain ⟨hu, hc⟩ := hy _ _ _ h
  have hbu := BBs_upd hu hb
  have hlu : (upd a.2 H).length = n := by rw [upd_len, hl]
  refine (ACallV.frame (fun id x hx => BB_le (by omega) (BBs_get hbu id x hx)) (by rw [hlu]; exact hyv) (by rw [hlu]; exact ha) (fun v H' hv => ?_) hc).mono ?_
  · rcases hv with ⟨_, k⟩ | ⟨_, k, _⟩
    · rw [(hI _ _ k).1, hlu]
    · rw [k, hlu]
  · rintro v H' ⟨H1, rfl, ⟨k1, k2⟩ | ⟨k1, k2, k3, k4⟩⟩
    · exact ⟨H1, rfl, (hI _ _ k2).1, (hI _ _ k2).2, .inl ⟨k1, k2⟩⟩
    · exact ⟨H1, rfl, k2, k3, .inr ⟨k1, k4⟩⟩

/-- How many strengths there are. -/
def Log.N (x : Log) : Nat := (x.bath.str.hi + 1 - x.bath.str.lo).toNat

def itemAt (x : Log) (v : Nat → List Sp → V) (u : Nat → List Sp → Option (Nat × Blk)) (i : Nat) : Option ItemU :=
  (rustsP x (x.bath.str.lo + i)).map fun l => ([.d (.int .i64 (x.bath.str.lo + i)), v i l], u i l)

def itemsF (x : Log) (v : Nat → List Sp → V) (u : Nat → List Sp → Option (Nat × Blk)) : List ItemU := (List.range x.N).filterMap (itemAt x v u)

theorem c93 {x : Log} (hok : x.Ok) (v : Nat → List Sp → V) (u : Nat → List Sp → Option (Nat × Blk)) (hv : ∀ i l H, i < x.N → rustsP x (x.bath.str.lo + i) = some l → uOk (u i l) H → VB H.length (v i l) = true)
    (hcall : ∀ i l H Q, i < x.N → rustsP x (x.bath.str.lo + i) = some l → uOk (u i l) H → Q (.tup [v i l, .d (.bool true)]) (upd (u i l) H) → ACallV prog (.fn (.func 115) [] []) [.d x.d, .d (.int .i64 (x.bath.str.lo + i))] H Q) :
    IterU prog (.fn (.func 93) [.d x.d] []) (itemsF x v u) := by
  intro yv n I Q hf hyv hI hy hend H hH
  have hHl := (hI _ _ hH).1
  have hHb := (hI _ _ hH).2
  obtain ⟨f, y1, y2, rfl⟩ := hf
  have hok' := hok
  obtain ⟨hb, _, _, _⟩ := hok'
  obtain ⟨s1, s2, s3, hb5, _⟩ := hb
  have hN : (x.N : Int) = x.bath.str.hi + 1 - x.bath.str.lo := by simp only [Log.N]; omega
  refine ACallV.of rfl ?_
  refine ACalls.run (fun _ => false) tt_ok (fn := f93) (rs := []) rfl rfl rfl rfl rfl rfl rfl ?_
  simp only [go_sem, Nat.reduceBEq, Nat.reduceEqDiff, Nat.reduceLT, Nat.reduceLeDiff, Nat.reduceAdd, Nat.reduceSub, Nat.reduceMul, reduceCtorEq, Int.reduceToNat, Int.reduceEq, Int.reduceLT, Int.reduceLE, Int.reduceNe, Int.reduceNeg, hHl, hy0 hHl, Log.d]
  refine ALoop.by (S := Nat × Heap) (fun s => [(4, .d (.int .i64 (x.bath.str.lo + s.1))), (2, .ptr n 0), (1, .fn f y1 y2)])
    (fun s => s.2 ++ [boxX x]) (fun s => x.N - s.1)
    (fun s => s.1 ≤ x.N ∧ I (((List.range x.N).drop s.1).filterMap (itemAt x v u)) s.2) (0, H) (by simp) (fun _ h => nomatch h) ⟨Nat.zero_le _, hH⟩ ?_ ?_
  · exact ForgetTo.same' (by simp) (by simp [EWe, Env.look]) (by simp [boxX])
  rintro ⟨i, Hc⟩ ⟨hi, hI0⟩ hn'
  simp only at hi hI0 hn' ⊢
  have hcl := (hI _ _ hI0).1
  have hcb := (hI _ _ hI0).2
  refine AWP.run (fun _ => false) tt_ok (fun _ h => nomatch h) (by simp; omega) rfl ?_
  simp only [go_sem, Nat.reduceBEq, Nat.reduceEqDiff, Nat.reduceLT, Nat.reduceLeDiff, Nat.reduceAdd, Nat.reduceSub, Nat.reduceMul, reduceCtorEq, Int.reduceToNat, Int.reduceEq, Int.reduceLT, Int.reduceLE, Int.reduceNe, Int.reduceNeg, hy0 hcl, boxX]
  refine Br_split (fun hd => ?_) (fun hd => ?_) <;> simp only [go_sem, Nat.reduceBEq, Nat.reduceEqDiff, Nat.reduceLT, Nat.reduceLeDiff, Nat.reduceAdd, Nat.reduceSub, Nat.reduceMul, reduceCtorEq, Int.reduceToNat, Int.reduceEq, Int.reduceLT, Int.reduceLE, Int.reduceNe, Int.reduceNeg, hd]
  · have hlt : i < x.N := by simp at hd; omega
    have hstr : 0 ≤ x.bath.str.lo + i ∧ x.bath.str.lo + i ≤ 40 := by omega
    have hnx : IntKind.i64.wrap (x.bath.str.lo + i + 1) = x.bath.str.lo + ((i + 1 : Nat) : Int) := by rw [w64 (by omega) (by omega)]; omega
    simp only [go_sem, Nat.reduceBEq, Nat.reduceEqDiff, Nat.reduceLT, Nat.reduceLeDiff, Nat.reduceAdd, Nat.reduceSub, Nat.reduceMul, reduceCtorEq, Int.reduceToNat, Int.reduceEq, Int.reduceLT, Int.reduceLE, Int.reduceNe, Int.reduceNeg, hy0 hcl, boxX]
    have hdr : (List.range x.N).drop i = i :: (List.range x.N).drop (i + 1) := by rw [List.drop_eq_getElem_cons (by simpa using hlt), List.getElem_range]
    rw [hdr] at hI0
    cases h : rustsP x (x.bath.str.lo + i) with
    | none =>
      have hit : itemAt x v u i = none := by simp only [itemAt, h]; rfl
      rw [List.filterMap_cons_none hit] at hI0
      refine (c115 hok hstr).call rfl rfl (by simp only [rustsV, h]; rfl) ?_
      simp only [rustsV, h, go_sem, Nat.reduceBEq, Nat.reduceEqDiff, Nat.reduceLT, Nat.reduceLeDiff, Nat.reduceAdd, Nat.reduceSub, Nat.reduceMul, reduceCtorEq, Int.reduceToNat, Int.reduceEq, Int.reduceLT, Int.reduceLE, Int.reduceNe, Int.reduceNeg, hy0 hcl, boxX]
      refine ⟨(i + 1, Hc), ⟨hlt, hI0⟩, by simp only; omega, ?_⟩
      exact ForgetTo.same' (by simp; omega) (by simp [EWe, Env.look, hnx]) (by simp [boxX])
    | some l =>
      have hit : itemAt x v u i = some ([.d (.int .i64 (x.bath.str.lo + i)), v i l], u i l) := by simp only [itemAt, h]; rfl
      rw [List.filterMap_cons_some hit] at hI0
      have hu : uOk (u i l) Hc := (hy _ _ _ hI0).1
      refine hcall i l _ _ hlt h (uOk_append _ hu) ?_
      have hul : (upd (u i l) Hc).length = n := by rw [upd_len, hcl]
      rw [upd_append _ hu]
      simp only [go_sem, Nat.reduceBEq, Nat.reduceEqDiff, Nat.reduceLT, Nat.reduceLeDiff, Nat.reduceAdd, Nat.reduceSub, Nat.reduceMul, reduceCtorEq, Int.reduceToNat, Int.reduceEq, Int.reduceLT, Int.reduceLE, Int.reduceNe, Int.reduceNeg, hy0 hul, boxX]
      have hvb := hv i l Hc hlt h hu
      rw [hcl] at hvb
      refine (yield_frameU hyv hI hy [.cells [.d (.int .i64 x.bath.str.lo), .d (.int .i64 x.bath.str.hi), .d (.sl (x.bath.plates.map Plate.d)), .d (.sl (x.seen.map Seen.d)), .d (.int .i64 x.without)]] (by simp [VBs, VB, hvb]) hI0).mono ?_
      rintro w H' ⟨H1, rfl, k1, k2, k3⟩
      rcases k3 with ⟨rfl, k3⟩ | ⟨rfl, k3⟩
      · simp only [go_sem, Nat.reduceBEq, Nat.reduceEqDiff, Nat.reduceLT, Nat.reduceLeDiff, Nat.reduceAdd, Nat.reduceSub, Nat.reduceMul, reduceCtorEq, Int.reduceToNat, Int.reduceEq, Int.reduceLT, Int.reduceLE, Int.reduceNe, Int.reduceNeg, hy0 k1]
        refine ⟨(i + 1, H1), ⟨hlt, k3⟩, by simp only; omega, ?_⟩
        exact ForgetTo.same' (by simp; omega) (by simp [EWe, Env.look, hnx]) (by simp [boxX])
      · simp only [go_sem, Nat.reduceBEq, Nat.reduceEqDiff, Nat.reduceLT, Nat.reduceLeDiff, Nat.reduceAdd, Nat.reduceSub, Nat.reduceMul, reduceCtorEq, Int.reduceToNat, Int.reduceEq, Int.reduceLT, Int.reduceLE, Int.reduceNe, Int.reduceNeg, hHl, htk k1]
        exact ⟨.inr k2, k3⟩
  · have hie : i = x.N := by simp at hd; omega
    rw [List.drop_eq_nil_of_le (by simp; omega)] at hI0
    simp only [go_sem, Nat.reduceBEq, Nat.reduceEqDiff, Nat.reduceLT, Nat.reduceLeDiff, Nat.reduceAdd, Nat.reduceSub, Nat.reduceMul, reduceCtorEq, Int.reduceToNat, Int.reduceEq, Int.reduceLT, Int.reduceLE, Int.reduceNe, Int.reduceNeg, hHl, htk hcl]
    exact ⟨.inr hcb, hend _ hI0⟩
end Go.Aw
end

section
set_option maxRecDepth 100000
namespace Go.Aw
open Go Go.Proofs.Try

def both (a b : Sp) : Sp := ⟨min a.lo b.lo, max a.hi b.hi⟩

theorem both_self (a : Sp) : both a a = a := by simp [both]

theorem c94 (a b : Sp) : PC prog 94 [.d a.d, .d b.d] (.d (both a b).d) := by
  refine PC.run (fun _ => false) tt_ok (fn := f94) (rs := [.cell 4 23]) rfl rfl rfl rfl rfl rfl rfl ?_
  simp only [go_sem, Nat.reduceBEq, Nat.reduceEqDiff, Nat.reduceLT, Nat.reduceLeDiff, Nat.reduceAdd, Nat.reduceSub, Nat.reduceMul, reduceCtorEq, Int.reduceToNat, Int.reduceEq, Int.reduceLT, Int.reduceLE, Int.reduceNe, Int.reduceNeg, Sp.d, both]

/-- What can have been, in order. -/
def canL (x : Log) : List (Nat × List Sp) := (List.range x.N).filterMap fun i : Nat => (rustsP x (x.bath.str.lo + i)).map fun l => ((i : Nat), l)

def mixR (r l : List Sp) (p : Nat) : List Sp := (List.zipWith both r l).take p ++ r.drop p

theorem mixR_zero (r l : List Sp) : mixR r l 0 = r := by simp [mixR]
theorem mixR_self (l : List Sp) (p : Nat) : mixR l l p = l := by
  have : List.zipWith both l l = l := by
    induction l with
    | nil => rfl
    | cons a r ih => simp only [List.zipWith_cons_cons, both_self, ih]
  rw [mixR, this, List.take_append_drop]
theorem mixR_len {r l : List Sp} (h : l.length = r.length) {p : Nat} (hp : p ≤ r.length) : (mixR r l p).length = r.length := by
  simp [mixR, h]; omega
theorem mixR_get {r l : List Sp} (h : l.length = r.length) {p : Nat} (hp : p < r.length) : (mixR r l p)[p]? = some r[p] := by
  have : ((List.zipWith both r l).take p).length = p := by simp [h]; omega
  rw [mixR, List.getElem?_append_right (by omega), this, Nat.sub_self, List.getElem?_drop, Nat.add_zero, List.getElem?_eq_getElem hp]
theorem mixR_set {r l : List Sp} (h : l.length = r.length) {p : Nat} (hp : p < r.length) : (mixR r l p).set p (both r[p] l[p]) = mixR r l (p + 1) := by
  have h1 : ((List.zipWith both r l).take p).length = p := by simp [h]; omega
  rw [mixR, List.set_append_right _ _ (by omega), h1, Nat.sub_self, List.drop_eq_getElem_cons hp, List.set_cons_zero, mixR, List.take_succ_eq_append_getElem (by simp [h]; omega), List.append_assoc]
  simp
theorem mixR_end {r l : List Sp} (h : l.length = r.length) : mixR r l r.length = List.zipWith both r l := by
  rw [mixR, List.drop_length, List.append_nil, List.take_of_length_le (by simp [h])]

/-- What was: where its row is, the least and the greatest strength, all rusts. -/
def wasS : Option (Nat × Nat × List Sp) → Nat × List Sp → Option (Nat × Nat × List Sp)
  | none, (i, l) => some (i, i, l)
  | some (k, _, r), (i, l) => some (k, i, List.zipWith both r l)

def wasO (x : Log) : Option (Nat × Nat × List Sp) := (canL x).foldl wasS none

def wasV (b : Bath) (l : List Seen) : V :=
  if logE b l = 0 then (match wasO ⟨b, l, 0⟩ with | none => .tup [.d sp0.d, .slx (some true) [], .d (.int .i64 9)] | some (k, h, r) => .tup [.d (Sp.mk (b.str.lo + k) (b.str.lo + h)).d, .d (.sl (r.map Sp.d)), .d (.int .i64 0)]) else .tup [.d sp0.d, .slx (some true) [], .d (.int .i64 (logE b l))]

theorem logP_ok {b : Bath} {l : List Seen} (hl : l.length ≤ 62) (h : logE b l = 0) : b.Ok ∧ (∀ w, w < 2 ^ 62 → (Log.mk b l w).Ok) := by
  unfold logE at h
  split at h
  · rename_i h0
    split at h
    · cases h
    · split at h
      · rename_i h2
        refine ⟨checkP_iff.1 h0, fun w hw => ⟨checkP_iff.1 h0, hl, hw, fun s hs => stepsOk_mem h2 s.step (List.mem_map.2 ⟨s, hs, rfl⟩)⟩⟩
      · cases h
  · rename_i h0; exact absurd h h0

def isArr : Blk → Bool
  | .arr _ _ _ => true
  | _ => false

theorem BBs_arr {n : Nat} : ∀ {l : List Blk}, (∀ x ∈ l, isArr x = true) → BBs n l
  | [], _ => trivial
  | .arr _ _ _ :: _, h => ⟨trivial, BBs_arr fun x hx => h x (List.mem_cons_of_mem _ hx)⟩
  | .cells c :: _, h => by have := h (.cells c) List.mem_cons_self; cases this
  | .loop a b c d e f :: _, h => by have := h (.loop a b c d e f) List.mem_cons_self; cases this
  | .obj o :: _, h => by have := h (.obj o) List.mem_cons_self; cases this

def rowV (n i : Nat) : V := if n = 0 then .d (.sl []) else .ref (i + 5) n 0 n

def rowU (n i : Nat) (l : List Sp) : Option (Nat × Blk) := if n = 0 then none else some (i + 5, .arr 2 false (l.map Sp.d))

def itemI (b : Bath) (p : Nat × List Sp) : ItemU := ([.d (.int .i64 (b.str.lo + p.1)), rowV b.plates.length p.1], rowU b.plates.length p.1 p.2)

/-- The heap of Was. -/
def hW (b : Bath) (l : List Seen) (lo hi : Int) (rv : V) (e : Int) (rows : Heap) : Heap :=
  .cells [.d (.int .i64 b.str.lo), .d (.int .i64 b.str.hi), .d (.sl (b.plates.map Plate.d))] :: .cells [.d (.int .i64 lo), .d (.int .i64 hi)] :: .cells [rv] :: .cells [.d (.int .i64 e)] ::
    .cells [.d (.int .i64 b.str.lo), .d (.int .i64 b.str.hi), .d (.sl (b.plates.map Plate.d)), .d (.sl (l.map Seen.d)), .d (.int .i64 0)] :: rows

def hS (b : Bath) (l : List Seen) : Option (Nat × Nat × List Sp) → Heap → Heap
  | none, rows => hW b l 0 0 (.slx (some true) []) 9 rows
  | some (k, h, _), rows => hW b l (b.str.lo + k) (b.str.lo + h) (rowV b.plates.length k) 0 rows

/-- What holds of Was's rows. -/
structure JW (b : Bath) (m : Nat) (q : List (Nat × List Sp)) (st : Option (Nat × Nat × List Sp)) (rows : Heap) : Prop where
  len : rows.length = m
  arr : ∀ x ∈ rows, isArr x = true
  due : ∀ p ∈ q, p.1 < m ∧ p.2.length = b.plates.length ∧ (b.plates.length ≠ 0 → rows[p.1]? = some (.arr 2 true []))
  pw : q.Pairwise (fun a c => a.1 ≠ c.1)
  cur : ∀ k h r, st = some (k, h, r) → k < m ∧ r.length = b.plates.length ∧ (∀ p ∈ q, p.1 ≠ k) ∧ (b.plates.length ≠ 0 → rows[k]? = some (.arr 2 false (r.map Sp.d)))

theorem JW.next {b : Bath} {m i : Nat} {now : List Sp} {q' : List (Nat × List Sp)} {st : Option (Nat × Nat × List Sp)} {rows : Heap} (hJ : JW b m ((i, now) :: q') st rows) {k h : Nat} {r : List Sp} {rows2 : Heap} (hl : rows2.length = m) (ha : ∀ x ∈ rows2, isArr x = true) (hk : k < m)
    (hr : r.length = b.plates.length) (hq : ∀ p ∈ q', p.1 ≠ k) (hrow : b.plates.length ≠ 0 → rows2[k]? = some (.arr 2 false (r.map Sp.d))) (ho : ∀ j, j ≠ i → j ≠ k → rows2[j]? = rows[j]?) : JW b m q' (some (k, h, r)) rows2 where
  len := hl
  arr := ha
  due := fun p hp => by
    obtain ⟨h1, h2, h3⟩ := hJ.due p (List.mem_cons_of_mem _ hp)
    refine ⟨h1, h2, fun hn => ?_⟩
    rw [ho p.1 (fun e => (List.pairwise_cons.1 hJ.pw).1 p hp e.symm) (hq p hp)]
    exact h3 hn
  pw := (List.pairwise_cons.1 hJ.pw).2
  cur := fun k' h' r' e => by
    cases e
    exact ⟨hk, hr, hq, hrow⟩

theorem canL_pw (x : Log) : (canL x).Pairwise (fun a c => a.1 ≠ c.1) := by
  refine List.Pairwise.filterMap _ (R := fun a c : Nat => a ≠ c) ?_ List.nodup_range
  intro a c hac p hp p' hp' he
  simp only [Option.map_eq_some_iff] at hp hp'
  obtain ⟨l, _, rfl⟩ := hp
  obtain ⟨l', _, rfl⟩ := hp'
  exact hac he

theorem canL_mem {x : Log} {p : Nat × List Sp} (h : p ∈ canL x) : p.1 < x.N ∧ p.2.length = x.bath.plates.length := by
  simp only [canL, List.mem_filterMap, Option.map_eq_some_iff] at h
  obtain ⟨i, hi, l, hl, rfl⟩ := h
  exact ⟨by simpa using hi, rustsP_len hl⟩

theorem items_can (x : Log) : itemsF x (fun i _ => rowV x.bath.plates.length i) (rowU x.bath.plates.length) = (canL x).map (itemI x.bath) := by
  simp only [itemsF, canL, List.map_filterMap]
  congr 1
  funext i
  simp only [itemAt, Option.map_map]
  rfl

theorem c49 (b : Bath) (l : List Seen) (hb : b.plates.length ≤ 4294967296) (hl : l.length ≤ 62) : PC prog 49 [.d b.d, .d (.sl (l.map Seen.d))] (wasV b l) := by
  refine PC.run (fun _ => false) tt_ok (fn := f49) (rs := [.cell 4 23, .cell 5 32, .cell 6 30]) rfl rfl rfl rfl rfl rfl rfl ?_
  simp only [go_sem, Nat.reduceBEq, Nat.reduceEqDiff, Nat.reduceLT, Nat.reduceLeDiff, Nat.reduceAdd, Nat.reduceSub, Nat.reduceMul, reduceCtorEq, Int.reduceToNat, Int.reduceEq, Int.reduceLT, Int.reduceLE, Int.reduceNe, Int.reduceNeg, Bath.d]
  refine (c92 b l hb (by omega)).call rfl rfl rfl ?_
  simp only [go_sem, Nat.reduceBEq, Nat.reduceEqDiff, Nat.reduceLT, Nat.reduceLeDiff, Nat.reduceAdd, Nat.reduceSub, Nat.reduceMul, reduceCtorEq, Int.reduceToNat, Int.reduceEq, Int.reduceLT, Int.reduceLE, Int.reduceNe, Int.reduceNeg, Bath.d, Log.d]
  refine Br_split (fun hc => ?_) (fun hc => ?_) <;> simp only [go_sem, Nat.reduceBEq, Nat.reduceEqDiff, Nat.reduceLT, Nat.reduceLeDiff, Nat.reduceAdd, Nat.reduceSub, Nat.reduceMul, reduceCtorEq, Int.reduceToNat, Int.reduceEq, Int.reduceLT, Int.reduceLE, Int.reduceNe, Int.reduceNeg, hc]
  · have h0 : ¬ logE b l = 0 := by simpa using hc
    refine ADrw.treeG (fun _ => false) tt_ok (by kernel_rfl) (fun k => if k = 0 ∨ k = 1 then some .L else if k = 2 ∨ k = 3 ∨ k = 4 then some .W else some .S) (.ones [0] (.two 1 (.ones [2, 3, 4] .done) 2 (.two 1 (.ones [3, 4] .done) 3 (.ones [1, 4] .done)))) (by simp) (fun _ h => nomatch h) rfl rfl (by kernel_rfl) ?_
    simp only [go_sem, Nat.reduceBEq, Nat.reduceEqDiff, Nat.reduceLT, Nat.reduceLeDiff, Nat.reduceAdd, Nat.reduceSub, Nat.reduceMul, reduceCtorEq, Int.reduceToNat, Int.reduceEq, Int.reduceLT, Int.reduceLE, Int.reduceNe, Int.reduceNeg]
    simp [wasV, h0, sp0, Sp.d]
  have h0 : logE b l = 0 := by simpa using hc
  have hlp : logP b l = ⟨b, l, 0⟩ := by rw [logP, if_pos h0]
  rw [hlp]
  obtain ⟨hbo, hxo⟩ := logP_ok hl h0
  have hok := hxo 0 (by omega)
  simp only [go_sem, Nat.reduceBEq, Nat.reduceEqDiff, Nat.reduceLT, Nat.reduceLeDiff, Nat.reduceAdd, Nat.reduceSub, Nat.reduceMul, reduceCtorEq, Int.reduceToNat, Int.reduceEq, Int.reduceLT, Int.reduceLE, Int.reduceNe, Int.reduceNeg]
  refine (AWP.newrows 2 (Log.mk b l 0).N (Nat.zero_le _) ?_ : AWP _ _ _ _ _ _ _ _)
  change AWP _ _ _ _ _ _ (hS b l none (List.replicate (Log.mk b l 0).N (.arr 2 true []))) _
  have hm5 : ∀ st rows, rows.length = (Log.mk b l 0).N → (hS b l st rows).length = (Log.mk b l 0).N + 5 := fun st rows h => by cases st <;> simp [hS, hW, h]
  have hlen0 : (hS b l none (List.replicate (Log.mk b l 0).N (.arr 2 true []))).length = (Log.mk b l 0).N + 5 := hm5 _ _ (by simp)
  refine ARng.iterU (items := (canL ⟨b, l, 0⟩).map (itemI b)) (J := fun rest Hc => ∃ q st rows, rest = q.map (itemI b) ∧ Hc = hS b l st rows ∧ JW b (Log.mk b l 0).N q st rows ∧ q.foldl wasS st = wasO ⟨b, l, 0⟩)
    (Nat.zero_le _) (fun _ h => nomatch h) rfl ?_ rfl (by rw [hlen0]; simp [VBs, VB]) ?_ ?_ ?_ ?_ ?_ ?_
  · refine cast (congrArg _ (items_can ⟨b, l, 0⟩)) (c93 hok _ _ ?_ ?_)
    · intro i r H hi hr hu
      simp only [rowV]
      split
      · rfl
      · rename_i hn
        simp only [rowU, if_neg hn] at hu
        simpa [VB] using uOk_lt hu
    · intro i r H Q hi hr hu hq
      have hstr : 0 ≤ b.str.lo + i ∧ b.str.lo + i ≤ 40 := by
        obtain ⟨s1, s2, s3, _, _⟩ := hbo
        simp only [Log.N] at hi
        omega
      have hrl := rustsP_len hr
      by_cases hn : b.plates.length = 0
      · have hr0 : r = [] := List.length_eq_zero_iff.1 (by rw [hrl]; exact hn)
        simp only [rowV, rowU, if_pos hn, upd] at hq
        refine (c115 hok hstr).call rfl rfl (by simp only [rustsV, hr]; rfl) ?_
        simp only [rustsV, hr, hr0, List.map_nil]
        exact hq
      · simp only [rowV, rowU, if_neg hn, upd] at hq hu
        have hr1 := r115 hok hstr
        have hB : rB ⟨b, l, 0⟩ (b.str.lo + i) = [boxX ⟨b, l, 0⟩] ++ [.arr 2 false (r.map Sp.d)] := by simp only [rB, hr, hn, decide_false]; rfl
        have hV : rV ⟨b, l, 0⟩ (b.str.lo + i) = .tup [.ref 1 b.plates.length 0 b.plates.length, .d (.bool true)] := by simp only [rV, hr]
        rw [hB, hV] at hr1
        exact PCr.into hr1 hu.1 hu.2 rfl rfl rfl hq
  · rintro rest Hc ⟨q, st, rows, rfl, rfl, hJ, _⟩
    refine ⟨?_, ?_⟩
    · rw [hm5 _ _ hJ.len, hlen0]
    · rw [hlen0]
      have hba : ∀ k, BBs k rows := fun k => BBs_arr hJ.arr
      cases st with
      | none => simp [hS, hW, BBs, BB, VBs, VB, hba]
      | some p =>
        obtain ⟨k, h, r⟩ := p
        have hk := (hJ.cur k h r rfl).1
        have hv : VB ((Log.mk b l 0).N + 5) (rowV b.plates.length k) = true := by
          simp only [rowV]
          split
          · rfl
          · simp [VB, hk]
        simp [hS, hW, BBs, BB, VBs, VB, hba, hv]
  · refine ⟨canL ⟨b, l, 0⟩, none, List.replicate (Log.mk b l 0).N (.arr 2 true []), rfl, rfl, ⟨by simp, fun x hx => by rw [List.eq_of_mem_replicate hx]; rfl, fun p hp => ?_, canL_pw _, fun k h r he => by cases he⟩, rfl⟩
    obtain ⟨h1, h2⟩ := canL_mem hp
    exact ⟨h1, h2, fun _ => by rw [List.getElem?_replicate, if_pos h1]⟩
  · rintro Hc ⟨q, st, rows, hq, rfl, hJ, hfo⟩
    obtain rfl : q = [] := by simpa using hq.symm
    simp only [List.foldl_nil] at hfo
    subst hfo
    simp only [go_sem, Nat.reduceBEq, Nat.reduceEqDiff, Nat.reduceLT, Nat.reduceLeDiff, Nat.reduceAdd, Nat.reduceSub, Nat.reduceMul, reduceCtorEq, Int.reduceToNat, Int.reduceEq, Int.reduceLT, Int.reduceLE, Int.reduceNe, Int.reduceNeg]
    refine ADrw.treeG (fun _ => false) tt_ok (by kernel_rfl) (fun k => if k = 0 ∨ k = 1 ∨ k = 2 then some .L else if k = 3 ∨ k = 4 ∨ k = 5 then some .W else some .S)
      (.ones [0] (.three 1 (.two 2 (.ones [3, 4, 5] .done) 3 (.two 2 (.ones [4, 5] .done) 4 (.ones [2, 5] .done))) 2 (.two 1 (.ones [3, 4, 5] .done) 3 (.ones [1, 4, 5] .done)) 3 (.two 1 (.two 2 (.ones [4, 5] .done) 4 (.ones [2, 5] .done)) 2 (.ones [1, 4, 5] .done)))) (Nat.zero_le _) (fun _ h => nomatch h) rfl rfl (by kernel_rfl) ?_
    cases hw : wasO ⟨b, l, 0⟩ with
    | none =>
      simp only [go_sem, Nat.reduceBEq, Nat.reduceEqDiff, Nat.reduceLT, Nat.reduceLeDiff, Nat.reduceAdd, Nat.reduceSub, Nat.reduceMul, reduceCtorEq, Int.reduceToNat, Int.reduceEq, Int.reduceLT, Int.reduceLE, Int.reduceNe, Int.reduceNeg, hS, hW]
      simp [wasV, h0, hw, sp0, Sp.d]
    | some p =>
      obtain ⟨k, h, r⟩ := p
      obtain ⟨k1, k2, k3, k4⟩ := hJ.cur k h r hw
      by_cases hn : b.plates.length = 0
      · have hr0 : r = [] := List.length_eq_zero_iff.1 (by omega)
        simp only [go_sem, Nat.reduceBEq, Nat.reduceEqDiff, Nat.reduceLT, Nat.reduceLeDiff, Nat.reduceAdd, Nat.reduceSub, Nat.reduceMul, reduceCtorEq, Int.reduceToNat, Int.reduceEq, Int.reduceLT, Int.reduceLE, Int.reduceNe, Int.reduceNeg, hS, hW, rowV, if_pos hn]
        simp [wasV, h0, hw, hr0, Sp.d]
      · have hk4 := k4 hn
        have htk : (r.map Sp.d).take b.plates.length = r.map Sp.d := List.take_of_length_le (by simp [k2])
        simp only [go_sem, Nat.reduceBEq, Nat.reduceEqDiff, Nat.reduceLT, Nat.reduceLeDiff, Nat.reduceAdd, Nat.reduceSub, Nat.reduceMul, reduceCtorEq, Int.reduceToNat, Int.reduceEq, Int.reduceLT, Int.reduceLE, Int.reduceNe, Int.reduceNeg, hS, hW, rowV, if_neg hn, hk4, k2, htk, List.length_map, Nat.not_lt_zero]
        simp [wasV, h0, hw, Sp.d]
  · intro xs has
    obtain ⟨p, _, rfl⟩ := List.mem_map.1 has
    rfl
  · rintro xs rest Hc has ⟨q, st, rows, hq, rfl, hJ, hfo⟩
    obtain ⟨p, q', rfl⟩ : ∃ p q', q = p :: q' := by cases q with
      | nil => cases hq
      | cons p r => exact ⟨p, r, rfl⟩
    obtain ⟨rfl, rfl⟩ : xs = itemI b p ∧ rest = q'.map (itemI b) := by simpa using hq
    obtain ⟨k1, k2, k3⟩ := hJ.due p List.mem_cons_self
    simp only [itemI, rowU]
    split
    · trivial
    · rename_i hn
      refine ⟨?_, fun e => hn (by rw [← k2]; simpa using e)⟩
      have := k3 hn
      cases st <;> simpa [hS, hW] using this
  · rintro L L' xs rest Hc has ⟨q, st, rows, hq, rfl, hJ, hfo⟩
    obtain ⟨p, q', rfl⟩ : ∃ p q', q = p :: q' := by cases q with
      | nil => cases hq
      | cons p r => exact ⟨p, r, rfl⟩
    obtain ⟨rfl, rfl⟩ : xs = itemI b p ∧ rest = q'.map (itemI b) := by simpa using hq
    obtain ⟨i, now⟩ := p
    obtain ⟨k1, k2, k3⟩ := hJ.due (i, now) List.mem_cons_self
    simp only at k1 k2 k3
    rw [hlen0]
    refine AWP.run (fun _ => false) tt_ok (fun _ h => by cases h; exact Nat.lt_succ_self _) ?_ rfl ?_
    · simp only [itemI, List.length_append, upd_len, hm5 st rows hJ.len, List.length_singleton]
      exact Nat.le_refl _
    -- the row that was filled
    obtain ⟨rows1, hr1, hr1l, hr1a, hr1i, hr1o⟩ : ∃ rows1, upd (itemI b (i, now)).2 (hS b l st rows) = hS b l st rows1 ∧ rows1.length = (Log.mk b l 0).N ∧ (∀ x ∈ rows1, isArr x = true) ∧ (b.plates.length ≠ 0 → rows1[i]? = some (.arr 2 false (now.map Sp.d))) ∧ (∀ j, j ≠ i → rows1[j]? = rows[j]?) := by
      by_cases hn : b.plates.length = 0
      · exact ⟨rows, by simp only [itemI, rowU, if_pos hn, upd], hJ.len, hJ.arr, fun h => absurd hn h, fun _ _ => rfl⟩
      · refine ⟨rows.set i (.arr 2 false (now.map Sp.d)), ?_, by simp [hJ.len], fun x hx => ?_, fun _ => ?_, fun j hj => ?_⟩
        · simp only [itemI, rowU, if_neg hn, upd]
          cases st <;> rfl
        · rcases List.mem_or_eq_of_mem_set hx with hx | rfl
          · exact hJ.arr x hx
          · rfl
        · rw [List.getElem?_set_self (by rw [hJ.len]; exact k1)]
        · rw [List.getElem?_set_ne (fun e => hj e.symm)]
    rw [hr1]
    simp only [go_sem, Nat.reduceBEq, Nat.reduceEqDiff, Nat.reduceLT, Nat.reduceLeDiff, Nat.reduceAdd, Nat.reduceSub, Nat.reduceMul, reduceCtorEq, Int.reduceToNat, Int.reduceEq, Int.reduceLT, Int.reduceLE, Int.reduceNe, Int.reduceNeg, itemI]
    have hL : (hS b l st rows1 ++ [L])[(Log.mk b l 0).N + 5]? = some L := by rw [List.getElem?_append_right (by rw [hm5 _ _ hr1l]; exact Nat.le_refl _), hm5 _ _ hr1l, Nat.sub_self]; rfl
    refine ⟨hL, ?_⟩
    have hset : (hS b l st rows1 ++ [L]).set ((Log.mk b l 0).N + 5) L' = hS b l st rows1 ++ [L'] := by rw [List.set_append_right _ _ (by rw [hm5 _ _ hr1l]; exact Nat.le_refl _), hm5 _ _ hr1l, Nat.sub_self]; rfl
    rw [hset]
    generalize (Log.mk b l 0).N = m at *
    have hnB : b.plates.length ≤ 5 := hbo.2.2.2.1
    refine AWP.run (fun _ => false) tt_ok (fun _ h => by cases h; omega) (by rw [List.length_append, hm5 _ _ hr1l]; exact Nat.le_refl _) rfl ?_
    simp only [List.foldl_cons] at hfo
    have hpw' := hJ.pw
    rw [List.pairwise_cons] at hpw'
    have hnx : ∀ p : Nat, p < 10 → IntKind.i64.wrap ((p : Int) + 1) = ((p + 1 : Nat) : Int) := fun p hp => w64 (by omega) (by omega)
    have hgm : ∀ rows2 : Heap, rows2.length = m → (rows2 ++ [L'])[m]? = some L' := fun rows2 h => by rw [List.getElem?_append_right (by omega), h, Nat.sub_self]; rfl
    have hgr : ∀ (rows2 : Heap) (j : Nat), rows2.length = m → j < m → (rows2 ++ [L'])[j]? = rows2[j]? := fun rows2 j h hj => List.getElem?_append_left (by omega)
    have hsr : ∀ (rows2 : Heap) (j : Nat) (X : Blk), rows2.length = m → j < m → (rows2 ++ [L']).set j X = rows2.set j X ++ [L'] := fun rows2 j X h hj => List.set_append_left _ _ (by omega)
    have htk : ∀ rows2 : Heap, rows2.length = m → (rows2 ++ [L']).take m = rows2 := fun rows2 h => by rw [← h]; simp
    cases st with
    | none =>
      by_cases hn : b.plates.length = 0
      · have hnow : now = [] := List.length_eq_zero_iff.1 (by omega)
        simp only [go_sem, Nat.reduceBEq, Nat.reduceEqDiff, Nat.reduceLT, Nat.reduceLeDiff, Nat.reduceAdd, Nat.reduceSub, Nat.reduceMul, reduceCtorEq, Int.reduceToNat, Int.reduceEq, Int.reduceLT, Int.reduceLE, Int.reduceNe, Int.reduceNeg, hS, hW, rowV, if_pos hn]
        refine ALoop.by (S := Nat) (fun p => [(35, .d (.int .i64 p)), (34, .d (.int .i64 0)), (6, .ptr 3 0), (5, .ptr 2 0), (4, .ptr 1 0)])
          (fun _ => hW b l (b.str.lo + i) (b.str.lo + i) (.d (.sl [])) 0 (rows1 ++ [L'])) (fun p => 0) (fun p => True) 0 (by simp [hr1l]) (fun _ h => by cases h; omega) trivial ?_ ?_
        · exact ForgetTo.same' (by simp [hr1l]) (by simp [EWe, Env.look]) (by simp [hW])
        rintro p hp hn2
        refine AWP.run (fun _ => false) tt_ok (fun _ h => by cases h; omega) hn2 rfl ?_
        have hd : decide ((p : Int) < 0) = false := by simp
        simp only [go_sem, Nat.reduceBEq, Nat.reduceEqDiff, Nat.reduceLT, Nat.reduceLeDiff, Nat.reduceAdd, Nat.reduceSub, Nat.reduceMul, reduceCtorEq, Int.reduceToNat, Int.reduceEq, Int.reduceLT, Int.reduceLE, Int.reduceNe, Int.reduceNeg, hd, hW, hgm _ hr1l, htk _ hr1l]
        refine ⟨BBs_arr hr1a, q', some (i, i, now), rows1, rfl, rfl, hJ.next hr1l hr1a k1 k2 (fun p hp e => hpw'.1 p hp e.symm) hr1i (fun j h1 _ => hr1o j h1), hfo⟩
      · have hgi : (rows1 ++ [L'])[i]? = some (.arr 2 false (now.map Sp.d)) := by rw [hgr _ _ hr1l k1]; exact hr1i hn
        simp only [go_sem, Nat.reduceBEq, Nat.reduceEqDiff, Nat.reduceLT, Nat.reduceLeDiff, Nat.reduceAdd, Nat.reduceSub, Nat.reduceMul, reduceCtorEq, Int.reduceToNat, Int.reduceEq, Int.reduceLT, Int.reduceLE, Int.reduceNe, Int.reduceNeg, hS, hW, rowV, if_neg hn, hgi, List.length_map, k2]
        refine ALoop.by (S := Nat) (fun p => [(35, .d (.int .i64 p)), (34, .d (.int .i64 b.plates.length)), (9, .ref (i + 5) b.plates.length 0 b.plates.length), (6, .ptr 3 0), (5, .ptr 2 0), (4, .ptr 1 0)])
          (fun _ => hW b l (b.str.lo + i) (b.str.lo + i) (.ref (i + 5) b.plates.length 0 b.plates.length) 0 (rows1 ++ [L'])) (fun p => b.plates.length - p) (fun p => p ≤ b.plates.length) 0 (by simp [hr1l]) (fun _ h => by cases h; omega) (Nat.zero_le _) ?_ ?_
        · exact ForgetTo.same' (by simp [hr1l]) (by simp [EWe, Env.look]) (by simp [hW])
        rintro p hp hn2
        refine AWP.run (fun _ => false) tt_ok (fun _ h => by cases h; omega) hn2 rfl ?_
        simp only [go_sem, Nat.reduceBEq, Nat.reduceEqDiff, Nat.reduceLT, Nat.reduceLeDiff, Nat.reduceAdd, Nat.reduceSub, Nat.reduceMul, reduceCtorEq, Int.reduceToNat, Int.reduceEq, Int.reduceLT, Int.reduceLE, Int.reduceNe, Int.reduceNeg]
        refine Br_split (fun hd => ?_) (fun hd => ?_) <;> simp only [go_sem, Nat.reduceBEq, Nat.reduceEqDiff, Nat.reduceLT, Nat.reduceLeDiff, Nat.reduceAdd, Nat.reduceSub, Nat.reduceMul, reduceCtorEq, Int.reduceToNat, Int.reduceEq, Int.reduceLT, Int.reduceLE, Int.reduceNe, Int.reduceNeg, hd]
        · have hlt : p < b.plates.length := by simpa using hd
          have hge : (now.map Sp.d)[p]? = some (now[p]).d := by rw [List.getElem?_map, List.getElem?_eq_getElem (by omega)]; rfl
          have hse : (now.map Sp.d).set p (now[p]).d = now.map Sp.d := by
            rw [← List.map_set]; congr 1; exact List.set_getElem_self _
          have hsb : (rows1 ++ [L']).set i (.arr 2 false (now.map Sp.d)) = rows1 ++ [L'] := set_same hgi
          generalize now[p] = a at hge hse
          have c1 : (0 : Int) ≤ (p : Int) := by omega
          have c2 : (p : Int) < (b.plates.length : Int) := by omega
          simp only [go_sem, Nat.reduceBEq, Nat.reduceEqDiff, Nat.reduceLT, Nat.reduceLeDiff, Nat.reduceAdd, Nat.reduceSub, Nat.reduceMul, reduceCtorEq, Int.reduceToNat, Int.reduceEq, Int.reduceLT, Int.reduceLE, Int.reduceNe, Int.reduceNeg, hW]
          refine ADrw.treeG (fun _ => false) tt_ok (by kernel_rfl) (fun k => if k = 0 ∨ k = 2 ∨ k = 4 ∨ k = 5 ∨ k = 8 ∨ k = 9 ∨ k = 11 then some .L else if k = 12 then some .W else some .S) (.ones [0, 1, 2, 3, 4, 5, 6, 7, 8, 9, 10, 11, 12] .done) (by simp [hr1l]) (fun _ h => by cases h; omega) rfl rfl (by kernel_rfl) ?_
          simp only [go_sem, Nat.reduceBEq, Nat.reduceEqDiff, Nat.reduceLT, Nat.reduceLeDiff, Nat.reduceAdd, Nat.reduceSub, Nat.reduceMul, reduceCtorEq, Int.reduceToNat, Int.reduceEq, Int.reduceLT, Int.reduceLE, Int.reduceNe, Int.reduceNeg, hgi, hge, List.length_map, k2, c1, c2, Int.toNat_natCast, Sp.d]
          refine (c94 a a).callS rfl rfl rfl rfl rfl rfl ?_
          rw [both_self]
          have hse' : (now.map Sp.d).set p (.agg [.int .i64 a.lo, .int .i64 a.hi]) = now.map Sp.d := hse
          simp only [go_sem, Nat.reduceBEq, Nat.reduceEqDiff, Nat.reduceLT, Nat.reduceLeDiff, Nat.reduceAdd, Nat.reduceSub, Nat.reduceMul, reduceCtorEq, Int.reduceToNat, Int.reduceEq, Int.reduceLT, Int.reduceLE, Int.reduceNe, Int.reduceNeg, hgi, hge, List.length_map, k2, c1, c2, Int.toNat_natCast, Sp.d, hsb, hse']
          refine ⟨p + 1, hlt, by omega, ?_⟩
          exact ForgetTo.same' (by simp [hr1l]) (by simp [EWe, Env.look, hnx p (by omega)]) (by simp [hW, hsb])
        · have hpe : p = b.plates.length := by simp at hd; omega
          simp only [go_sem, Nat.reduceBEq, Nat.reduceEqDiff, Nat.reduceLT, Nat.reduceLeDiff, Nat.reduceAdd, Nat.reduceSub, Nat.reduceMul, reduceCtorEq, Int.reduceToNat, Int.reduceEq, Int.reduceLT, Int.reduceLE, Int.reduceNe, Int.reduceNeg, hW, hgm _ hr1l, htk _ hr1l]
          refine ⟨⟨by omega, BBs_arr hr1a⟩, q', some (i, i, now), rows1, rfl, rfl, hJ.next hr1l hr1a k1 k2 (fun p hp e => hpw'.1 p hp e.symm) hr1i (fun j h1 _ => hr1o j h1), hfo⟩
    | some st0 =>
      obtain ⟨k, h, r⟩ := st0
      obtain ⟨j1, j2, j3, j4⟩ := hJ.cur k h r rfl
      have hik : i ≠ k := j3 (i, now) List.mem_cons_self
      by_cases hn : b.plates.length = 0
      · have hnow : now = [] := List.length_eq_zero_iff.1 (by omega)
        have hr : r = [] := List.length_eq_zero_iff.1 (by omega)
        subst hnow
        subst hr
        simp only [go_sem, Nat.reduceBEq, Nat.reduceEqDiff, Nat.reduceLT, Nat.reduceLeDiff, Nat.reduceAdd, Nat.reduceSub, Nat.reduceMul, reduceCtorEq, Int.reduceToNat, Int.reduceEq, Int.reduceLT, Int.reduceLE, Int.reduceNe, Int.reduceNeg, hS, hW, rowV, if_pos hn]
        refine ALoop.by (S := Nat) (fun p => [(35, .d (.int .i64 p)), (34, .d (.int .i64 0)), (6, .ptr 3 0), (5, .ptr 2 0), (4, .ptr 1 0)])
          (fun _ => hW b l (b.str.lo + k) (b.str.lo + i) (.d (.sl [])) 0 (rows1 ++ [L'])) (fun p => 0) (fun p => True) 0 (by simp [hr1l]) (fun _ h => by cases h; omega) trivial ?_ ?_
        · exact ForgetTo.same' (by simp [hr1l]) (by simp [EWe, Env.look]) (by simp [hW])
        rintro p hp hn2
        refine AWP.run (fun _ => false) tt_ok (fun _ h => by cases h; omega) hn2 rfl ?_
        have hd : decide ((p : Int) < 0) = false := by simp
        simp only [go_sem, Nat.reduceBEq, Nat.reduceEqDiff, Nat.reduceLT, Nat.reduceLeDiff, Nat.reduceAdd, Nat.reduceSub, Nat.reduceMul, reduceCtorEq, Int.reduceToNat, Int.reduceEq, Int.reduceLT, Int.reduceLE, Int.reduceNe, Int.reduceNeg, hd, hW, hgm _ hr1l, htk _ hr1l]
        refine ⟨BBs_arr hr1a, q', some (k, i, []), rows1, rfl, by simp only [hS, hW, rowV, if_pos hn], hJ.next hr1l hr1a j1 j2 (fun p hp => j3 p (List.mem_cons_of_mem _ hp)) (fun h => absurd hn h) (fun j h1 _ => hr1o j h1), hfo⟩
      · have hrk : rows1[k]? = some (.arr 2 false (r.map Sp.d)) := by rw [hr1o k (fun e => hik e.symm)]; exact j4 hn
        have hlr : now.length = r.length := by omega
        have hgi : (rows1 ++ [L'])[i]? = some (.arr 2 false (now.map Sp.d)) := by rw [hgr _ _ hr1l k1]; exact hr1i hn
        simp only [go_sem, Nat.reduceBEq, Nat.reduceEqDiff, Nat.reduceLT, Nat.reduceLeDiff, Nat.reduceAdd, Nat.reduceSub, Nat.reduceMul, reduceCtorEq, Int.reduceToNat, Int.reduceEq, Int.reduceLT, Int.reduceLE, Int.reduceNe, Int.reduceNeg, hS, hW, rowV, if_neg hn, hgi, List.length_map, k2]
        refine ALoop.by (S := Nat) (fun p => [(35, .d (.int .i64 p)), (34, .d (.int .i64 b.plates.length)), (9, .ref (i + 5) b.plates.length 0 b.plates.length), (6, .ptr 3 0), (5, .ptr 2 0), (4, .ptr 1 0)])
          (fun p => hW b l (b.str.lo + k) (b.str.lo + i) (.ref (k + 5) b.plates.length 0 b.plates.length) 0 (rows1.set k (.arr 2 false ((mixR r now p).map Sp.d)) ++ [L'])) (fun p => b.plates.length - p) (fun p => p ≤ b.plates.length) 0 (by simp [hr1l]) (fun _ h => by cases h; omega) (Nat.zero_le _) ?_ ?_
        · exact ForgetTo.same' (by simp [hr1l]) (by simp [EWe, Env.look]) (by rw [mixR_zero, set_same hrk]; simp [hW])
        rintro p hp hn2
        have hrpl : (rows1.set k (.arr 2 false ((mixR r now p).map Sp.d))).length = m := by simp [hr1l]
        refine AWP.run (fun _ => false) tt_ok (fun _ h => by cases h; omega) hn2 rfl ?_
        simp only [go_sem, Nat.reduceBEq, Nat.reduceEqDiff, Nat.reduceLT, Nat.reduceLeDiff, Nat.reduceAdd, Nat.reduceSub, Nat.reduceMul, reduceCtorEq, Int.reduceToNat, Int.reduceEq, Int.reduceLT, Int.reduceLE, Int.reduceNe, Int.reduceNeg]
        refine Br_split (fun hd => ?_) (fun hd => ?_) <;> simp only [go_sem, Nat.reduceBEq, Nat.reduceEqDiff, Nat.reduceLT, Nat.reduceLeDiff, Nat.reduceAdd, Nat.reduceSub, Nat.reduceMul, reduceCtorEq, Int.reduceToNat, Int.reduceEq, Int.reduceLT, Int.reduceLE, Int.reduceNe, Int.reduceNeg, hd]
        · have hlt : p < b.plates.length := by simpa using hd
          have hgk : (rows1.set k (.arr 2 false ((mixR r now p).map Sp.d)) ++ [L'])[k]? = some (.arr 2 false ((mixR r now p).map Sp.d)) := by rw [hgr _ _ hrpl j1, List.getElem?_set_self (by omega)]
          have hgi2 : (rows1.set k (.arr 2 false ((mixR r now p).map Sp.d)) ++ [L'])[i]? = some (.arr 2 false (now.map Sp.d)) := by rw [hgr _ _ hrpl k1, List.getElem?_set_ne (fun e => hik e.symm)]; exact hr1i hn
          have hge : (now.map Sp.d)[p]? = some (now[p]).d := by rw [List.getElem?_map, List.getElem?_eq_getElem (by omega)]; rfl
          have hgf : ((mixR r now p).map Sp.d)[p]? = some (r[p]).d := by rw [List.getElem?_map, mixR_get hlr (by omega)]; rfl
          have hml : (mixR r now p).length = b.plates.length := by rw [mixR_len hlr (by omega)]; exact j2
          have hse : ((mixR r now p).map Sp.d).set p (both r[p] now[p]).d = (mixR r now (p + 1)).map Sp.d := by rw [← List.map_set, mixR_set hlr (by omega)]
          have hsb : ∀ X : Blk, (rows1.set k (.arr 2 false ((mixR r now p).map Sp.d)) ++ [L']).set k X = rows1.set k X ++ [L'] := fun X => by rw [hsr _ _ _ hrpl j1, List.set_set]
          generalize now[p] = a at hge hse
          generalize r[p] = a2 at hgf hse
          have c1 : (0 : Int) ≤ (p : Int) := by omega
          have c2 : (p : Int) < (b.plates.length : Int) := by omega
          simp only [go_sem, Nat.reduceBEq, Nat.reduceEqDiff, Nat.reduceLT, Nat.reduceLeDiff, Nat.reduceAdd, Nat.reduceSub, Nat.reduceMul, reduceCtorEq, Int.reduceToNat, Int.reduceEq, Int.reduceLT, Int.reduceLE, Int.reduceNe, Int.reduceNeg, hW]
          refine ADrw.treeG (fun _ => false) tt_ok (by kernel_rfl) (fun k => if k = 0 ∨ k = 2 ∨ k = 4 ∨ k = 5 ∨ k = 8 ∨ k = 9 ∨ k = 11 then some .L else if k = 12 then some .W else some .S) (.ones [0, 1, 2, 3, 4, 5, 6, 7, 8, 9, 10, 11, 12] .done) (by simp [hr1l]) (fun _ h => by cases h; omega) rfl rfl (by kernel_rfl) ?_
          simp only [go_sem, Nat.reduceBEq, Nat.reduceEqDiff, Nat.reduceLT, Nat.reduceLeDiff, Nat.reduceAdd, Nat.reduceSub, Nat.reduceMul, reduceCtorEq, Int.reduceToNat, Int.reduceEq, Int.reduceLT, Int.reduceLE, Int.reduceNe, Int.reduceNeg, hgi2, hgk, hge, hgf, hml, List.length_map, k2, c1, c2, Int.toNat_natCast, Sp.d]
          refine (c94 a2 a).callS rfl rfl rfl rfl rfl rfl ?_
          have hse' : ((mixR r now p).map Sp.d).set p (.agg [.int .i64 (both a2 a).lo, .int .i64 (both a2 a).hi]) = (mixR r now (p + 1)).map Sp.d := hse
          simp only [go_sem, Nat.reduceBEq, Nat.reduceEqDiff, Nat.reduceLT, Nat.reduceLeDiff, Nat.reduceAdd, Nat.reduceSub, Nat.reduceMul, reduceCtorEq, Int.reduceToNat, Int.reduceEq, Int.reduceLT, Int.reduceLE, Int.reduceNe, Int.reduceNeg, hgi2, hgk, hge, hgf, hml, List.length_map, k2, c1, c2, Int.toNat_natCast, Sp.d, hsb, hse']
          refine ⟨p + 1, hlt, by omega, ?_⟩
          exact ForgetTo.same' (by simp [hr1l]) (by simp [EWe, Env.look, hnx p (by omega)]) (by simp [hW, hsb])
        · have hpe : p = b.plates.length := by simp at hd; omega
          have hme : mixR r now p = List.zipWith both r now := by rw [hpe, ← j2, mixR_end hlr]
          have hzl : (List.zipWith both r now).length = b.plates.length := by simp [hlr, j2]
          rw [hme] at hrpl ⊢
          simp only [go_sem, Nat.reduceBEq, Nat.reduceEqDiff, Nat.reduceLT, Nat.reduceLeDiff, Nat.reduceAdd, Nat.reduceSub, Nat.reduceMul, reduceCtorEq, Int.reduceToNat, Int.reduceEq, Int.reduceLT, Int.reduceLE, Int.reduceNe, Int.reduceNeg, hW, hgm _ hrpl, htk _ hrpl]
          refine ⟨⟨by omega, BBs_arr (fun x hx => ?_)⟩, q', some (k, i, List.zipWith both r now), _, rfl, by simp only [hS, hW, rowV, if_neg hn], hJ.next hrpl (fun x hx => ?_) j1 hzl (fun p hp => j3 p (List.mem_cons_of_mem _ hp)) (fun _ => List.getElem?_set_self (by omega)) (fun j h1 h2 => ?_), hfo⟩
          · rcases List.mem_or_eq_of_mem_set hx with hx | rfl
            · exact hr1a x hx
            · rfl
          · rcases List.mem_or_eq_of_mem_set hx with hx | rfl
            · exact hr1a x hx
            · rfl
          · rw [List.getElem?_set_ne (fun e => h2 e.symm)]; exact hr1o j h1
end Go.Aw
end

section
set_option maxRecDepth 100000
namespace Go.Aw
open Go Go.Proofs.Try

/-- All sets of so many numbers, from some of them on: the next k numbers from n on may be in it. -/
def subsF (many : Nat) : Nat → List Nat → Nat → Nat → List (List Nat × Nat)
  | 0, _, _, _ => []
  | k + 1, l, set, n => (if (l ++ [n]).length = many then [(l ++ [n], set ||| 2 ^ n)] else subsF many k (l ++ [n]) (set ||| 2 ^ n) (n + 1)) ++ subsF many k l set (n + 1)

def onF' (many k : Nat) (l : List Nat) (set n : Nat) : List (List Nat × Nat) := if l.length = many then [(l, set)] else subsF many k l set n

theorem subsF_succ (many k : Nat) (l : List Nat) (set n : Nat) : subsF many (k + 1) l set n = onF' many k (l ++ [n]) (set ||| 2 ^ n) (n + 1) ++ subsF many k l set (n + 1) := rfl

def setsP (below many : Nat) : List (List Nat × Nat) := onF' many below [] 0 0

def setI (p : List Nat × Nat) : List V := [.d (.sl (natsD p.1)), .d (.int .i64 p.2)]

def setV (below many : Nat) : V := .fn (.func 116) [] [.pp [.int .i64 many], .pp [.int .i64 below]]

theorem c95 (below many : Nat) : PC prog 95 [.d (.int .i64 below), .d (.int .i64 many)] (setV below many) := by
  refine PC.run (fun _ => false) tt_ok (fn := f95) (rs := [.tmp 4]) rfl rfl rfl rfl rfl rfl rfl ?_
  simp only [go_sem, Nat.reduceBEq, Nat.reduceEqDiff, Nat.reduceLT, Nat.reduceLeDiff, Nat.reduceAdd, Nat.reduceSub, Nat.reduceMul, reduceCtorEq, Int.reduceToNat, Int.reduceEq, Int.reduceLT, Int.reduceLE, Int.reduceNe, Int.reduceNeg, setV]

section
variable {yv : V} {n : Nat} {I : List (List V) → Heap → Prop} {Q : V → Heap → Prop} {below many : Nat}

def onW (n below many : Nat) : V := .fn (.func 117) [] [.pp [.int .i64 many], .ptr n 0, .pp [.int .i64 below], .ptr (n + 1) 0]

def SPost (yv : V) (n below many : Nat) (I : List (List V) → Heap → Prop) (Q : V → Heap → Prop) (rest : List (List V)) (v : V) (H' : Heap) : Prop :=
  ∃ H1, H' = H1 ++ [.cells [yv], .cells [onW n below many]] ∧ H1.length = n ∧ BBs n H1 ∧ ((v = .d (.bool true) ∧ I rest H1) ∨ (v = .d (.bool false) ∧ Q (.tup []) H1))

theorem c117 (hb : below ≤ 60) (hf : ∃ f x y, yv = .fn f x y) (hyv : VB n yv = true) (hI : ∀ l H, I l H → H.length = n ∧ BBs n H)
    (hy : ∀ a r H, I (a :: r) H → ACallV prog yv a H (fun v H' => (v = .d (.bool true) ∧ I r H') ∨ (v = .d (.bool false) ∧ H'.length = n ∧ BBs n H' ∧ Q (.tup []) H'))) :
    ∀ (k : Nat) (l : List Nat) (set first : Nat) (rest : List (List V)) (H : Heap), first + k = below → l.length ≤ first → set < 2 ^ first → I ((onF' many k l set first).map setI ++ rest) H →
      ACalls prog 117 [.d (.sl (natsD l)), .d (.int .i64 set), .d (.int .i64 first), .pp [.int .i64 many], .ptr n 0, .pp [.int .i64 below], .ptr (n + 1) 0] (H ++ [.cells [yv], .cells [onW n below many]]) (SPost yv n below many I Q rest) := by
  obtain ⟨f, x, y, rfl⟩ := hf
  intro k
  induction k using Nat.strongRecOn with
  | ind k ih =>
    intro l set first rest H hk hlf hset hi
    have hHl := (hI _ _ hi).1
    have hHb := (hI _ _ hi).2
    have hyn : ∀ H1 : Heap, H1.length = n → BBs n H1 → BBs (n + 2) (H1 ++ [.cells [.fn f x y], .cells [onW n below many]]) := fun H1 h1 h2 =>
      BBs_append (BBs_le (by omega) h2) ⟨by simp only [BB, VBs, Bool.and_true]; exact VB_le (by omega) _ hyv, by simp [BB, VBs, VB, onW], trivial⟩
    have hl62 : l.length ≤ 60 := by omega
    have hs62 : set < 2 ^ 62 := Nat.lt_of_lt_of_le hset (Nat.pow_le_pow_right (by omega) (by omega))
    refine ACalls.run (fun _ => false) tt_ok (fn := f117) (rs := [.tmp 10]) rfl rfl rfl rfl rfl rfl rfl ?_
    have hHn : (H ++ [Blk.cells [.fn f x y], Blk.cells [onW n below many]]).length = n + 2 := by simp [hHl]
    simp only [go_sem, Nat.reduceBEq, Nat.reduceEqDiff, Nat.reduceLT, Nat.reduceLeDiff, Nat.reduceAdd, Nat.reduceSub, Nat.reduceMul, reduceCtorEq, Int.reduceToNat, Int.reduceEq, Int.reduceLT, Int.reduceLE, Int.reduceNe, Int.reduceNeg, hyl hHl, natsD_len]
    rw [hHn]
    refine Br_split (fun hc => ?_) (fun hc => ?_) <;> simp only [go_sem, Nat.reduceBEq, Nat.reduceEqDiff, Nat.reduceLT, Nat.reduceLeDiff, Nat.reduceAdd, Nat.reduceSub, Nat.reduceMul, reduceCtorEq, Int.reduceToNat, Int.reduceEq, Int.reduceLT, Int.reduceLE, Int.reduceNe, Int.reduceNeg, hyl hHl, hc, hy0 hHl]
    · have hlm : l.length = many := by simp only [decide_eq_true_eq] at hc; omega
      rw [onF', if_pos hlm] at hi
      refine (yield_frame hyv hI hy (r := rest) [.cells [.fn f x y], .cells [onW n below many]] rfl hi).mono ?_
      rintro v H' ⟨H1, rfl, k1, k2, k3⟩
      have ht : (H1 ++ [Blk.cells [V.fn f x y], Blk.cells [onW n below many]]).take (n + 2) = H1 ++ [Blk.cells [V.fn f x y], Blk.cells [onW n below many]] := List.take_of_length_le (by simp [k1])
      rcases k3 with ⟨rfl, k3⟩ | ⟨rfl, k3⟩
      · simp only [go_sem, Nat.reduceBEq, Nat.reduceEqDiff, Nat.reduceLT, Nat.reduceLeDiff, Nat.reduceAdd, Nat.reduceSub, Nat.reduceMul, reduceCtorEq, Int.reduceToNat, Int.reduceEq, Int.reduceLT, Int.reduceLE, Int.reduceNe, Int.reduceNeg, ht, hHl]
        exact ⟨.inr (hyn H1 k1 k2), H1, rfl, k1, k2, .inl ⟨rfl, k3⟩⟩
      · simp only [go_sem, Nat.reduceBEq, Nat.reduceEqDiff, Nat.reduceLT, Nat.reduceLeDiff, Nat.reduceAdd, Nat.reduceSub, Nat.reduceMul, reduceCtorEq, Int.reduceToNat, Int.reduceEq, Int.reduceLT, Int.reduceLE, Int.reduceNe, Int.reduceNeg, ht, hHl]
        exact ⟨.inr (hyn H1 k1 k2), H1, rfl, k1, k2, .inr ⟨rfl, k3⟩⟩
    · have hlm : ¬ l.length = many := by simp only [decide_eq_false_iff_not] at hc; omega
      rw [onF', if_neg hlm] at hi
      refine ALoop.by (S := Nat × Heap) (fun s => [(11, .d (.int .i64 (first + s.1 : Nat))), (6, .ptr (n + 1) 0), (5, .pp [.int .i64 below]), (4, .ptr n 0), (3, .pp [.int .i64 many]), (1, .d (.int .i64 set)), (0, .d (.sl (natsD l)))])
        (fun s => s.2 ++ [.cells [.fn f x y], .cells [onW n below many]]) (fun s => k - s.1) (fun s => s.1 ≤ k ∧ I ((subsF many (k - s.1) l set (first + s.1)).map setI ++ rest) s.2) (0, H) (by simp [hHl]) (fun _ h => nomatch h) ⟨Nat.zero_le _, hi⟩ ?_ ?_
      · exact ForgetTo.same' (by simp [hHl]) (by simp [EWe, Env.look]) (by simp)
      rintro ⟨j, Hc⟩ ⟨hj, hI0⟩ hn2
      simp only at hj hI0 hn2 ⊢
      have hcl := (hI _ _ hI0).1
      have hcb := (hI _ _ hI0).2
      refine AWP.run (fun _ => false) tt_ok (fun _ h => nomatch h) (by simp [hcl]) rfl ?_
      simp only [go_sem, Nat.reduceBEq, Nat.reduceEqDiff, Nat.reduceLT, Nat.reduceLeDiff, Nat.reduceAdd, Nat.reduceSub, Nat.reduceMul, reduceCtorEq, Int.reduceToNat, Int.reduceEq, Int.reduceLT, Int.reduceLE, Int.reduceNe, Int.reduceNeg]
      refine Br_split (fun hd => ?_) (fun hd => ?_) <;> simp only [go_sem, Nat.reduceBEq, Nat.reduceEqDiff, Nat.reduceLT, Nat.reduceLeDiff, Nat.reduceAdd, Nat.reduceSub, Nat.reduceMul, reduceCtorEq, Int.reduceToNat, Int.reduceEq, Int.reduceLT, Int.reduceLE, Int.reduceNe, Int.reduceNeg, hd]
      · have hlt : j < k := by simp only [decide_eq_true_eq] at hd; omega
        obtain ⟨k', hk'⟩ : ∃ k', k - j = k' + 1 := ⟨k - j - 1, by omega⟩
        rw [hk', subsF_succ, List.map_append, List.append_assoc] at hI0
        have hpw : 2 ^ (first + j) < 2 ^ 62 := Nat.pow_lt_pow_right (by omega) (by omega)
        have hor : orI .i64 (set : Nat) ((2 ^ (first + j) : Nat) : Int) = ((set ||| 2 ^ (first + j) : Nat) : Int) := orN (by omega) (by omega)
        have hnx : IntKind.i64.wrap (((first + j : Nat) : Int) + 1) = ((first + j + 1 : Nat) : Int) := by rw [w64 (by omega) (by omega)]; omega
        have hset2 : set ||| 2 ^ (first + j) < 2 ^ (first + j + 1) := bit_lt (Nat.lt_of_lt_of_le hset (Nat.pow_le_pow_right (by omega) (by omega)))
        have hsz := sized_nats l
        have hle : l.length + 1 ≤ 4294967296 := by omega
        refine ADrw.treeG (fun _ => false) tt_ok (by kernel_rfl) (fun k => if k = 0 then some .L else if k = 12 then none else some .S) (.ones [0, 1, 2, 3, 4, 5, 6, 7, 8, 9, 10, 11] (.only 12 (.one 13 .done))) (by simp [hcl]) (fun _ h => nomatch h) rfl rfl (by kernel_rfl) ?_
        simp only [go_sem, Nat.reduceBEq, Nat.reduceEqDiff, Nat.reduceLT, Nat.reduceLeDiff, Nat.reduceAdd, Nat.reduceSub, Nat.reduceMul, reduceCtorEq, Int.reduceToNat, Int.reduceEq, Int.reduceLT, Int.reduceLE, Int.reduceNe, Int.reduceNeg, hy1 hcl, onW]
        refine (c111 (natsD l) (sized_nats l)).callS rfl rfl rfl rfl rfl rfl ?_
        simp only [go_sem, Nat.reduceBEq, Nat.reduceEqDiff, Nat.reduceLT, Nat.reduceLeDiff, Nat.reduceAdd, Nat.reduceSub, Nat.reduceMul, reduceCtorEq, Int.reduceToNat, Int.reduceEq, Int.reduceLT, Int.reduceLE, Int.reduceNe, Int.reduceNeg, hy1 hcl, onW, hsz, hle, natsD_len, shlN (show first + j < 63 by omega), hor, hnx]
        have happ : natsD l ++ [.int .i64 ((first + j : Nat) : Int)] = natsD (l ++ [first + j]) := by simp [natsD]
        rw [happ]
        have hc2 := ih k' (by omega) (l ++ [first + j]) (set ||| 2 ^ (first + j)) (first + j + 1) _ Hc (by omega) (by simp; omega) hset2 hI0
        refine ACallV.of rfl (ACalls.mono hc2 ?_)
        rintro v H' ⟨H1, rfl, k1, k2, k3⟩
        have ht : (H1 ++ [Blk.cells [V.fn f x y], Blk.cells [onW n below many]]).take (n + 2) = H1 ++ [Blk.cells [V.fn f x y], Blk.cells [onW n below many]] := List.take_of_length_le (by simp [k1])
        rcases k3 with ⟨rfl, k3⟩ | ⟨rfl, k3⟩
        · simp only [go_sem, Nat.reduceBEq, Nat.reduceEqDiff, Nat.reduceLT, Nat.reduceLeDiff, Nat.reduceAdd, Nat.reduceSub, Nat.reduceMul, reduceCtorEq, Int.reduceToNat, Int.reduceEq, Int.reduceLT, Int.reduceLE, Int.reduceNe, Int.reduceNeg]
          refine ⟨(j + 1, H1), ⟨hlt, ?_⟩, by simp only; omega, ?_⟩
          · rw [show k - (j + 1) = k' by omega]; exact k3
          · exact ForgetTo.same' (by simp [k1]) (by simp [EWe, Env.look]; rw [w64 (by omega) (by omega)]; omega) rfl
        · simp only [go_sem, Nat.reduceBEq, Nat.reduceEqDiff, Nat.reduceLT, Nat.reduceLeDiff, Nat.reduceAdd, Nat.reduceSub, Nat.reduceMul, reduceCtorEq, Int.reduceToNat, Int.reduceEq, Int.reduceLT, Int.reduceLE, Int.reduceNe, Int.reduceNeg, ht]
          exact ⟨.inr (hyn H1 k1 k2), H1, rfl, k1, k2, .inr ⟨rfl, k3⟩⟩
      · have hje : j = k := by simp only [decide_eq_false_iff_not] at hd; omega
        subst hje
        rw [Nat.sub_self] at hI0
        simp only [subsF, List.map_nil, List.nil_append] at hI0
        have ht : (Hc ++ [Blk.cells [V.fn f x y], Blk.cells [onW n below many]]).take (n + 2) = Hc ++ [Blk.cells [V.fn f x y], Blk.cells [onW n below many]] := List.take_of_length_le (by simp [hcl])
        rw [ht]
        exact ⟨.inr (hyn Hc hcl hcb), Hc, rfl, hcl, hcb, .inl ⟨rfl, hI0⟩⟩
end

theorem c116 {below many : Nat} (hb : below ≤ 60) : Iter prog (setV below many) ((setsP below many).map setI) := by
  intro yv n I Q hf hyv hI hy hend H hH
  have hHl := (hI _ _ hH).1
  have hHb := (hI _ _ hH).2
  have hf' := hf
  obtain ⟨f, x, y, rfl⟩ := hf'
  refine ACallV.of rfl ?_
  refine ACalls.run (fun _ => false) tt_ok (fn := f116) (rs := []) rfl rfl rfl rfl rfl rfl rfl ?_
  simp only [go_sem, Nat.reduceBEq, Nat.reduceEqDiff, Nat.reduceLT, Nat.reduceLeDiff, Nat.reduceAdd, Nat.reduceSub, Nat.reduceMul, reduceCtorEq, Int.reduceToNat, Int.reduceEq, Int.reduceLT, Int.reduceLE, Int.reduceNe, Int.reduceNeg, hyl hHl, hy0 hHl, hy1 hHl, hs1 hHl, List.append_assoc]
  rw [hHl]
  have hc := c117 (below := below) (many := many) hb hf hyv hI hy below [] 0 0 [] H (by omega) (Nat.le_refl _) (by simp) (by rw [List.append_nil]; exact hH)
  refine ACallV.of rfl (ACalls.dz (ACalls.mono hc ?_))
  rintro v H' ⟨H1, rfl, k1, k2, k3⟩
  have hq : Q (.tup []) H1 := by
    rcases k3 with ⟨_, k3⟩ | ⟨_, k3⟩
    · exact hend _ k3
    · exact k3
  simp only [go_sem, Nat.reduceBEq, Nat.reduceEqDiff, Nat.reduceLT, Nat.reduceLeDiff, Nat.reduceAdd, Nat.reduceSub, Nat.reduceMul, reduceCtorEq, Int.reduceToNat, Int.reduceEq, Int.reduceLT, Int.reduceLE, Int.reduceNe, Int.reduceNeg, htk k1]
  exact ⟨.inr k2, hq⟩
end Go.Aw
end

section
set_option maxRecDepth 100000
namespace Go.Aw
open Go Go.Proofs.Try

theorem subsF_mem (many : Nat) : ∀ (k : Nat) (l : List Nat) (set n : Nat), set < 2 ^ n → ∀ p ∈ subsF many k l set n, p.1.length = many ∧ p.2 < 2 ^ (n + k)
  | 0, l, set, n, hs, p, hp => by simp [subsF] at hp
  | k + 1, l, set, n, hs, p, hp => by
    have h2 : set ||| 2 ^ n < 2 ^ (n + 1) := bit_lt hs
    rw [subsF_succ, List.mem_append] at hp
    rcases hp with hp | hp
    · unfold onF' at hp
      split at hp
      · rename_i h
        simp only [List.mem_singleton] at hp
        subst hp
        exact ⟨h, Nat.lt_of_lt_of_le h2 (Nat.pow_le_pow_right (by omega) (by omega))⟩
      · have := subsF_mem many k _ _ _ h2 p hp
        rw [show n + (k + 1) = n + 1 + k by omega]; exact this
    · have := subsF_mem many k l set (n + 1) (Nat.lt_of_lt_of_le hs (Nat.pow_le_pow_right (by omega) (by omega))) p hp
      rw [show n + (k + 1) = n + 1 + k by omega]; exact this

theorem setsP_mem {below many : Nat} {p : List Nat × Nat} (hp : p ∈ setsP below many) : p.1.length = many ∧ p.2 < 2 ^ below := by
  unfold setsP onF' at hp
  split at hp
  · rename_i h
    simp only [List.mem_singleton] at hp
    subst hp
    exact ⟨h, Nat.two_pow_pos _⟩
  · have := subsF_mem many below [] 0 0 (by simp) p hp
    simpa using this

/-- Can the bath have been filled at all, if some things seen are wrong? -/
def fitsB (b : Bath) (l : List Seen) (w : Nat) : Bool := !(canL ⟨b, l, w⟩).isEmpty

def wrongF (b : Bath) (l : List Seen) : Option (List Nat × Nat) := ((List.range (l.length + 1)).flatMap (setsP l.length)).find? fun p => fitsB b l p.2

def wrongV (b : Bath) (l : List Seen) : V :=
  if logE b l = 0 then (match wrongF b l with | none => .tup [.slx (some true) [], .d (.int .i64 9)] | some p => if p.1 = [] then .tup [.slx (some true) [], .d (.int .i64 6)] else .tup [.d (.sl (natsD p.1)), .d (.int .i64 0)])
  else .tup [.slx (some true) [], .d (.int .i64 (logE b l))]

/-- The heap of Wrong. -/
def hG (b : Bath) (l : List Seen) (w : Nat) (v : V) (e : Int) : Heap :=
  [.cells [.d (.int .i64 b.str.lo), .d (.int .i64 b.str.hi), .d (.sl (b.plates.map Plate.d))], .cells [v], .cells [.d (.int .i64 e)],
    .cells [.d (.int .i64 b.str.lo), .d (.int .i64 b.str.hi), .d (.sl (b.plates.map Plate.d)), .d (.sl (l.map Seen.d)), .d (.int .i64 w)]]

theorem c96d (l : List Nat) (hl : l.length ≤ 1000) (hne : l ≠ []) : PC prog 96 [.d (.sl (natsD l))] (.d (.sl (natsD l))) := by
  refine PC.of_r (c96 l hl hne) ?_
  have : (natsD l).take l.length = natsD l := List.take_of_length_le (by simp [natsD_len])
  simp [pubV, natsD_len, this]

/-- What the strengths' items are as data. -/
def itemD (b : Bath) (p : Nat × List Sp) : ItemU := ([.d (.int .i64 (b.str.lo + p.1)), .d (.sl (p.2.map Sp.d))], none)

theorem c93d {x : Log} (hok : x.Ok) : IterU prog (.fn (.func 93) [.d x.d] []) ((canL x).map (itemD x.bath)) := by
  have he : itemsF x (fun _ l => .d (.sl (l.map Sp.d))) (fun _ _ => none) = (canL x).map (itemD x.bath) := by
    simp only [itemsF, canL, List.map_filterMap]
    congr 1
    funext i
    simp only [itemAt, Option.map_map]
    rfl
  rw [← he]
  refine c93 hok _ _ (fun _ _ _ _ _ _ => rfl) ?_
  intro i l H Q hi hr _ hq
  have hb := hok.1
  obtain ⟨s1, s2, s3, _, _⟩ := hb
  simp only [Log.N] at hi
  refine (c115 hok (str := x.bath.str.lo + i) (by omega)).call rfl rfl (by simp only [rustsV, hr]; rfl) ?_
  simp only [rustsV, hr]
  exact hq

theorem c50 (b : Bath) (l : List Seen) (hb : b.plates.length ≤ 4294967296) (hl : l.length ≤ 60) : PC prog 50 [.d b.d, .d (.sl (l.map Seen.d))] (wrongV b l) := by
  refine PC.run (fun _ => false) tt_ok (fn := f50) (rs := [.cell 4 27, .cell 5 30]) rfl rfl rfl rfl rfl rfl rfl ?_
  simp only [go_sem, Nat.reduceBEq, Nat.reduceEqDiff, Nat.reduceLT, Nat.reduceLeDiff, Nat.reduceAdd, Nat.reduceSub, Nat.reduceMul, reduceCtorEq, Int.reduceToNat, Int.reduceEq, Int.reduceLT, Int.reduceLE, Int.reduceNe, Int.reduceNeg, Bath.d]
  refine (c92 b l hb (by omega)).call rfl rfl rfl ?_
  simp only [go_sem, Nat.reduceBEq, Nat.reduceEqDiff, Nat.reduceLT, Nat.reduceLeDiff, Nat.reduceAdd, Nat.reduceSub, Nat.reduceMul, reduceCtorEq, Int.reduceToNat, Int.reduceEq, Int.reduceLT, Int.reduceLE, Int.reduceNe, Int.reduceNeg, Bath.d, Log.d]
  refine Br_split (fun hc => ?_) (fun hc => ?_) <;> simp only [go_sem, Nat.reduceBEq, Nat.reduceEqDiff, Nat.reduceLT, Nat.reduceLeDiff, Nat.reduceAdd, Nat.reduceSub, Nat.reduceMul, reduceCtorEq, Int.reduceToNat, Int.reduceEq, Int.reduceLT, Int.reduceLE, Int.reduceNe, Int.reduceNeg, hc]
  · have h0 : ¬ logE b l = 0 := by simpa using hc
    simp [wrongV, h0]
  have h0 : logE b l = 0 := by simpa using hc
  have hlp : logP b l = ⟨b, l, 0⟩ := by rw [logP, if_pos h0]
  rw [hlp]
  obtain ⟨hbo, hxo⟩ := logP_ok (by omega) h0
  have hw : IntKind.i64.wrap ((l.length : Int) + 1) = ((l.length + 1 : Nat) : Int) := by rw [w64 (by omega) (by omega)]; omega
  simp only [go_sem, Nat.reduceBEq, Nat.reduceEqDiff, Nat.reduceLT, Nat.reduceLeDiff, Nat.reduceAdd, Nat.reduceSub, Nat.reduceMul, reduceCtorEq, Int.reduceToNat, Int.reduceEq, Int.reduceLT, Int.reduceLE, Int.reduceNe, Int.reduceNeg, hw]
  refine ALoop.by (S := Nat × Nat) (fun s => [(23, .d (.int .i64 s.1)), (22, .d (.int .i64 (l.length + 1 : Nat))), (6, .ptr 3 0), (5, .ptr 2 0), (4, .ptr 1 0), (1, .d (.sl (l.map Seen.d)))])
    (fun s => hG b l s.2 (.slx (some true) []) 0) (fun s => l.length + 1 - s.1)
    (fun s => s.1 ≤ l.length + 1 ∧ wrongF b l = (((List.range (l.length + 1)).drop s.1).flatMap (setsP l.length)).find? fun p => fitsB b l p.2) (0, 0) (by simp) (fun _ h => nomatch h) ⟨Nat.zero_le _, rfl⟩ ?_ ?_
  · exact ForgetTo.same' (by simp) (by simp [EWe, Env.look]) (by simp [hG])
  rintro ⟨many, w⟩ ⟨hm, hfst⟩ hn'
  simp only at hm hfst hn' ⊢
  refine AWP.run (fun _ => false) tt_ok (fun _ h => nomatch h) (by simp) rfl ?_
  simp only [go_sem, Nat.reduceBEq, Nat.reduceEqDiff, Nat.reduceLT, Nat.reduceLeDiff, Nat.reduceAdd, Nat.reduceSub, Nat.reduceMul, reduceCtorEq, Int.reduceToNat, Int.reduceEq, Int.reduceLT, Int.reduceLE, Int.reduceNe, Int.reduceNeg]
  refine Br_split (fun hd => ?_) (fun hd => ?_) <;> simp only [go_sem, Nat.reduceBEq, Nat.reduceEqDiff, Nat.reduceLT, Nat.reduceLeDiff, Nat.reduceAdd, Nat.reduceSub, Nat.reduceMul, reduceCtorEq, Int.reduceToNat, Int.reduceEq, Int.reduceLT, Int.reduceLE, Int.reduceNe, Int.reduceNeg, hd]
  · have hlt : many < l.length + 1 := by simp only [decide_eq_true_eq] at hd; omega
    simp only [go_sem, Nat.reduceBEq, Nat.reduceEqDiff, Nat.reduceLT, Nat.reduceLeDiff, Nat.reduceAdd, Nat.reduceSub, Nat.reduceMul, reduceCtorEq, Int.reduceToNat, Int.reduceEq, Int.reduceLT, Int.reduceLE, Int.reduceNe, Int.reduceNeg, hG]
    refine (c95 l.length many).call rfl rfl rfl ?_
    simp only [go_sem, Nat.reduceBEq, Nat.reduceEqDiff, Nat.reduceLT, Nat.reduceLeDiff, Nat.reduceAdd, Nat.reduceSub, Nat.reduceMul, reduceCtorEq, Int.reduceToNat, Int.reduceEq, Int.reduceLT, Int.reduceLE, Int.reduceNe, Int.reduceNeg]
    rw [List.drop_eq_getElem_cons (by simpa using hlt), List.flatMap_cons, List.find?_append, List.getElem_range] at hfst
    refine ARng.iterN (items := (setsP l.length many).map setI) (J := fun rest Hx => ∃ (w : Nat) (pre : List (List Nat × Nat)), Hx = hG b l w (.slx (some true) []) 0 ++ [.cells [.d (.int .i64 many)]] ∧ rest = pre.map setI ∧ (∀ p ∈ pre, p ∈ setsP l.length many) ∧ (setsP l.length many).find? (fun p => fitsB b l p.2) = pre.find? (fun p => fitsB b l p.2))
      (by simp) (fun _ h => nomatch h) rfl (c116 (by omega)) rfl (by simp [VBs, VB, setV]) ?_ ?_ ?_ ?_ ?_
    · rintro rest Hx ⟨w1, pre, rfl, _, _, _⟩
      exact ⟨rfl, by simp [hG, BBs, BB, VBs, VB]⟩
    · exact ⟨w, _, rfl, rfl, fun _ h => h, rfl⟩
    · rintro Hx ⟨w1, pre, rfl, hp, _, hf1⟩
      obtain rfl : pre = [] := by simpa using hp.symm
      simp only [go_sem, Nat.reduceBEq, Nat.reduceEqDiff, Nat.reduceLT, Nat.reduceLeDiff, Nat.reduceAdd, Nat.reduceSub, Nat.reduceMul, reduceCtorEq, Int.reduceToNat, Int.reduceEq, Int.reduceLT, Int.reduceLE, Int.reduceNe, Int.reduceNeg]
      refine ⟨(many + 1, w1), ⟨by omega, ?_⟩, by simp only; omega, ?_⟩
      · rw [hfst, hf1]; simp [List.range_succ]
      · refine ForgetTo.drop (H0 := hG b l w1 (.slx (some true) []) 0) (Y := [_]) (Nat.zero_le _) rfl (by simp [hG, BBs, BB, VBs, VB]) ?_
        simp [EWp, Env.look, pubV, hG, w64 (n := (many : Int) + 1) (by omega) (by omega)]
    · intro xs hxs
      obtain ⟨p, _, rfl⟩ := List.mem_map.1 hxs
      rfl
    · rintro L L' xs rest Hx hbL hxs ⟨w1, pre, rfl, hp, hpm, hf1⟩
      obtain ⟨p, rest', rfl⟩ : ∃ p rest', pre = p :: rest' := by cases pre with
        | nil => cases hp
        | cons p r => exact ⟨p, r, rfl⟩
      obtain ⟨rfl, rfl⟩ : xs = setI p ∧ rest = rest'.map setI := by simpa using hp
      refine AWP.run (fun _ => false) tt_ok (fun _ h => by cases h; simp) (by simp [hG]) rfl ?_
      simp only [go_sem, Nat.reduceBEq, Nat.reduceEqDiff, Nat.reduceLT, Nat.reduceLeDiff, Nat.reduceAdd, Nat.reduceSub, Nat.reduceMul, reduceCtorEq, Int.reduceToNat, Int.reduceEq, Int.reduceLT, Int.reduceLE, Int.reduceNe, Int.reduceNeg, setI, hG]
      refine AWP.run (fun _ => false) tt_ok (fun _ h => by cases h; simp) (by simp) rfl ?_
      simp only [go_sem, Nat.reduceBEq, Nat.reduceEqDiff, Nat.reduceLT, Nat.reduceLeDiff, Nat.reduceAdd, Nat.reduceSub, Nat.reduceMul, reduceCtorEq, Int.reduceToNat, Int.reduceEq, Int.reduceLT, Int.reduceLE, Int.reduceNe, Int.reduceNeg]
      have hpl := setsP_mem (hpm p List.mem_cons_self)
      have hp62 : p.2 < 2 ^ 62 := Nat.lt_of_lt_of_le hpl.2 (Nat.pow_le_pow_right (by omega) (by omega))
      have hxk := hxo p.2 hp62
      have hbL6 : BB 7 L' := BB_le (by simp) hbL
      refine ARng.iterU (items := (canL ⟨b, l, p.2⟩).map (itemD b)) (J := fun rest Hx => Hx = hG b l p.2 (.slx (some true) []) 0 ++ [.cells [.d (.int .i64 many)], L', .cells [.d (.sl (natsD p.1))]] ∧ rest = (canL ⟨b, l, p.2⟩).map (itemD b))
        (by simp) (fun _ h => by cases h; simp) rfl (c93d hxk) rfl (by simp [VBs, VB, setV]) ?_ ?_ ?_ ?_ ?_ ?_
      · rintro rest Hx ⟨rfl, _⟩
        exact ⟨rfl, by simp [hG, BBs, BB, VBs, VB]; exact hbL6⟩
      · exact ⟨rfl, rfl⟩
      · rintro Hx ⟨rfl, he⟩
        have he' : canL ⟨b, l, p.2⟩ = [] := by simpa using he.symm
        simp only [go_sem, Nat.reduceBEq, Nat.reduceEqDiff, Nat.reduceLT, Nat.reduceLeDiff, Nat.reduceAdd, Nat.reduceSub, Nat.reduceMul, reduceCtorEq, Int.reduceToNat, Int.reduceEq, Int.reduceLT, Int.reduceLE, Int.reduceNe, Int.reduceNeg, hG]
        refine ⟨p.2, rest', rfl, rfl, fun q hq => hpm q (List.mem_cons_of_mem _ hq), ?_⟩
        rw [hf1, List.find?_cons_of_neg]
        simp [fitsB, he']
      · intro xs hxs
        obtain ⟨q, _, rfl⟩ := List.mem_map.1 hxs
        rfl
      · intro xs rest Hx hxs _
        obtain ⟨q, _, rfl⟩ := List.mem_map.1 hxs
        trivial
      · rintro L2 L2' xs rest Hx hxs ⟨rfl, he⟩
        have hfit : fitsB b l p.2 = true := by
          simp only [fitsB]
          cases h : canL ⟨b, l, p.2⟩ with
          | nil => rw [h] at hxs; cases hxs
          | cons _ _ => rfl
        rw [List.find?_cons_of_pos (by simpa using hfit)] at hf1
        rw [hf1] at hfst
        obtain ⟨q, _, rfl⟩ := List.mem_map.1 hxs
        refine AWP.run (fun _ => false) tt_ok (fun _ h => by cases h; simp) (by simp [hG, itemD, upd]) rfl ?_
        simp only [go_sem, Nat.reduceBEq, Nat.reduceEqDiff, Nat.reduceLT, Nat.reduceLeDiff, Nat.reduceAdd, Nat.reduceSub, Nat.reduceMul, reduceCtorEq, Int.reduceToNat, Int.reduceEq, Int.reduceLT, Int.reduceLE, Int.reduceNe, Int.reduceNeg, itemD, upd, hG]
        refine AWP.run (fun _ => false) tt_ok (fun _ h => by cases h; simp) (by simp) rfl ?_
        simp only [go_sem, Nat.reduceBEq, Nat.reduceEqDiff, Nat.reduceLT, Nat.reduceLeDiff, Nat.reduceAdd, Nat.reduceSub, Nat.reduceMul, reduceCtorEq, Int.reduceToNat, Int.reduceEq, Int.reduceLT, Int.reduceLE, Int.reduceNe, Int.reduceNeg]
        refine Br_split (fun h0m => ?_) (fun h0m => ?_) <;> simp only [go_sem, Nat.reduceBEq, Nat.reduceEqDiff, Nat.reduceLT, Nat.reduceLeDiff, Nat.reduceAdd, Nat.reduceSub, Nat.reduceMul, reduceCtorEq, Int.reduceToNat, Int.reduceEq, Int.reduceLT, Int.reduceLE, Int.reduceNe, Int.reduceNeg, h0m]
        · have hm0 : many = 0 := by simp only [decide_eq_true_eq] at h0m; omega
          have hp1 : p.1 = [] := List.length_eq_zero_iff.1 (by omega)
          refine ⟨hbL6, ?_⟩
          simp [wrongV, h0, hfst, hp1]
        · have hm0 : ¬ many = 0 := by simp only [decide_eq_false_iff_not] at h0m; omega
          have hp1 : p.1 ≠ [] := fun e => hm0 (by rw [← hpl.1, e]; rfl)
          refine (c96d p.1 (by omega) hp1).call rfl rfl rfl ?_
          simp only [go_sem, Nat.reduceBEq, Nat.reduceEqDiff, Nat.reduceLT, Nat.reduceLeDiff, Nat.reduceAdd, Nat.reduceSub, Nat.reduceMul, reduceCtorEq, Int.reduceToNat, Int.reduceEq, Int.reduceLT, Int.reduceLE, Int.reduceNe, Int.reduceNeg]
          refine ⟨hbL6, ?_⟩
          simp [wrongV, h0, hfst, hp1]
  · have hme : many = l.length + 1 := by simp only [decide_eq_false_iff_not] at hd; omega
    rw [List.drop_eq_nil_of_le (by simp [hme])] at hfst
    simp only [go_sem, Nat.reduceBEq, Nat.reduceEqDiff, Nat.reduceLT, Nat.reduceLeDiff, Nat.reduceAdd, Nat.reduceSub, Nat.reduceMul, reduceCtorEq, Int.reduceToNat, Int.reduceEq, Int.reduceLT, Int.reduceLE, Int.reduceNe, Int.reduceNeg, hG]
    simp [wrongV, h0, hfst]
end Go.Aw
end

section
set_option maxRecDepth 100000
namespace Go.Aw
open Go Go.Proofs.Try

def badCarboy (s : Sp) : Bool := !(within 0 5000 [s.lo, s.hi] && decide (s.lo ≤ s.hi))

theorem c100 (s : Sp) : PC prog 100 [.d s.d] (.d (.bool (badCarboy s))) := by
  refine PC.run (fun _ => false) tt_ok (fn := f100) (rs := [.tmp 2]) rfl rfl rfl rfl rfl rfl rfl ?_
  simp only [go_sem, Nat.reduceBEq, Nat.reduceEqDiff, Nat.reduceLT, Nat.reduceLeDiff, Nat.reduceAdd, Nat.reduceSub, Nat.reduceMul, reduceCtorEq, Int.reduceToNat, Int.reduceEq, Int.reduceLT, Int.reduceLE, Int.reduceNe, Int.reduceNeg, Sp.d]
  refine (c73 0 5000 s).call rfl rfl rfl ?_
  simp only [go_sem, Nat.reduceBEq, Nat.reduceEqDiff, Nat.reduceLT, Nat.reduceLeDiff, Nat.reduceAdd, Nat.reduceSub, Nat.reduceMul, reduceCtorEq, Int.reduceToNat, Int.reduceEq, Int.reduceLT, Int.reduceLE, Int.reduceNe, Int.reduceNeg, badCarboy]

theorem badCarboy_iff (s : Sp) : badCarboy s = false ↔ 0 ≤ s.lo ∧ s.lo ≤ s.hi ∧ s.hi ≤ 5000 := by
  simp [badCarboy, within]
  omega

theorem sized_sps (l : List Sp) : sized 2 (l.map Sp.d) = true := by
  simp [sized, Sp.d, dcells]

theorem c102 (l : List D) (hl : sized 2 l = true) : PC prog 102 [.d (.sl l)] (.slx none l) := by
  refine PC.run (fun _ => false) tt_ok (fn := f102) (rs := [.tmp 2]) rfl rfl rfl rfl rfl rfl rfl ?_
  simp only [go_sem, Nat.reduceBEq, Nat.reduceEqDiff, Nat.reduceLT, Nat.reduceLeDiff, Nat.reduceAdd, Nat.reduceSub, Nat.reduceMul, reduceCtorEq, Int.reduceToNat, Int.reduceEq, Int.reduceLT, Int.reduceLE, Int.reduceNe, Int.reduceNeg, Int.natCast_nonneg, Int.toNat_natCast, hl]

/-- The error of a carboy. -/
def carboyP (full : Sp) (used : List Sp) (left : Sp) : Int := if used.length > 10 then 5 else if (badCarboy full || used.any badCarboy || badCarboy left) = true then 2 else 0

def missStep (m s : Sp) : Sp := ⟨m.lo - s.hi, m.hi - s.lo⟩

def missAll (full : Sp) (used : List Sp) (left : Sp) : Sp := (used ++ [left]).foldl missStep full

def missP (full : Sp) (used : List Sp) (left : Sp) : Sp × Int :=
  if carboyP full used left = 0 then (if (missAll full used left).hi < 0 then (sp0, 9) else (⟨max 0 (missAll full used left).lo, (missAll full used left).hi⟩, 0)) else (sp0, carboyP full used left)

theorem miss_bnd : ∀ (l : List Sp) (m : Sp), (∀ s ∈ l, badCarboy s = false) → m.lo - 5000 * l.length ≤ (l.foldl missStep m).lo ∧ (l.foldl missStep m).lo ≤ m.lo ∧ m.hi - 5000 * l.length ≤ (l.foldl missStep m).hi ∧ (l.foldl missStep m).hi ≤ m.hi
  | [], m, _ => by simp
  | s :: r, m, h => by
    have h1 := (badCarboy_iff s).1 (h s List.mem_cons_self)
    have := miss_bnd r (missStep m s) (fun x hx => h x (List.mem_cons_of_mem _ hx))
    simp only [List.foldl_cons, List.length_cons]
    simp only [missStep] at this ⊢
    omega

theorem c55 (full : Sp) (used : List Sp) (left : Sp) (hl : used.length ≤ 4294967296) : PC prog 55 [.d full.d, .d (.sl (used.map Sp.d)), .d left.d] (.tup [.d (missP full used left).1.d, .d (.int .i64 (missP full used left).2)]) := by
  refine PC.run (fun _ => false) tt_ok (fn := f55) (rs := [.cell 6 23, .tmp 7]) rfl rfl rfl rfl rfl rfl rfl ?_
  simp only [go_sem, Nat.reduceBEq, Nat.reduceEqDiff, Nat.reduceLT, Nat.reduceLeDiff, Nat.reduceAdd, Nat.reduceSub, Nat.reduceMul, reduceCtorEq, Int.reduceToNat, Int.reduceEq, Int.reduceLT, Int.reduceLE, Int.reduceNe, Int.reduceNeg, Sp.d]
  refine Br_split (fun hc => ?_) (fun hc => ?_) <;> simp only [go_sem, Nat.reduceBEq, Nat.reduceEqDiff, Nat.reduceLT, Nat.reduceLeDiff, Nat.reduceAdd, Nat.reduceSub, Nat.reduceMul, reduceCtorEq, Int.reduceToNat, Int.reduceEq, Int.reduceLT, Int.reduceLE, Int.reduceNe, Int.reduceNeg, hc]
  · have h1 : used.length > 10 := by simp at hc; omega
    simp [missP, carboyP, h1, sp0]
  have h1 : ¬ used.length > 10 := by simp at hc; omega
  have bad : (badCarboy full || used.any badCarboy || badCarboy left) = true → missP full used left = (sp0, 2) := fun h => by simp [missP, carboyP, h1, h]
  refine (c100 full).call rfl rfl rfl ?_
  simp only [go_sem, Nat.reduceBEq, Nat.reduceEqDiff, Nat.reduceLT, Nat.reduceLeDiff, Nat.reduceAdd, Nat.reduceSub, Nat.reduceMul, reduceCtorEq, Int.reduceToNat, Int.reduceEq, Int.reduceLT, Int.reduceLE, Int.reduceNe, Int.reduceNeg, hc]
  refine Br_split (fun hd => ?_) (fun hd => ?_) <;> simp only [go_sem, Nat.reduceBEq, Nat.reduceEqDiff, Nat.reduceLT, Nat.reduceLeDiff, Nat.reduceAdd, Nat.reduceSub, Nat.reduceMul, reduceCtorEq, Int.reduceToNat, Int.reduceEq, Int.reduceLT, Int.reduceLE, Int.reduceNe, Int.reduceNeg, hc, hd]
  · rw [bad (by rw [hd]; rfl)]
    simp [sp0]
  refine ACallV.of rfl (c101 enc_sp used hl 100 [] [] badCarboy (fun x _ Q h => (c100 x).call rfl rfl rfl h) ?_)
  simp only [go_sem, Nat.reduceBEq, Nat.reduceEqDiff, Nat.reduceLT, Nat.reduceLeDiff, Nat.reduceAdd, Nat.reduceSub, Nat.reduceMul, reduceCtorEq, Int.reduceToNat, Int.reduceEq, Int.reduceLT, Int.reduceLE, Int.reduceNe, Int.reduceNeg, hc, hd]
  refine Br_split (fun he => ?_) (fun he => ?_) <;> simp only [go_sem, Nat.reduceBEq, Nat.reduceEqDiff, Nat.reduceLT, Nat.reduceLeDiff, Nat.reduceAdd, Nat.reduceSub, Nat.reduceMul, reduceCtorEq, Int.reduceToNat, Int.reduceEq, Int.reduceLT, Int.reduceLE, Int.reduceNe, Int.reduceNeg, hc, hd, he]
  · rw [bad (by rw [hd, he]; rfl)]
    simp [sp0]
  refine (c100 left).call rfl rfl rfl ?_
  simp only [go_sem, Nat.reduceBEq, Nat.reduceEqDiff, Nat.reduceLT, Nat.reduceLeDiff, Nat.reduceAdd, Nat.reduceSub, Nat.reduceMul, reduceCtorEq, Int.reduceToNat, Int.reduceEq, Int.reduceLT, Int.reduceLE, Int.reduceNe, Int.reduceNeg, hc, hd, he]
  refine Br_split (fun hf => ?_) (fun hf => ?_) <;> simp only [go_sem, Nat.reduceBEq, Nat.reduceEqDiff, Nat.reduceLT, Nat.reduceLeDiff, Nat.reduceAdd, Nat.reduceSub, Nat.reduceMul, reduceCtorEq, Int.reduceToNat, Int.reduceEq, Int.reduceLT, Int.reduceLE, Int.reduceNe, Int.reduceNeg, hc, hd, he, hf]
  · rw [bad (by rw [hf]; simp)]
    simp [sp0]
  have h0 : carboyP full used left = 0 := by simp [carboyP, h1, hd, he, hf]
  have hall : ∀ s ∈ used ++ [left], badCarboy s = false := fun s hs => by
    rcases List.mem_append.1 hs with hs | hs
    · have := List.any_eq_false.1 he s hs
      simpa using this
    · rw [List.mem_singleton.1 hs]; exact hf
  have hfu := (badCarboy_iff full).1 hd
  have hsz := sized_sps used
  have hle : used.length + 1 ≤ 4294967296 := by omega
  refine ADrw.treeG (fun _ => false) tt_ok (by kernel_rfl) (fun k => if k = 2 ∨ k = 5 then some .L else some .S) (.ones [0, 1, 2, 3, 4, 5, 6] .done) (by simp) (fun _ h => nomatch h) rfl rfl (by kernel_rfl) ?_
  simp only [go_sem, Nat.reduceBEq, Nat.reduceEqDiff, Nat.reduceLT, Nat.reduceLeDiff, Nat.reduceAdd, Nat.reduceSub, Nat.reduceMul, reduceCtorEq, Int.reduceToNat, Int.reduceEq, Int.reduceLT, Int.reduceLE, Int.reduceNe, Int.reduceNeg]
  refine (c102 (used.map Sp.d) hsz).callS rfl rfl rfl rfl rfl rfl ?_
  simp only [go_sem, Nat.reduceBEq, Nat.reduceEqDiff, Nat.reduceLT, Nat.reduceLeDiff, Nat.reduceAdd, Nat.reduceSub, Nat.reduceMul, reduceCtorEq, Int.reduceToNat, Int.reduceEq, Int.reduceLT, Int.reduceLE, Int.reduceNe, Int.reduceNeg, hsz, hle, List.length_map, List.length_append]
  have happ : used.map Sp.d ++ [.agg [.int .i64 left.lo, .int .i64 left.hi]] = (used ++ [left]).map Sp.d := by simp [Sp.d]
  rw [happ]
  have hlen : used.length + 1 = (used ++ [left]).length := by simp
  have hl11 : (used ++ [left]).length ≤ 11 := by simp; omega
  rw [hlen]
  have hma : missAll full used left = (used ++ [left]).foldl missStep full := rfl
  generalize used ++ [left] = l at hma hall hl11
  refine ALoop.by (S := Nat) (fun i => [(34, .d (.int .i64 i)), (33, .d (.int .i64 l.length)), (32, .d (.sl (l.map Sp.d))), (6, .ptr 2 0)])
    (fun i => [.cells [.d (.int .i64 full.lo), .d (.int .i64 full.hi)], .cells [.d (.int .i64 left.lo), .d (.int .i64 left.hi)], .cells [.d (.int .i64 ((l.take i).foldl missStep full).lo), .d (.int .i64 ((l.take i).foldl missStep full).hi)]]) (fun i => l.length - i) (fun i => i ≤ l.length) 0 (by simp) (fun _ h => nomatch h) (Nat.zero_le _) ?_ ?_
  · exact ForgetTo.same' (by simp) (by simp [EWe, Env.look]) (by simp)
  rintro i hi hn
  refine AWP.run (fun _ => false) tt_ok (fun _ h => nomatch h) (by simp) rfl ?_
  simp only [go_sem, Nat.reduceBEq, Nat.reduceEqDiff, Nat.reduceLT, Nat.reduceLeDiff, Nat.reduceAdd, Nat.reduceSub, Nat.reduceMul, reduceCtorEq, Int.reduceToNat, Int.reduceEq, Int.reduceLT, Int.reduceLE, Int.reduceNe, Int.reduceNeg]
  refine Br_split (fun hg => ?_) (fun hg => ?_) <;> simp only [go_sem, Nat.reduceBEq, Nat.reduceEqDiff, Nat.reduceLT, Nat.reduceLeDiff, Nat.reduceAdd, Nat.reduceSub, Nat.reduceMul, reduceCtorEq, Int.reduceToNat, Int.reduceEq, Int.reduceLT, Int.reduceLE, Int.reduceNe, Int.reduceNeg, hg]
  · have hlt : i < l.length := by simpa using hg
    have hix : idx? (l.map Sp.d) (i : Int) = some (l[i]).d := by simp [idx?, List.getElem?_eq_getElem hlt]
    have hst : (l.take (i + 1)).foldl missStep full = missStep ((l.take i).foldl missStep full) l[i] := by
      rw [List.take_add_one, List.getElem?_eq_getElem hlt, List.foldl_append]; rfl
    have hbn := miss_bnd (l.take i) full (fun s hs => hall s (List.mem_of_mem_take hs))
    have htl : (l.take i).length = i := by simp; omega
    rw [htl] at hbn
    have hs := (badCarboy_iff _).1 (hall _ (List.getElem_mem hlt))
    generalize (l.take i).foldl missStep full = m at hst hbn
    generalize l[i] = s at hix hst hs
    simp only [go_sem, Nat.reduceBEq, Nat.reduceEqDiff, Nat.reduceLT, Nat.reduceLeDiff, Nat.reduceAdd, Nat.reduceSub, Nat.reduceMul, reduceCtorEq, Int.reduceToNat, Int.reduceEq, Int.reduceLT, Int.reduceLE, Int.reduceNe, Int.reduceNeg, hix, Sp.d]
    refine ⟨i + 1, hlt, by omega, ?_⟩
    refine ForgetTo.drop (H0 := [_, _, _]) (Y := [_]) (Nat.zero_le _) ?_ (by simp [BBs, BB, VBs, VB]) ?_
    · rw [hst, missStep, w64 (n := m.lo - s.hi) (by omega) (by omega), w64 (n := m.hi - s.lo) (by omega) (by omega)]
    · simp [EWp, Env.look, pubV, w64 (n := (i : Int) + 1) (by omega) (by omega)]
  · have hie : i = l.length := by simp at hg; omega
    subst hie
    rw [List.take_length, ← hma]
    refine Br_split (fun hh => ?_) (fun hh => ?_) <;> simp only [go_sem, Nat.reduceBEq, Nat.reduceEqDiff, Nat.reduceLT, Nat.reduceLeDiff, Nat.reduceAdd, Nat.reduceSub, Nat.reduceMul, reduceCtorEq, Int.reduceToNat, Int.reduceEq, Int.reduceLT, Int.reduceLE, Int.reduceNe, Int.reduceNeg, hh]
    · have h9 : (missAll full used left).hi < 0 := by simpa using hh
      simp [missP, h0, h9, sp0]
    · have h9 : ¬ (missAll full used left).hi < 0 := by simpa using hh
      simp only [missP, h0, if_true, if_neg h9]
end Go.Aw
end

section
set_option maxRecDepth 100000
namespace Go.Aw
open Go Go.Proofs.Try

theorem take_succ_eq {α : Type} {a b : List α} {i : Nat} (ha : i < a.length) (hb : i < b.length) (h : a.take i = b.take i) : a.take (i + 1) = b.take (i + 1) ↔ a[i] = b[i] := by
  rw [List.take_succ_eq_append_getElem ha, h, List.take_succ_eq_append_getElem hb]
  simp only [List.append_cancel_left_eq, List.cons.injEq, and_true]

theorem c23 (a b : List Int) (ha : a.length ≤ 4294967296) (hb : b.length ≤ 4294967296) : PC prog 23 [.d (.sl (a.map (.int .i64))), .d (.sl (b.map (.int .i64)))] (.d (.bool (decide (a = b)))) := by
  refine PC.run (fun _ => false) tt_ok (fn := f23) (rs := [.tmp 4]) rfl rfl rfl rfl rfl rfl rfl ?_
  simp only [go_sem, Nat.reduceBEq, Nat.reduceEqDiff, Nat.reduceLT, Nat.reduceLeDiff, Nat.reduceAdd, Nat.reduceSub, Nat.reduceMul, reduceCtorEq, Int.reduceToNat, Int.reduceEq, Int.reduceLT, Int.reduceLE, Int.reduceNe, Int.reduceNeg]
  refine Br_split (fun hc => ?_) (fun hc => ?_) <;> simp only [go_sem, Nat.reduceBEq, Nat.reduceEqDiff, Nat.reduceLT, Nat.reduceLeDiff, Nat.reduceAdd, Nat.reduceSub, Nat.reduceMul, reduceCtorEq, Int.reduceToNat, Int.reduceEq, Int.reduceLT, Int.reduceLE, Int.reduceNe, Int.reduceNeg, hc]
  · have : a ≠ b := fun e => by subst e; simp at hc
    simp [this]
  · have hlen : a.length = b.length := by simp at hc; omega
    refine ALoop.by (S := Nat) (fun i => [(5, .d (.int .i64 i)), (0, .d (.sl (a.map (.int .i64)))), (1, .d (.sl (b.map (.int .i64))))]) (fun i => []) (fun i => a.length - i) (fun i => i ≤ a.length ∧ a.take i = b.take i) 0 (by simp) (fun _ h => nomatch h) ⟨Nat.zero_le _, rfl⟩ ?_ ?_
    · simp [ForgetTo, EW, VW, BBq, BBs, BB, VBs, VB, Env.look, pubV]
    · rintro i ⟨hi, hx⟩ hn
      refine AWP.run (fun _ => false) tt_ok (fun _ h => nomatch h) (by simp) rfl ?_
      simp only [go_sem, Nat.reduceBEq, Nat.reduceEqDiff, Nat.reduceLT, Nat.reduceLeDiff, Nat.reduceAdd, Nat.reduceSub, Nat.reduceMul, reduceCtorEq, Int.reduceToNat, Int.reduceEq, Int.reduceLT, Int.reduceLE, Int.reduceNe, Int.reduceNeg]
      refine Br_split (fun hd => ?_) (fun hd => ?_) <;> simp only [go_sem, Nat.reduceBEq, Nat.reduceEqDiff, Nat.reduceLT, Nat.reduceLeDiff, Nat.reduceAdd, Nat.reduceSub, Nat.reduceMul, reduceCtorEq, Int.reduceToNat, Int.reduceEq, Int.reduceLT, Int.reduceLE, Int.reduceNe, Int.reduceNeg, hd]
      · have hlt : i < a.length := by simpa using hd
        have hlt' : i < b.length := by omega
        have hs := take_succ_eq hlt hlt' hx
        have hne : a[i] ≠ b[i] → a ≠ b := fun h e => h (by subst e; rfl)
        refine ADrw.treeG (fun _ => false) tt_ok (by kernel_rfl) (fun k => .some .S) (.ones [0, 1, 2, 3, 4, 5, 6, 7, 8] .done) (by simp) (fun _ h => nomatch h) rfl rfl (by kernel_rfl) ?_
        simp only [go_sem, Nat.reduceBEq, Nat.reduceEqDiff, Nat.reduceLT, Nat.reduceLeDiff, Nat.reduceAdd, Nat.reduceSub, Nat.reduceMul, reduceCtorEq, Int.reduceToNat, Int.reduceEq, Int.reduceLT, Int.reduceLE, Int.reduceNe, Int.reduceNeg, idx_nat, List.getElem?_map, List.getElem?_eq_getElem hlt, List.getElem?_eq_getElem hlt', Step.d, Sp.d]
        generalize a[i] = x at hs hne
        generalize b[i] = y at hs hne
        refine Br_split (fun he => ?_) (fun he => ?_) <;> simp only [go_sem, Nat.reduceBEq, Nat.reduceEqDiff, Nat.reduceLT, Nat.reduceLeDiff, Nat.reduceAdd, Nat.reduceSub, Nat.reduceMul, reduceCtorEq, Int.reduceToNat, Int.reduceEq, Int.reduceLT, Int.reduceLE, Int.reduceNe, Int.reduceNeg, he]
        · have hxy : x ≠ y := fun e => by subst e; simp at he
          simp [hne hxy]
        · have heq : x = y := by first | (simpa using he) | (cases x; cases y; simpa using he)
          refine ⟨i + 1, ⟨hlt, hs.2 heq⟩, by omega, ?_⟩
          simp [ForgetTo, EW, VW, BBq, BBs, BB, VBs, VB, Env.look, pubV, w64 (n := (i : Int) + 1) (by omega) (by omega)]
      · have hlt : ¬ i < a.length := by simpa using hd
        rw [List.take_of_length_le (by omega), List.take_of_length_le (by omega)] at hx
        simp [hx]

theorem c30 (a b : List Int) (ha : a.length ≤ 4294967296) (hb : b.length ≤ 4294967296) : PC prog 30 [.d (.sl (a.map (.int .i64))), .d (.sl (b.map (.int .i64)))] (.d (.bool (decide (a = b)))) := by
  refine PC.run (fun _ => false) tt_ok (fn := f30) (rs := [.tmp 4]) rfl rfl rfl rfl rfl rfl rfl ?_
  simp only [go_sem, Nat.reduceBEq, Nat.reduceEqDiff, Nat.reduceLT, Nat.reduceLeDiff, Nat.reduceAdd, Nat.reduceSub, Nat.reduceMul, reduceCtorEq, Int.reduceToNat, Int.reduceEq, Int.reduceLT, Int.reduceLE, Int.reduceNe, Int.reduceNeg]
  refine Br_split (fun hc => ?_) (fun hc => ?_) <;> simp only [go_sem, Nat.reduceBEq, Nat.reduceEqDiff, Nat.reduceLT, Nat.reduceLeDiff, Nat.reduceAdd, Nat.reduceSub, Nat.reduceMul, reduceCtorEq, Int.reduceToNat, Int.reduceEq, Int.reduceLT, Int.reduceLE, Int.reduceNe, Int.reduceNeg, hc]
  · have : a ≠ b := fun e => by subst e; simp at hc
    simp [this]
  · have hlen : a.length = b.length := by simp at hc; omega
    refine ALoop.by (S := Nat) (fun i => [(5, .d (.int .i64 i)), (0, .d (.sl (a.map (.int .i64)))), (1, .d (.sl (b.map (.int .i64))))]) (fun i => []) (fun i => a.length - i) (fun i => i ≤ a.length ∧ a.take i = b.take i) 0 (by simp) (fun _ h => nomatch h) ⟨Nat.zero_le _, rfl⟩ ?_ ?_
    · simp [ForgetTo, EW, VW, BBq, BBs, BB, VBs, VB, Env.look, pubV]
    · rintro i ⟨hi, hx⟩ hn
      refine AWP.run (fun _ => false) tt_ok (fun _ h => nomatch h) (by simp) rfl ?_
      simp only [go_sem, Nat.reduceBEq, Nat.reduceEqDiff, Nat.reduceLT, Nat.reduceLeDiff, Nat.reduceAdd, Nat.reduceSub, Nat.reduceMul, reduceCtorEq, Int.reduceToNat, Int.reduceEq, Int.reduceLT, Int.reduceLE, Int.reduceNe, Int.reduceNeg]
      refine Br_split (fun hd => ?_) (fun hd => ?_) <;> simp only [go_sem, Nat.reduceBEq, Nat.reduceEqDiff, Nat.reduceLT, Nat.reduceLeDiff, Nat.reduceAdd, Nat.reduceSub, Nat.reduceMul, reduceCtorEq, Int.reduceToNat, Int.reduceEq, Int.reduceLT, Int.reduceLE, Int.reduceNe, Int.reduceNeg, hd]
      · have hlt : i < a.length := by simpa using hd
        have hlt' : i < b.length := by omega
        have hs := take_succ_eq hlt hlt' hx
        have hne : a[i] ≠ b[i] → a ≠ b := fun h e => h (by subst e; rfl)
        refine ADrw.treeG (fun _ => false) tt_ok (by kernel_rfl) (fun k => .some .S) (.ones [0, 1, 2, 3, 4, 5, 6, 7, 8] .done) (by simp) (fun _ h => nomatch h) rfl rfl (by kernel_rfl) ?_
        simp only [go_sem, Nat.reduceBEq, Nat.reduceEqDiff, Nat.reduceLT, Nat.reduceLeDiff, Nat.reduceAdd, Nat.reduceSub, Nat.reduceMul, reduceCtorEq, Int.reduceToNat, Int.reduceEq, Int.reduceLT, Int.reduceLE, Int.reduceNe, Int.reduceNeg, idx_nat, List.getElem?_map, List.getElem?_eq_getElem hlt, List.getElem?_eq_getElem hlt', Step.d, Sp.d]
        generalize a[i] = x at hs hne
        generalize b[i] = y at hs hne
        refine Br_split (fun he => ?_) (fun he => ?_) <;> simp only [go_sem, Nat.reduceBEq, Nat.reduceEqDiff, Nat.reduceLT, Nat.reduceLeDiff, Nat.reduceAdd, Nat.reduceSub, Nat.reduceMul, reduceCtorEq, Int.reduceToNat, Int.reduceEq, Int.reduceLT, Int.reduceLE, Int.reduceNe, Int.reduceNeg, he]
        · have hxy : x ≠ y := fun e => by subst e; simp at he
          simp [hne hxy]
        · have heq : x = y := by first | (simpa using he) | (cases x; cases y; simpa using he)
          refine ⟨i + 1, ⟨hlt, hs.2 heq⟩, by omega, ?_⟩
          simp [ForgetTo, EW, VW, BBq, BBs, BB, VBs, VB, Env.look, pubV, w64 (n := (i : Int) + 1) (by omega) (by omega)]
      · have hlt : ¬ i < a.length := by simpa using hd
        rw [List.take_of_length_le (by omega), List.take_of_length_le (by omega)] at hx
        simp [hx]

theorem c29 (a b : List Step) (ha : a.length ≤ 4294967296) (hb : b.length ≤ 4294967296) : PC prog 29 [.d (.sl (a.map Step.d)), .d (.sl (b.map Step.d))] (.d (.bool (decide (a = b)))) := by
  refine PC.run (fun _ => false) tt_ok (fn := f29) (rs := [.tmp 4]) rfl rfl rfl rfl rfl rfl rfl ?_
  simp only [go_sem, Nat.reduceBEq, Nat.reduceEqDiff, Nat.reduceLT, Nat.reduceLeDiff, Nat.reduceAdd, Nat.reduceSub, Nat.reduceMul, reduceCtorEq, Int.reduceToNat, Int.reduceEq, Int.reduceLT, Int.reduceLE, Int.reduceNe, Int.reduceNeg]
  refine Br_split (fun hc => ?_) (fun hc => ?_) <;> simp only [go_sem, Nat.reduceBEq, Nat.reduceEqDiff, Nat.reduceLT, Nat.reduceLeDiff, Nat.reduceAdd, Nat.reduceSub, Nat.reduceMul, reduceCtorEq, Int.reduceToNat, Int.reduceEq, Int.reduceLT, Int.reduceLE, Int.reduceNe, Int.reduceNeg, hc]
  · have : a ≠ b := fun e => by subst e; simp at hc
    simp [this]
  · have hlen : a.length = b.length := by simp at hc; omega
    refine ALoop.by (S := Nat) (fun i => [(5, .d (.int .i64 i)), (0, .d (.sl (a.map Step.d))), (1, .d (.sl (b.map Step.d)))]) (fun i => []) (fun i => a.length - i) (fun i => i ≤ a.length ∧ a.take i = b.take i) 0 (by simp) (fun _ h => nomatch h) ⟨Nat.zero_le _, rfl⟩ ?_ ?_
    · simp [ForgetTo, EW, VW, BBq, BBs, BB, VBs, VB, Env.look, pubV]
    · rintro i ⟨hi, hx⟩ hn
      refine AWP.run (fun _ => false) tt_ok (fun _ h => nomatch h) (by simp) rfl ?_
      simp only [go_sem, Nat.reduceBEq, Nat.reduceEqDiff, Nat.reduceLT, Nat.reduceLeDiff, Nat.reduceAdd, Nat.reduceSub, Nat.reduceMul, reduceCtorEq, Int.reduceToNat, Int.reduceEq, Int.reduceLT, Int.reduceLE, Int.reduceNe, Int.reduceNeg]
      refine Br_split (fun hd => ?_) (fun hd => ?_) <;> simp only [go_sem, Nat.reduceBEq, Nat.reduceEqDiff, Nat.reduceLT, Nat.reduceLeDiff, Nat.reduceAdd, Nat.reduceSub, Nat.reduceMul, reduceCtorEq, Int.reduceToNat, Int.reduceEq, Int.reduceLT, Int.reduceLE, Int.reduceNe, Int.reduceNeg, hd]
      · have hlt : i < a.length := by simpa using hd
        have hlt' : i < b.length := by omega
        have hs := take_succ_eq hlt hlt' hx
        have hne : a[i] ≠ b[i] → a ≠ b := fun h e => h (by subst e; rfl)
        refine ADrw.treeG (fun _ => false) tt_ok (by kernel_rfl) (fun k => .some .S) (.ones [0, 1, 2, 3, 4, 5, 6, 7, 8] .done) (by simp) (fun _ h => nomatch h) rfl rfl (by kernel_rfl) ?_
        simp only [go_sem, Nat.reduceBEq, Nat.reduceEqDiff, Nat.reduceLT, Nat.reduceLeDiff, Nat.reduceAdd, Nat.reduceSub, Nat.reduceMul, reduceCtorEq, Int.reduceToNat, Int.reduceEq, Int.reduceLT, Int.reduceLE, Int.reduceNe, Int.reduceNeg, idx_nat, List.getElem?_map, List.getElem?_eq_getElem hlt, List.getElem?_eq_getElem hlt', Step.d, Sp.d]
        generalize a[i] = x at hs hne
        generalize b[i] = y at hs hne
        refine Br_split (fun he => ?_) (fun he => ?_) <;> simp only [go_sem, Nat.reduceBEq, Nat.reduceEqDiff, Nat.reduceLT, Nat.reduceLeDiff, Nat.reduceAdd, Nat.reduceSub, Nat.reduceMul, reduceCtorEq, Int.reduceToNat, Int.reduceEq, Int.reduceLT, Int.reduceLE, Int.reduceNe, Int.reduceNeg, he]
        · have hxy : x ≠ y := fun e => by subst e; simp at he
          simp [hne hxy]
        · have heq : x = y := by first | (simpa using he) | (cases x; cases y; simpa using he)
          refine ⟨i + 1, ⟨hlt, hs.2 heq⟩, by omega, ?_⟩
          simp [ForgetTo, EW, VW, BBq, BBs, BB, VBs, VB, Env.look, pubV, w64 (n := (i : Int) + 1) (by omega) (by omega)]
      · have hlt : ¬ i < a.length := by simpa using hd
        rw [List.take_of_length_le (by omega), List.take_of_length_le (by omega)] at hx
        simp [hx]

theorem c53 (a b : List Sp) (ha : a.length ≤ 4294967296) (hb : b.length ≤ 4294967296) : PC prog 53 [.d (.sl (a.map Sp.d)), .d (.sl (b.map Sp.d))] (.d (.bool (decide (a = b)))) := by
  refine PC.run (fun _ => false) tt_ok (fn := f53) (rs := [.tmp 4]) rfl rfl rfl rfl rfl rfl rfl ?_
  simp only [go_sem, Nat.reduceBEq, Nat.reduceEqDiff, Nat.reduceLT, Nat.reduceLeDiff, Nat.reduceAdd, Nat.reduceSub, Nat.reduceMul, reduceCtorEq, Int.reduceToNat, Int.reduceEq, Int.reduceLT, Int.reduceLE, Int.reduceNe, Int.reduceNeg]
  refine Br_split (fun hc => ?_) (fun hc => ?_) <;> simp only [go_sem, Nat.reduceBEq, Nat.reduceEqDiff, Nat.reduceLT, Nat.reduceLeDiff, Nat.reduceAdd, Nat.reduceSub, Nat.reduceMul, reduceCtorEq, Int.reduceToNat, Int.reduceEq, Int.reduceLT, Int.reduceLE, Int.reduceNe, Int.reduceNeg, hc]
  · have : a ≠ b := fun e => by subst e; simp at hc
    simp [this]
  · have hlen : a.length = b.length := by simp at hc; omega
    refine ALoop.by (S := Nat) (fun i => [(5, .d (.int .i64 i)), (0, .d (.sl (a.map Sp.d))), (1, .d (.sl (b.map Sp.d)))]) (fun i => []) (fun i => a.length - i) (fun i => i ≤ a.length ∧ a.take i = b.take i) 0 (by simp) (fun _ h => nomatch h) ⟨Nat.zero_le _, rfl⟩ ?_ ?_
    · simp [ForgetTo, EW, VW, BBq, BBs, BB, VBs, VB, Env.look, pubV]
    · rintro i ⟨hi, hx⟩ hn
      refine AWP.run (fun _ => false) tt_ok (fun _ h => nomatch h) (by simp) rfl ?_
      simp only [go_sem, Nat.reduceBEq, Nat.reduceEqDiff, Nat.reduceLT, Nat.reduceLeDiff, Nat.reduceAdd, Nat.reduceSub, Nat.reduceMul, reduceCtorEq, Int.reduceToNat, Int.reduceEq, Int.reduceLT, Int.reduceLE, Int.reduceNe, Int.reduceNeg]
      refine Br_split (fun hd => ?_) (fun hd => ?_) <;> simp only [go_sem, Nat.reduceBEq, Nat.reduceEqDiff, Nat.reduceLT, Nat.reduceLeDiff, Nat.reduceAdd, Nat.reduceSub, Nat.reduceMul, reduceCtorEq, Int.reduceToNat, Int.reduceEq, Int.reduceLT, Int.reduceLE, Int.reduceNe, Int.reduceNeg, hd]
      · have hlt : i < a.length := by simpa using hd
        have hlt' : i < b.length := by omega
        have hs := take_succ_eq hlt hlt' hx
        have hne : a[i] ≠ b[i] → a ≠ b := fun h e => h (by subst e; rfl)
        refine ADrw.treeG (fun _ => false) tt_ok (by kernel_rfl) (fun k => .some .S) (.ones [0, 1, 2, 3, 4, 5, 6, 7, 8] .done) (by simp) (fun _ h => nomatch h) rfl rfl (by kernel_rfl) ?_
        simp only [go_sem, Nat.reduceBEq, Nat.reduceEqDiff, Nat.reduceLT, Nat.reduceLeDiff, Nat.reduceAdd, Nat.reduceSub, Nat.reduceMul, reduceCtorEq, Int.reduceToNat, Int.reduceEq, Int.reduceLT, Int.reduceLE, Int.reduceNe, Int.reduceNeg, idx_nat, List.getElem?_map, List.getElem?_eq_getElem hlt, List.getElem?_eq_getElem hlt', Step.d, Sp.d]
        generalize a[i] = x at hs hne
        generalize b[i] = y at hs hne
        refine Br_split (fun he => ?_) (fun he => ?_) <;> simp only [go_sem, Nat.reduceBEq, Nat.reduceEqDiff, Nat.reduceLT, Nat.reduceLeDiff, Nat.reduceAdd, Nat.reduceSub, Nat.reduceMul, reduceCtorEq, Int.reduceToNat, Int.reduceEq, Int.reduceLT, Int.reduceLE, Int.reduceNe, Int.reduceNeg, he]
        · have hxy : x ≠ y := fun e => by subst e; simp at he
          simp [hne hxy]
        · have heq : x = y := by first | (simpa using he) | (cases x; cases y; simpa using he)
          refine ⟨i + 1, ⟨hlt, hs.2 heq⟩, by omega, ?_⟩
          simp [ForgetTo, EW, VW, BBq, BBs, BB, VBs, VB, Env.look, pubV, w64 (n := (i : Int) + 1) (by omega) (by omega)]
      · have hlt : ¬ i < a.length := by simpa using hd
        rw [List.take_of_length_le (by omega), List.take_of_length_le (by omega)] at hx
        simp [hx]
end Go.Aw
end

section
set_option maxRecDepth 100000
namespace Go.Aw
open Go Go.Proofs.Try

theorem c24 (p h : Int) : PC prog 24 [.d (.int .i64 p), .d (.int .i64 h)] (.d (Step.mk p h).d) := by
  refine PC.run (fun _ => false) tt_ok (fn := f24) (rs := [.cell 4 39]) rfl rfl rfl rfl rfl rfl rfl ?_
  simp only [go_sem, Nat.reduceBEq, Nat.reduceEqDiff, Nat.reduceLT, Nat.reduceLeDiff, Nat.reduceAdd, Nat.reduceSub, Nat.reduceMul, reduceCtorEq, Int.reduceToNat, Int.reduceEq, Int.reduceLT, Int.reduceLE, Int.reduceNe, Int.reduceNeg, Step.d]

theorem c26 (p h : Int) : PC prog 26 [.d (.int .i64 p), .d (.int .i64 h)] (.d (Sp.mk p h).d) := by
  refine PC.run (fun _ => false) tt_ok (fn := f26) (rs := [.cell 4 23]) rfl rfl rfl rfl rfl rfl rfl ?_
  simp only [go_sem, Nat.reduceBEq, Nat.reduceEqDiff, Nat.reduceLT, Nat.reduceLeDiff, Nat.reduceAdd, Nat.reduceSub, Nat.reduceMul, reduceCtorEq, Int.reduceToNat, Int.reduceEq, Int.reduceLT, Int.reduceLE, Int.reduceNe, Int.reduceNeg, Sp.d]

theorem sized_plates (l : List Plate) : sized 4 (l.map Plate.d) = true := by
  simp [sized, Plate.d, dcells]

theorem c18 (b : Bath) (hb : b.plates.length ≤ 4294967295) : PC prog 18 [.d b.d] (.d b.d) := by
  refine PC.run (fun _ => false) tt_ok (fn := f18) (rs := [.cell 2 26]) rfl rfl rfl rfl rfl rfl rfl ?_
  have hsz := sized_plates b.plates
  have hle : b.plates.length ≤ 4294967296 := by omega
  simp only [go_sem, Nat.reduceBEq, Nat.reduceEqDiff, Nat.reduceLT, Nat.reduceLeDiff, Nat.reduceAdd, Nat.reduceSub, Nat.reduceMul, reduceCtorEq, Int.reduceToNat, Int.reduceEq, Int.reduceLT, Int.reduceLE, Int.reduceNe, Int.reduceNeg, Bath.d, hsz, hle, List.length_map, List.nil_append, Nat.zero_add]

theorem c35 (l : List Int) (n : Int) (hl : l.length ≤ 4294967296) : PC prog 35 [.d (.sl (l.map (.int .i64))), .d (.int .i64 n)] (.d (.bool (decide (n ∈ l)))) := by
  refine PC.run (fun _ => false) tt_ok (fn := f35) (rs := [.tmp 4]) rfl rfl rfl rfl rfl rfl rfl ?_
  simp only [go_sem, Nat.reduceBEq, Nat.reduceEqDiff, Nat.reduceLT, Nat.reduceLeDiff, Nat.reduceAdd, Nat.reduceSub, Nat.reduceMul, reduceCtorEq, Int.reduceToNat, Int.reduceEq, Int.reduceLT, Int.reduceLE, Int.reduceNe, Int.reduceNeg]
  refine ALoop.by (S := Nat) (fun i => [(5, .d (.int .i64 i)), (1, .d (.int .i64 n)), (0, .d (.sl (l.map (.int .i64))))]) (fun i => []) (fun i => l.length - i) (fun i => i ≤ l.length ∧ n ∉ l.take i) 0 (by simp) (fun _ h => nomatch h) ⟨Nat.zero_le _, by simp⟩ ?_ ?_
  · exact ForgetTo.same' (by simp) (by simp [EWe, Env.look]) rfl
  rintro i ⟨hi, hx⟩ hn
  refine AWP.run (fun _ => false) tt_ok (fun _ h => nomatch h) (by simp) rfl ?_
  simp only [go_sem, Nat.reduceBEq, Nat.reduceEqDiff, Nat.reduceLT, Nat.reduceLeDiff, Nat.reduceAdd, Nat.reduceSub, Nat.reduceMul, reduceCtorEq, Int.reduceToNat, Int.reduceEq, Int.reduceLT, Int.reduceLE, Int.reduceNe, Int.reduceNeg]
  refine Br_split (fun hd => ?_) (fun hd => ?_) <;> simp only [go_sem, Nat.reduceBEq, Nat.reduceEqDiff, Nat.reduceLT, Nat.reduceLeDiff, Nat.reduceAdd, Nat.reduceSub, Nat.reduceMul, reduceCtorEq, Int.reduceToNat, Int.reduceEq, Int.reduceLT, Int.reduceLE, Int.reduceNe, Int.reduceNeg, hd]
  · have hlt : i < l.length := by simpa using hd
    simp only [go_sem, Nat.reduceBEq, Nat.reduceEqDiff, Nat.reduceLT, Nat.reduceLeDiff, Nat.reduceAdd, Nat.reduceSub, Nat.reduceMul, reduceCtorEq, Int.reduceToNat, Int.reduceEq, Int.reduceLT, Int.reduceLE, Int.reduceNe, Int.reduceNeg, idx_nat, List.getElem?_map, List.getElem?_eq_getElem hlt]
    have hin := List.getElem_mem hlt
    have hst : l.take (i + 1) = l.take i ++ [l[i]] := List.take_succ_eq_append_getElem hlt
    generalize l[i] = x at hin hst
    refine Br_split (fun he => ?_) (fun he => ?_) <;> simp only [go_sem, Nat.reduceBEq, Nat.reduceEqDiff, Nat.reduceLT, Nat.reduceLeDiff, Nat.reduceAdd, Nat.reduceSub, Nat.reduceMul, reduceCtorEq, Int.reduceToNat, Int.reduceEq, Int.reduceLT, Int.reduceLE, Int.reduceNe, Int.reduceNeg, he]
    · have : x = n := by simpa using he
      subst this
      simp [hin]
    · have hne : ¬ n = x := fun e => by subst e; simp at he
      refine ⟨i + 1, ⟨hlt, by rw [hst]; simp [hx, hne]⟩, by omega, ?_⟩
      exact ForgetTo.same' (by simp) (by simp [EWe, Env.look, w64 (n := (i : Int) + 1) (by omega) (by omega)]) rfl
  · have hie : i = l.length := by simp at hd; omega
    subst hie
    rw [List.take_length] at hx
    simp [hx]

theorem c22 (a b : Bath) (ha : a.plates.length ≤ 4294967296) (hb : b.plates.length ≤ 4294967296) : PC prog 22 [.d a.d, .d b.d] (.d (.bool (decide (a = b)))) := by
  refine PC.run (fun _ => false) tt_ok (fn := f22) (rs := [.tmp 4]) rfl rfl rfl rfl rfl rfl rfl ?_
  simp only [go_sem, Nat.reduceBEq, Nat.reduceEqDiff, Nat.reduceLT, Nat.reduceLeDiff, Nat.reduceAdd, Nat.reduceSub, Nat.reduceMul, reduceCtorEq, Int.reduceToNat, Int.reduceEq, Int.reduceLT, Int.reduceLE, Int.reduceNe, Int.reduceNeg, Bath.d]
  have hne : ∀ h : ¬ (a.str = b.str ∧ a.plates = b.plates), decide (a = b) = false := fun h => by
    rw [decide_eq_false_iff_not]; intro e; subst e; exact h ⟨rfl, rfl⟩
  refine Br_split (fun h1 => ?_) (fun h1 => ?_) <;> simp only [go_sem, Nat.reduceBEq, Nat.reduceEqDiff, Nat.reduceLT, Nat.reduceLeDiff, Nat.reduceAdd, Nat.reduceSub, Nat.reduceMul, reduceCtorEq, Int.reduceToNat, Int.reduceEq, Int.reduceLT, Int.reduceLE, Int.reduceNe, Int.reduceNeg, h1]
  · rw [hne]
    rintro ⟨e1, _⟩
    rw [e1] at h1
    simp at h1
  have hstr : a.str = b.str := by
    cases hx : a.str; cases hy : b.str
    rw [hx, hy] at h1
    simpa using h1
  refine Br_split (fun h2 => ?_) (fun h2 => ?_) <;> simp only [go_sem, Nat.reduceBEq, Nat.reduceEqDiff, Nat.reduceLT, Nat.reduceLeDiff, Nat.reduceAdd, Nat.reduceSub, Nat.reduceMul, reduceCtorEq, Int.reduceToNat, Int.reduceEq, Int.reduceLT, Int.reduceLE, Int.reduceNe, Int.reduceNeg, h1, h2]
  · rw [hne]
    rintro ⟨_, e2⟩
    rw [e2] at h2
    simp at h2
  have hlen : a.plates.length = b.plates.length := by simp at h2; omega
  refine ALoop.by (S := Nat) (fun i => [(5, .d (.int .i64 i)), (3, .ptr 1 0), (2, .ptr 0 0)]) (fun i => [.cells [.d (.int .i64 a.str.lo), .d (.int .i64 a.str.hi), .d (.sl (a.plates.map Plate.d))], .cells [.d (.int .i64 b.str.lo), .d (.int .i64 b.str.hi), .d (.sl (b.plates.map Plate.d))]])
    (fun i => a.plates.length - i) (fun i => i ≤ a.plates.length ∧ a.plates.take i = b.plates.take i) 0 (by simp) (fun _ h => nomatch h) ⟨Nat.zero_le _, rfl⟩ ?_ ?_
  · exact ForgetTo.same' (by simp) (by simp [EWe, Env.look]) rfl
  rintro i ⟨hi, hx⟩ hn
  refine AWP.run (fun _ => false) tt_ok (fun _ h => nomatch h) (by simp) rfl ?_
  simp only [go_sem, Nat.reduceBEq, Nat.reduceEqDiff, Nat.reduceLT, Nat.reduceLeDiff, Nat.reduceAdd, Nat.reduceSub, Nat.reduceMul, reduceCtorEq, Int.reduceToNat, Int.reduceEq, Int.reduceLT, Int.reduceLE, Int.reduceNe, Int.reduceNeg]
  refine Br_split (fun hd => ?_) (fun hd => ?_) <;> simp only [go_sem, Nat.reduceBEq, Nat.reduceEqDiff, Nat.reduceLT, Nat.reduceLeDiff, Nat.reduceAdd, Nat.reduceSub, Nat.reduceMul, reduceCtorEq, Int.reduceToNat, Int.reduceEq, Int.reduceLT, Int.reduceLE, Int.reduceNe, Int.reduceNeg, hd]
  · have hlt : i < a.plates.length := by simpa using hd
    have hlt' : i < b.plates.length := by omega
    have hs := take_succ_eq hlt hlt' hx
    have hne2 : a.plates[i] ≠ b.plates[i] → a.plates ≠ b.plates := fun h e => h (by simp [e])
    refine ADrw.treeG (fun _ => false) tt_ok (by kernel_rfl) (fun k => if k = 1 ∨ k = 6 then some .L else some .S) (.ones [0, 1, 2, 3, 4, 5, 6, 7, 8, 9, 10] .done) (by simp) (fun _ h => nomatch h) rfl rfl (by kernel_rfl) ?_
    simp only [go_sem, Nat.reduceBEq, Nat.reduceEqDiff, Nat.reduceLT, Nat.reduceLeDiff, Nat.reduceAdd, Nat.reduceSub, Nat.reduceMul, reduceCtorEq, Int.reduceToNat, Int.reduceEq, Int.reduceLT, Int.reduceLE, Int.reduceNe, Int.reduceNeg, idx_nat, List.getElem?_map, List.getElem?_eq_getElem hlt, List.getElem?_eq_getElem hlt', Plate.d]
    generalize a.plates[i] = x at hs hne2
    generalize b.plates[i] = y at hs hne2
    refine Br_split (fun he => ?_) (fun he => ?_) <;> simp only [go_sem, Nat.reduceBEq, Nat.reduceEqDiff, Nat.reduceLT, Nat.reduceLeDiff, Nat.reduceAdd, Nat.reduceSub, Nat.reduceMul, reduceCtorEq, Int.reduceToNat, Int.reduceEq, Int.reduceLT, Int.reduceLE, Int.reduceNe, Int.reduceNeg, he]
    · have hxy : x ≠ y := fun e => by subst e; simp at he
      rw [hne]
      rintro ⟨_, e2⟩
      exact hne2 hxy e2
    · have heq : x = y := by
        obtain ⟨⟨x1, x2⟩, x3, x4⟩ := x
        obtain ⟨⟨y1, y2⟩, y3, y4⟩ := y
        simp at he
        simp [he]
      refine ⟨i + 1, ⟨hlt, hs.2 heq⟩, by omega, ?_⟩
      exact ForgetTo.same' (by simp) (by simp [EWe, Env.look, w64 (n := (i : Int) + 1) (by omega) (by omega)]) rfl
  · have hlt : ¬ i < a.plates.length := by simpa using hd
    rw [List.take_of_length_le (by omega), List.take_of_length_le (by omega)] at hx
    have : a = b := by
      obtain ⟨x, y⟩ := a
      obtain ⟨x', y'⟩ := b
      simp only at hstr hx
      rw [hstr, hx]
    simp [this]

theorem valid_iff (s : Sp) (a b : Int) : (decide (s.lo ≥ a) && decide (s.lo ≤ s.hi) && decide (s.hi ≤ b)) = (within a b [s.lo, s.hi] && decide (s.lo ≤ s.hi)) := by
  rw [Bool.eq_iff_iff]
  simp [within]
  omega

theorem in_iff (n a b : Int) : (decide (n ≥ a) && decide (n ≤ b)) = within a b [n] := by
  rw [Bool.eq_iff_iff]
  simp [within]

theorem c21 (b : Bath) (hb : b.plates.length ≤ 4294967296) : PC prog 21 [.d b.d] (.d (.int .i64 (checkP b))) := by
  refine PC.run (fun _ => false) tt_ok (fn := f21) (rs := [.tmp 2]) rfl rfl rfl rfl rfl rfl rfl ?_
  simp only [go_sem, Nat.reduceBEq, Nat.reduceEqDiff, Nat.reduceLT, Nat.reduceLeDiff, Nat.reduceAdd, Nat.reduceSub, Nat.reduceMul, reduceCtorEq, Int.reduceToNat, Int.reduceEq, Int.reduceLT, Int.reduceLE, Int.reduceNe, Int.reduceNeg, Bath.d]
  refine (c47 b.str 1 40).call rfl rfl rfl ?_
  rw [valid_iff]
  simp only [go_sem, Nat.reduceBEq, Nat.reduceEqDiff, Nat.reduceLT, Nat.reduceLeDiff, Nat.reduceAdd, Nat.reduceSub, Nat.reduceMul, reduceCtorEq, Int.reduceToNat, Int.reduceEq, Int.reduceLT, Int.reduceLE, Int.reduceNe, Int.reduceNeg]
  refine Br_split (fun h1 => ?_) (fun h1 => ?_) <;> simp only [go_sem, Nat.reduceBEq, Nat.reduceEqDiff, Nat.reduceLT, Nat.reduceLeDiff, Nat.reduceAdd, Nat.reduceSub, Nat.reduceMul, reduceCtorEq, Int.reduceToNat, Int.reduceEq, Int.reduceLT, Int.reduceLE, Int.reduceNe, Int.reduceNeg, h1]
  · simp only [checkP, h1, if_true]
  refine Br_split (fun h2 => ?_) (fun h2 => ?_) <;> simp only [go_sem, Nat.reduceBEq, Nat.reduceEqDiff, Nat.reduceLT, Nat.reduceLeDiff, Nat.reduceAdd, Nat.reduceSub, Nat.reduceMul, reduceCtorEq, Int.reduceToNat, Int.reduceEq, Int.reduceLT, Int.reduceLE, Int.reduceNe, Int.reduceNeg, h1, h2]
  · have : b.plates.length > 5 := by simp at h2; omega
    simp only [checkP, h1, if_pos this]
    simp
  have h5 : ¬ b.plates.length > 5 := by simp at h2; omega
  have hch : checkP b = if b.plates.any badPlate = true then 2 else 0 := by
    simp only [checkP, h1, if_neg h5]
    simp
  rw [hch]
  refine ALoop.by (S := Nat) (fun i => [(3, .d (.int .i64 i)), (1, .ptr 0 0)]) (fun i => [.cells [.d (.int .i64 b.str.lo), .d (.int .i64 b.str.hi), .d (.sl (b.plates.map Plate.d))]])
    (fun i => b.plates.length - i) (fun i => i ≤ b.plates.length ∧ (b.plates.take i).any badPlate = false) 0 (by simp) (fun _ h => nomatch h) ⟨Nat.zero_le _, rfl⟩ ?_ ?_
  · exact ForgetTo.same' (by simp) (by simp [EWe, Env.look]) rfl
  rintro i ⟨hi, hx⟩ hn
  refine AWP.run (fun _ => false) tt_ok (fun _ h => nomatch h) (by simp) rfl ?_
  simp only [go_sem, Nat.reduceBEq, Nat.reduceEqDiff, Nat.reduceLT, Nat.reduceLeDiff, Nat.reduceAdd, Nat.reduceSub, Nat.reduceMul, reduceCtorEq, Int.reduceToNat, Int.reduceEq, Int.reduceLT, Int.reduceLE, Int.reduceNe, Int.reduceNeg]
  refine Br_split (fun hd => ?_) (fun hd => ?_) <;> simp only [go_sem, Nat.reduceBEq, Nat.reduceEqDiff, Nat.reduceLT, Nat.reduceLeDiff, Nat.reduceAdd, Nat.reduceSub, Nat.reduceMul, reduceCtorEq, Int.reduceToNat, Int.reduceEq, Int.reduceLT, Int.reduceLE, Int.reduceNe, Int.reduceNeg, hd]
  · have hlt : i < b.plates.length := by simpa using hd
    have hst : (b.plates.take (i + 1)).any badPlate = badPlate b.plates[i] := by
      rw [List.take_add_one, List.getElem?_eq_getElem hlt, List.any_append, hx]; simp
    have hmem : badPlate b.plates[i] = true → b.plates.any badPlate = true := fun h => List.any_eq_true.2 ⟨_, List.getElem_mem hlt, h⟩
    simp only [go_sem, Nat.reduceBEq, Nat.reduceEqDiff, Nat.reduceLT, Nat.reduceLeDiff, Nat.reduceAdd, Nat.reduceSub, Nat.reduceMul, reduceCtorEq, Int.reduceToNat, Int.reduceEq, Int.reduceLT, Int.reduceLE, Int.reduceNe, Int.reduceNeg, idx_nat, List.getElem?_map, List.getElem?_eq_getElem hlt, Plate.d]
    generalize b.plates[i] = p at hst hmem
    refine (c47 p.rust 0 600).call rfl rfl rfl ?_
    rw [valid_iff]
    simp only [go_sem, Nat.reduceBEq, Nat.reduceEqDiff, Nat.reduceLT, Nat.reduceLeDiff, Nat.reduceAdd, Nat.reduceSub, Nat.reduceMul, reduceCtorEq, Int.reduceToNat, Int.reduceEq, Int.reduceLT, Int.reduceLE, Int.reduceNe, Int.reduceNeg, hd]
    refine Br_split (fun g1 => ?_) (fun g1 => ?_) <;> simp only [go_sem, Nat.reduceBEq, Nat.reduceEqDiff, Nat.reduceLT, Nat.reduceLeDiff, Nat.reduceAdd, Nat.reduceSub, Nat.reduceMul, reduceCtorEq, Int.reduceToNat, Int.reduceEq, Int.reduceLT, Int.reduceLE, Int.reduceNe, Int.reduceNeg, hd, g1]
    · rw [if_pos (hmem (by simp only [badPlate, g1, Bool.true_or]))]
    refine (c34 p.takes 0 10).call rfl rfl rfl ?_
    rw [in_iff]
    simp only [go_sem, Nat.reduceBEq, Nat.reduceEqDiff, Nat.reduceLT, Nat.reduceLeDiff, Nat.reduceAdd, Nat.reduceSub, Nat.reduceMul, reduceCtorEq, Int.reduceToNat, Int.reduceEq, Int.reduceLT, Int.reduceLE, Int.reduceNe, Int.reduceNeg, hd, g1]
    refine Br_split (fun g2 => ?_) (fun g2 => ?_) <;> simp only [go_sem, Nat.reduceBEq, Nat.reduceEqDiff, Nat.reduceLT, Nat.reduceLeDiff, Nat.reduceAdd, Nat.reduceSub, Nat.reduceMul, reduceCtorEq, Int.reduceToNat, Int.reduceEq, Int.reduceLT, Int.reduceLE, Int.reduceNe, Int.reduceNeg, hd, g1, g2]
    · rw [if_pos (hmem (by simp only [badPlate, g1, g2, Bool.true_or, Bool.or_true]))]
    refine (c34 p.thin 0 300).call rfl rfl rfl ?_
    rw [in_iff]
    simp only [go_sem, Nat.reduceBEq, Nat.reduceEqDiff, Nat.reduceLT, Nat.reduceLeDiff, Nat.reduceAdd, Nat.reduceSub, Nat.reduceMul, reduceCtorEq, Int.reduceToNat, Int.reduceEq, Int.reduceLT, Int.reduceLE, Int.reduceNe, Int.reduceNeg, hd, g1, g2]
    refine Br_split (fun g3 => ?_) (fun g3 => ?_) <;> simp only [go_sem, Nat.reduceBEq, Nat.reduceEqDiff, Nat.reduceLT, Nat.reduceLeDiff, Nat.reduceAdd, Nat.reduceSub, Nat.reduceMul, reduceCtorEq, Int.reduceToNat, Int.reduceEq, Int.reduceLT, Int.reduceLE, Int.reduceNe, Int.reduceNeg, hd, g1, g2, g3]
    · rw [if_pos (hmem (by simp only [badPlate, g1, g2, g3, Bool.or_true]))]
    · refine ⟨i + 1, ⟨hlt, by rw [hst]; simp only [badPlate, g1, g2, g3, Bool.or_false]⟩, by omega, ?_⟩
      refine ForgetTo.drop (H0 := [_]) (Y := [_]) (Nat.zero_le _) rfl (by simp [BBs, BB, VBs, VB]) ?_
      simp [EWp, Env.look, pubV, w64 (n := (i : Int) + 1) (by omega) (by omega)]
  · have hie : i = b.plates.length := by simp at hd; omega
    subst hie
    rw [List.take_length] at hx
    simp [hx]
end Go.Aw
end

section
set_option maxRecDepth 100000
namespace Go.Aw
open Go Go.Proofs.Try

def weakF (b : Bath) (l : List Int) (s : Int) : Int := l.foldl (fun s p => max 0 (s - (b.pl p).takes)) s

theorem weakF_bnd {b : Bath} (hok : b.Ok) : ∀ (l : List Int) (s : Int), 0 ≤ s → s ≤ 40 → 0 ≤ weakF b l s ∧ weakF b l s ≤ 40
  | [], s, h1, h2 => ⟨h1, h2⟩
  | p :: r, s, h1, h2 => by
    have hp := hok.pl p
    simp only [Plate.Ok] at hp
    exact weakF_bnd hok r (max 0 (s - (b.pl p).takes)) (by omega) (by omega)

theorem c27 {b : Bath} (hok : b.Ok) (l : List Int) (s : Int) (hl : l.length ≤ 4294967296) (hs : 0 ≤ s ∧ s ≤ 40) (hm : ∀ p ∈ l, 0 ≤ p ∧ p < b.plates.length) : PC prog 27 [.d b.d, .d (.sl (l.map (.int .i64))), .d (.int .i64 s)] (.d (.int .i64 (weakF b l s))) := by
  refine PC.run (fun _ => false) tt_ok (fn := f27) (rs := [.tmp 6]) rfl rfl rfl rfl rfl rfl rfl ?_
  simp only [go_sem, Nat.reduceBEq, Nat.reduceEqDiff, Nat.reduceLT, Nat.reduceLeDiff, Nat.reduceAdd, Nat.reduceSub, Nat.reduceMul, reduceCtorEq, Int.reduceToNat, Int.reduceEq, Int.reduceLT, Int.reduceLE, Int.reduceNe, Int.reduceNeg, Bath.d]
  refine ALoop.by (S := Nat) (fun i => [(7, .d (.int .i64 i)), (3, .ptr 0 0), (2, .d (.int .i64 (weakF b (l.take i) s))), (1, .d (.sl (l.map (.int .i64))))]) (fun i => [.cells [.d (.int .i64 b.str.lo), .d (.int .i64 b.str.hi), .d (.sl (b.plates.map Plate.d))]])
    (fun i => l.length - i) (fun i => i ≤ l.length) 0 (by simp) (fun _ h => nomatch h) (Nat.zero_le _) ?_ ?_
  · exact ForgetTo.same' (by simp) (by simp [EWe, Env.look, weakF]) rfl
  rintro i hi hn
  refine AWP.run (fun _ => false) tt_ok (fun _ h => nomatch h) (by simp) rfl ?_
  simp only [go_sem, Nat.reduceBEq, Nat.reduceEqDiff, Nat.reduceLT, Nat.reduceLeDiff, Nat.reduceAdd, Nat.reduceSub, Nat.reduceMul, reduceCtorEq, Int.reduceToNat, Int.reduceEq, Int.reduceLT, Int.reduceLE, Int.reduceNe, Int.reduceNeg]
  refine Br_split (fun hd => ?_) (fun hd => ?_) <;> simp only [go_sem, Nat.reduceBEq, Nat.reduceEqDiff, Nat.reduceLT, Nat.reduceLeDiff, Nat.reduceAdd, Nat.reduceSub, Nat.reduceMul, reduceCtorEq, Int.reduceToNat, Int.reduceEq, Int.reduceLT, Int.reduceLE, Int.reduceNe, Int.reduceNeg, hd]
  · have hlt : i < l.length := by simpa using hd
    have hp := hm _ (List.getElem_mem hlt)
    have hpl := hok.pl l[i]
    simp only [Plate.Ok] at hpl
    have hw := weakF_bnd hok (l.take i) s hs.1 hs.2
    have hst : weakF b (l.take (i + 1)) s = max 0 (weakF b (l.take i) s - (b.pl l[i]).takes) := by
      rw [weakF, List.take_add_one, List.getElem?_eq_getElem hlt, List.foldl_append]; rfl
    have hat := Bath.at (b := b) hp
    have hix : idx? (l.map (D.int .i64)) (i : Int) = some (.int .i64 l[i]) := by simp [idx?, List.getElem?_eq_getElem hlt]
    generalize l[i] = q at hp hpl hst hat hix
    refine ADrw.treeG (fun _ => false) tt_ok (by kernel_rfl) (fun k => if k = 2 then some .L else some .S) (.ones [0, 1, 2, 3, 4, 5, 6, 7, 8, 9, 10, 11, 12] .done) (by simp) (fun _ h => nomatch h) rfl rfl (by kernel_rfl) ?_
    simp only [go_sem, Nat.reduceBEq, Nat.reduceEqDiff, Nat.reduceLT, Nat.reduceLeDiff, Nat.reduceAdd, Nat.reduceSub, Nat.reduceMul, reduceCtorEq, Int.reduceToNat, Int.reduceEq, Int.reduceLT, Int.reduceLE, Int.reduceNe, Int.reduceNeg, hix, hat, Plate.d]
    refine ⟨i + 1, hlt, by omega, ?_⟩
    exact ForgetTo.same' (by simp) (by simp [EWe, Env.look, hst, w64 (n := (i : Int) + 1) (by omega) (by omega), w64 (n := weakF b (l.take i) s - (b.pl q).takes) (by omega) (by omega)]) rfl
  · have hie : i = l.length := by simp at hd; omega
    subst hie
    rw [List.take_length]

/-- Steps, as the reference asks them. -/
theorem c25 (b : Bath) (l : List Step) (hb : b.plates.length ≤ 62) (hl : l.length ≤ 1000) : PC prog 25 [.d b.d, .d (.sl (l.map Step.d))] (.d (.bool (stepsOk b.plates.length 0 l))) := by
  refine PC.run (fun k => k == 7) tt_ok (fn := f25) (rs := [.tmp 4]) rfl rfl rfl rfl rfl rfl rfl ?_
  simp only [go_sem, Nat.reduceBEq, Nat.reduceEqDiff, Nat.reduceLT, Nat.reduceLeDiff, Nat.reduceAdd, Nat.reduceSub, Nat.reduceMul, reduceCtorEq, Int.reduceToNat, Int.reduceEq, Int.reduceLT, Int.reduceLE, Int.reduceNe, Int.reduceNeg, Bath.d]
  refine ALoop.by (S := Nat × Nat) (fun s => [(6, .d (.int .i64 s.1)), (5, .ref 1 s.1 0 s.1), (2, .ptr 0 0), (1, .d (.sl (l.map Step.d)))])
    (fun s => [.cells [.d (.int .i64 b.str.lo), .d (.int .i64 b.str.hi), .d (.sl (b.plates.map Plate.d))], .arr 1 false (((l.take s.1).map Step.plate).map (.int .i64))])
    (fun s => l.length - s.1) (fun s => s.1 ≤ l.length ∧ stepsOk b.plates.length s.2 (l.drop s.1) = stepsOk b.plates.length 0 l ∧ ∀ q : Nat, s.2.testBit q = decide ((q : Int) ∈ (l.take s.1).map Step.plate)) (0, 0) (by simp) (fun _ h => nomatch h) ⟨Nat.zero_le _, rfl, by simp⟩ ?_ ?_
  · exact ForgetTo.same' (by simp) (by simp [EWe, Env.look]) (by simp)
  rintro ⟨i, d⟩ ⟨hi, hx, hq⟩ hn
  simp only at hi hx hq hn ⊢
  refine AWP.run (fun k => k == 7) tt_ok (fun _ h => nomatch h) (by simp) rfl ?_
  simp only [go_sem, Nat.reduceBEq, Nat.reduceEqDiff, Nat.reduceLT, Nat.reduceLeDiff, Nat.reduceAdd, Nat.reduceSub, Nat.reduceMul, reduceCtorEq, Int.reduceToNat, Int.reduceEq, Int.reduceLT, Int.reduceLE, Int.reduceNe, Int.reduceNeg]
  refine Br_split (fun hd => ?_) (fun hd => ?_) <;> simp only [go_sem, Nat.reduceBEq, Nat.reduceEqDiff, Nat.reduceLT, Nat.reduceLeDiff, Nat.reduceAdd, Nat.reduceSub, Nat.reduceMul, reduceCtorEq, Int.reduceToNat, Int.reduceEq, Int.reduceLT, Int.reduceLE, Int.reduceNe, Int.reduceNeg, hd]
  · have hlt : i < l.length := by simpa using hd
    rw [List.drop_eq_getElem_cons hlt] at hx
    have hix : idx? (l.map Step.d) (i : Int) = some (l[i]).d := by simp [idx?, List.getElem?_eq_getElem hlt]
    have hst : (l.take (i + 1)).map Step.plate = (l.take i).map Step.plate ++ [l[i].plate] := by
      rw [List.take_add_one, List.getElem?_eq_getElem hlt, List.map_append]; rfl
    simp only [stepsOk] at hx
    generalize l[i] = s at hix hst hx
    have hp1 : IntKind.i64.wrap ((b.plates.length : Int) - 1) = (b.plates.length : Int) - 1 := w64 (by omega) (by omega)
    have hln : (((l.take i).map Step.plate).map (D.int .i64)).length = i := by simp; omega
    have hln2 : (l.take i).length = i := by simp; omega
    have hi95 : i ≤ 4294967295 := by omega
    have htk : (((l.take i).map Step.plate).map (D.int .i64)).take i = ((l.take i).map Step.plate).map (D.int .i64) := List.take_of_length_le (by omega)
    have hnx : IntKind.i64.wrap ((i : Int) + 1) = ((i + 1 : Nat) : Int) := w64 (by omega) (by omega)
    refine ADrw.treeG (fun k => k == 7) tt_ok (by kernel_rfl) (fun k => if k = 6 then some .L else if k = 27 then some .R else some .S) (.ones [0, 1, 2, 3, 4, 5, 6, 7, 8, 9, 10, 11, 12, 13, 14, 15, 16, 17, 18, 19, 20, 21, 22, 23, 24, 25, 26, 27, 28] .done) (by simp) (fun _ h => nomatch h) rfl rfl (by kernel_rfl) ?_
    simp only [go_sem, Nat.reduceBEq, Nat.reduceEqDiff, Nat.reduceLT, Nat.reduceLeDiff, Nat.reduceAdd, Nat.reduceSub, Nat.reduceMul, reduceCtorEq, Int.reduceToNat, Int.reduceEq, Int.reduceLT, Int.reduceLE, Int.reduceNe, Int.reduceNeg, hix, Step.d, hp1]
    refine (c34 s.plate 0 ((b.plates.length : Int) - 1)).callS rfl rfl rfl rfl rfl rfl ?_
    rw [in_iff]
    simp only [go_sem, Nat.reduceBEq, Nat.reduceEqDiff, Nat.reduceLT, Nat.reduceLeDiff, Nat.reduceAdd, Nat.reduceSub, Nat.reduceMul, reduceCtorEq, Int.reduceToNat, Int.reduceEq, Int.reduceLT, Int.reduceLE, Int.reduceNe, Int.reduceNeg, hix, Step.d, hp1]
    refine Br_split (fun h1 => ?_) (fun h1 => ?_) <;> simp only [go_sem, Nat.reduceBEq, Nat.reduceEqDiff, Nat.reduceLT, Nat.reduceLeDiff, Nat.reduceAdd, Nat.reduceSub, Nat.reduceMul, reduceCtorEq, Int.reduceToNat, Int.reduceEq, Int.reduceLT, Int.reduceLE, Int.reduceNe, Int.reduceNeg, hix, Step.d, hp1, h1]
    · rw [if_pos (by simp only [stepBad, h1, Bool.true_or])] at hx
      rw [← hx]
    refine (c34 s.hours 1 24).callS rfl rfl rfl rfl rfl rfl ?_
    rw [in_iff]
    simp only [go_sem, Nat.reduceBEq, Nat.reduceEqDiff, Nat.reduceLT, Nat.reduceLeDiff, Nat.reduceAdd, Nat.reduceSub, Nat.reduceMul, reduceCtorEq, Int.reduceToNat, Int.reduceEq, Int.reduceLT, Int.reduceLE, Int.reduceNe, Int.reduceNeg, hix, Step.d, hp1, h1]
    refine Br_split (fun h2 => ?_) (fun h2 => ?_) <;> simp only [go_sem, Nat.reduceBEq, Nat.reduceEqDiff, Nat.reduceLT, Nat.reduceLeDiff, Nat.reduceAdd, Nat.reduceSub, Nat.reduceMul, reduceCtorEq, Int.reduceToNat, Int.reduceEq, Int.reduceLT, Int.reduceLE, Int.reduceNe, Int.reduceNeg, hix, Step.d, hp1, h1, h2]
    · rw [if_pos (by simp only [stepBad, h2, Bool.true_or, Bool.or_true])] at hx
      rw [← hx]
    have hp0 : 0 ≤ s.plate ∧ s.plate < b.plates.length := by
      have := within_one.1 (by simpa using h1); omega
    obtain ⟨q, hqe⟩ : ∃ q : Nat, s.plate = q := ⟨s.plate.toNat, by omega⟩
    refine (c35 ((l.take i).map Step.plate) s.plate (by simp; omega)).callD rfl (by simp only [List.nil_append, List.append_nil, List.cons_append, List.map_cons, List.map_nil, dz, pubVs, pubV, htk, hln]; simp [htk, List.take_take, show min i l.length = i by omega]) rfl ?_
    have hqq := hq q
    rw [← hqe] at hqq
    rw [← hqq]
    simp only [go_sem, Nat.reduceBEq, Nat.reduceEqDiff, Nat.reduceLT, Nat.reduceLeDiff, Nat.reduceAdd, Nat.reduceSub, Nat.reduceMul, reduceCtorEq, Int.reduceToNat, Int.reduceEq, Int.reduceLT, Int.reduceLE, Int.reduceNe, Int.reduceNeg, hix, Step.d, hp1, h1, h2]
    refine Br_split (fun h3 => ?_) (fun h3 => ?_) <;> simp only [go_sem, Nat.reduceBEq, Nat.reduceEqDiff, Nat.reduceLT, Nat.reduceLeDiff, Nat.reduceAdd, Nat.reduceSub, Nat.reduceMul, reduceCtorEq, Int.reduceToNat, Int.reduceEq, Int.reduceLT, Int.reduceLE, Int.reduceNe, Int.reduceNeg, hix, Step.d, hp1, h1, h2, h3]
    · rw [if_pos (by simp only [stepBad, hqe, Int.toNat_natCast, h3, Bool.or_true])] at hx
      rw [← hx]
    · rw [if_neg (by simp only [stepBad, hqe, Int.toNat_natCast, h3, h2, Bool.or_false]; rw [← hqe, h1]; simp), hqe, Int.toNat_natCast] at hx
      have hi1 : i + 1 ≤ 4294967296 := by omega
      simp only [go_sem, Nat.reduceBEq, Nat.reduceEqDiff, Nat.reduceLT, Nat.reduceLeDiff, Nat.reduceAdd, Nat.reduceSub, Nat.reduceMul, reduceCtorEq, Int.reduceToNat, Int.reduceEq, Int.reduceLT, Int.reduceLE, Int.reduceNe, Int.reduceNeg, hix, Step.d, hln, hln2, hi95, hi1]
      refine ⟨(i + 1, d ||| 2 ^ q), ⟨hlt, hx, fun q' => ?_⟩, by simp only; omega, ?_⟩
      · simp only [hst, hqe]
        rw [Nat.testBit_or, hq q', Nat.testBit_two_pow, Bool.eq_iff_iff]
        simp only [Bool.or_eq_true, decide_eq_true_eq, List.mem_append, List.mem_singleton]
        exact or_congr Iff.rfl (by omega)
      · exact ForgetTo.same' (by simp) (by simp [EWe, Env.look, hnx]) (by simp [hst])
  · have hie : i = l.length := by simp at hd; omega
    subst hie
    rw [List.drop_eq_nil_of_le (Nat.le_refl _)] at hx
    simp only [stepsOk] at hx
    rw [← hx]
end Go.Aw
end

section
set_option maxRecDepth 100000
namespace Go.Aw
open Go Go.Proofs.Try

def exB (l : List Int) : Bath := ⟨⟨10, 12⟩, [⟨⟨40, 44⟩, l.getD 0 1, 30⟩, ⟨⟨50, 60⟩, l.getD 1 2, 40⟩, ⟨⟨20, 22⟩, l.getD 2 1, 16⟩]⟩

theorem exB_set (l : List Int) (hl : l.length ≤ 2) {i : Nat} (hi : i < l.length) : ((exB (l.take i)).plates.map Plate.d).set i (.agg [.int .i64 ((exB []).pl i).rust.lo, .int .i64 ((exB []).pl i).rust.hi, .int .i64 l[i], .int .i64 ((exB []).pl i).thin]) = (exB (l.take (i + 1))).plates.map Plate.d := by
  match l, hl with
  | [], _ => simp at hi
  | [a], _ =>
    obtain rfl : i = 0 := by simp at hi; omega
    rfl
  | [a, b], _ =>
    have : i = 0 ∨ i = 1 := by simp at hi; omega
    rcases this with rfl | rfl <;> rfl

theorem exB_get (l : List Int) (hl : l.length ≤ 2) {i : Nat} (hi : i < l.length) : ((exB (l.take i)).plates.map Plate.d)[i]? = some (.agg [.int .i64 ((exB []).pl i).rust.lo, .int .i64 ((exB []).pl i).rust.hi, .int .i64 ((exB []).pl i).takes, .int .i64 ((exB []).pl i).thin]) := by
  match l, hl with
  | [], _ => simp at hi
  | [a], _ =>
    obtain rfl : i = 0 := by simp at hi; omega
    rfl
  | [a, b], _ =>
    have : i = 0 ∨ i = 1 := by simp at hi; omega
    rcases this with rfl | rfl <;> rfl

theorem c71 (l : List Int) (hl : l.length ≤ 2) : PC prog 71 [.d (.sl (l.map (.int .i64)))] (.d (exB l).d) := by
  refine PC.run (fun k => k == 12) tt_ok (fn := f71) (rs := [.cell 2 26]) rfl rfl rfl rfl rfl rfl rfl ?_
  simp only [go_sem, Nat.reduceBEq, Nat.reduceEqDiff, Nat.reduceLT, Nat.reduceLeDiff, Nat.reduceAdd, Nat.reduceSub, Nat.reduceMul, reduceCtorEq, Int.reduceToNat, Int.reduceEq, Int.reduceLT, Int.reduceLE, Int.reduceNe, Int.reduceNeg]
  refine (c26 10 12).call rfl rfl rfl ?_
  simp only [go_sem, Nat.reduceBEq, Nat.reduceEqDiff, Nat.reduceLT, Nat.reduceLeDiff, Nat.reduceAdd, Nat.reduceSub, Nat.reduceMul, reduceCtorEq, Int.reduceToNat, Int.reduceEq, Int.reduceLT, Int.reduceLE, Int.reduceNe, Int.reduceNeg]
  refine (c26 40 44).call rfl rfl rfl ?_
  simp only [go_sem, Nat.reduceBEq, Nat.reduceEqDiff, Nat.reduceLT, Nat.reduceLeDiff, Nat.reduceAdd, Nat.reduceSub, Nat.reduceMul, reduceCtorEq, Int.reduceToNat, Int.reduceEq, Int.reduceLT, Int.reduceLE, Int.reduceNe, Int.reduceNeg, Sp.d]
  refine (c26 50 60).call rfl rfl rfl ?_
  simp only [go_sem, Nat.reduceBEq, Nat.reduceEqDiff, Nat.reduceLT, Nat.reduceLeDiff, Nat.reduceAdd, Nat.reduceSub, Nat.reduceMul, reduceCtorEq, Int.reduceToNat, Int.reduceEq, Int.reduceLT, Int.reduceLE, Int.reduceNe, Int.reduceNeg, Sp.d]
  refine (c26 20 22).call rfl rfl rfl ?_
  simp only [go_sem, Nat.reduceBEq, Nat.reduceEqDiff, Nat.reduceLT, Nat.reduceLeDiff, Nat.reduceAdd, Nat.reduceSub, Nat.reduceMul, reduceCtorEq, Int.reduceToNat, Int.reduceEq, Int.reduceLT, Int.reduceLE, Int.reduceNe, Int.reduceNeg, Sp.d]
  refine ALoop.by (S := Nat) (fun i => [(4, .d (.int .i64 i)), (3, .ptr 2 0), (2, .ptr 0 0), (0, .d (.sl (l.map (.int .i64))))])
    (fun i => [.cells [.d (.int .i64 0), .d (.int .i64 0), .d (.sl [])], .arr 4 false ((exB (l.take i)).plates.map Plate.d), .cells [.d (.int .i64 10), .d (.int .i64 12), .ref 1 3 0 3]]) (fun i => l.length - i) (fun i => i ≤ l.length) 0 (by simp) (fun _ h => nomatch h) (Nat.zero_le _) ?_ ?_
  · exact ForgetTo.same' (by simp) (by simp [EWe, Env.look]) (by simp [exB, Plate.d])
  rintro i hi hn
  refine AWP.run (fun _ => false) tt_ok (fun _ h => nomatch h) (by simp) rfl ?_
  simp only [go_sem, Nat.reduceBEq, Nat.reduceEqDiff, Nat.reduceLT, Nat.reduceLeDiff, Nat.reduceAdd, Nat.reduceSub, Nat.reduceMul, reduceCtorEq, Int.reduceToNat, Int.reduceEq, Int.reduceLT, Int.reduceLE, Int.reduceNe, Int.reduceNeg]
  refine Br_split (fun hd => ?_) (fun hd => ?_) <;> simp only [go_sem, Nat.reduceBEq, Nat.reduceEqDiff, Nat.reduceLT, Nat.reduceLeDiff, Nat.reduceAdd, Nat.reduceSub, Nat.reduceMul, reduceCtorEq, Int.reduceToNat, Int.reduceEq, Int.reduceLT, Int.reduceLE, Int.reduceNe, Int.reduceNeg, hd]
  · have hlt : i < l.length := by simpa using hd
    have hix : idx? (l.map (D.int .i64)) (i : Int) = some (.int .i64 l[i]) := by simp [idx?, List.getElem?_eq_getElem hlt]
    have hget := exB_get l hl hlt
    have hset := exB_set l hl hlt
    have hlen : ((exB (l.take i)).plates.map Plate.d).length = 3 := rfl
    have c1 : (0 : Int) ≤ (i : Int) := by omega
    have c2 : (i : Int) < 3 := by omega
    generalize (exB (l.take i)).plates.map Plate.d = ps at hget hset hlen
    generalize l[i] = x at hix hset
    refine ADrw.treeG (fun _ => false) tt_ok (by kernel_rfl) (fun k => if k = 1 ∨ k = 6 ∨ k = 7 then some .L else if k = 9 then some .W else some .S) (.ones [0, 1, 2, 3, 4, 5, 6, 7, 8, 9] .done) (by simp) (fun _ h => nomatch h) rfl rfl (by kernel_rfl) ?_
    simp only [go_sem, Nat.reduceBEq, Nat.reduceEqDiff, Nat.reduceLT, Nat.reduceLeDiff, Nat.reduceAdd, Nat.reduceSub, Nat.reduceMul, reduceCtorEq, Int.reduceToNat, Int.reduceEq, Int.reduceLT, Int.reduceLE, Int.reduceNe, Int.reduceNeg, hix, hget, hlen, c1, c2, Int.toNat_natCast, hset]
    refine ⟨i + 1, hlt, by omega, ?_⟩
    exact ForgetTo.same' (by simp) (by simp [EWe, Env.look, w64 (n := (i : Int) + 1) (by omega) (by omega)]) rfl
  · have hie : i = l.length := by simp at hd; omega
    subst hie
    rw [List.take_length]
    have hlen : (exB l).plates.length = 3 := rfl
    have htk : ((exB l).plates.map Plate.d).take 3 = (exB l).plates.map Plate.d := rfl
    simp only [go_sem, Nat.reduceBEq, Nat.reduceEqDiff, Nat.reduceLT, Nat.reduceLeDiff, Nat.reduceAdd, Nat.reduceSub, Nat.reduceMul, reduceCtorEq, Int.reduceToNat, Int.reduceEq, Int.reduceLT, Int.reduceLE, Int.reduceNe, Int.reduceNeg, hlen, htk, List.length_map]
    simp [Bath.d, exB]
end Go.Aw
end

section
set_option maxRecDepth 100000
namespace Go.Aw
open Go Go.Proofs.Try

theorem ex_strengths : strengthsP (exB []) [0, 1] = ([⟨10, 12⟩, ⟨9, 11⟩, ⟨7, 9⟩], 0) := by decide +kernel
theorem ex_out : outP (exB []) [⟨0, 4⟩, ⟨1, 7⟩] = ([[1, 2], [2]], 0) := by decide +kernel
theorem ex_hours : hoursP (exB []) [⟨0, 5⟩] 1 = (⟨7, 8⟩, 0) := by decide +kernel
theorem ex_order : orderP (exB []) = ([⟨0, 5⟩, ⟨1, 7⟩, ⟨2, 4⟩], 0) := by decide +kernel
theorem ex_check : checkP (exB [8, 8]) = 0 := by decide +kernel
theorem ex_fillings : fillFirst (exB [8, 8]) = some ([0, 1, 0], [5, 2]) := by decide +kernel
theorem ex_mix : mixV [⟨⟨30, 30⟩, 10⟩, ⟨⟨12, 15⟩, 20⟩] = ⟨18, 20⟩ := by decide +kernel
theorem ex_acids : acidsP [⟨⟨30, 30⟩, 10⟩, ⟨⟨12, 15⟩, 20⟩] = 0 := by decide +kernel
theorem ex_water : waterP [⟨⟨30, 30⟩, 10⟩] ⟨10, 12⟩ = (⟨15, 20⟩, 0) := by decide +kernel
theorem ex_logE : logE (exB []) [⟨⟨0, 4⟩, 1⟩] = 0 := by decide +kernel
theorem ex_was : wasO ⟨exB [], [⟨⟨0, 4⟩, 1⟩], 0⟩ = some (0, 0, [⟨41, 44⟩, ⟨50, 60⟩, ⟨20, 22⟩]) := by decide +kernel
theorem ex_logE2 : logE (exB []) [⟨⟨0, 24⟩, 2⟩, ⟨⟨2, 3⟩, 2⟩] = 0 := by decide +kernel
theorem ex_wrong : wrongF (exB []) [⟨⟨0, 24⟩, 2⟩, ⟨⟨2, 3⟩, 2⟩] = some ([0], 1) := by decide +kernel
theorem ex_missing : missP ⟨100, 100⟩ [⟨20, 25⟩, ⟨30, 30⟩] ⟨40, 44⟩ = (⟨1, 10⟩, 0) := by decide +kernel
end Go.Aw
end

section
set_option maxRecDepth 100000
namespace Go.Aw
open Go Go.Proofs.Try

theorem c17 : PC prog 17 [] (.d (.bool true)) := by
  refine PC.run (fun _ => false) tt_ok (fn := f17) (rs := [.tmp 0]) rfl rfl rfl rfl rfl rfl rfl ?_
  simp only [go_sem, Nat.reduceBEq, Nat.reduceEqDiff, Nat.reduceLT, Nat.reduceLeDiff, Nat.reduceAdd, Nat.reduceSub, Nat.reduceMul, reduceCtorEq, Int.reduceToNat, Int.reduceEq, Int.reduceLT, Int.reduceLE, Int.reduceNe, Int.reduceNeg]
  refine (c71 [] (by simp)).call rfl rfl rfl ?_
  simp only [go_sem, Nat.reduceBEq, Nat.reduceEqDiff, Nat.reduceLT, Nat.reduceLeDiff, Nat.reduceAdd, Nat.reduceSub, Nat.reduceMul, reduceCtorEq, Int.reduceToNat, Int.reduceEq, Int.reduceLT, Int.reduceLE, Int.reduceNe, Int.reduceNeg]
  refine (c20 (exB []) [0, 1] (by simp [exB]) (by simp)).call rfl rfl rfl ?_
  rw [ex_strengths]
  simp only [go_sem, Nat.reduceBEq, Nat.reduceEqDiff, Nat.reduceLT, Nat.reduceLeDiff, Nat.reduceAdd, Nat.reduceSub, Nat.reduceMul, reduceCtorEq, Int.reduceToNat, Int.reduceEq, Int.reduceLT, Int.reduceLE, Int.reduceNe, Int.reduceNeg]
  refine (c71 [] (by simp)).call rfl rfl rfl ?_
  simp only [go_sem, Nat.reduceBEq, Nat.reduceEqDiff, Nat.reduceLT, Nat.reduceLeDiff, Nat.reduceAdd, Nat.reduceSub, Nat.reduceMul, reduceCtorEq, Int.reduceToNat, Int.reduceEq, Int.reduceLT, Int.reduceLE, Int.reduceNe, Int.reduceNeg]
  refine (c24 0 4).call rfl rfl rfl ?_
  simp only [go_sem, Nat.reduceBEq, Nat.reduceEqDiff, Nat.reduceLT, Nat.reduceLeDiff, Nat.reduceAdd, Nat.reduceSub, Nat.reduceMul, reduceCtorEq, Int.reduceToNat, Int.reduceEq, Int.reduceLT, Int.reduceLE, Int.reduceNe, Int.reduceNeg]
  refine (c24 1 7).call rfl rfl rfl ?_
  simp only [go_sem, Nat.reduceBEq, Nat.reduceEqDiff, Nat.reduceLT, Nat.reduceLeDiff, Nat.reduceAdd, Nat.reduceSub, Nat.reduceMul, reduceCtorEq, Int.reduceToNat, Int.reduceEq, Int.reduceLT, Int.reduceLE, Int.reduceNe, Int.reduceNeg]
  refine (c28 (exB []) [⟨0, 4⟩, ⟨1, 7⟩] (by simp [exB]) (by simp)).call rfl rfl rfl ?_
  rw [ex_out]
  simp only [go_sem, Nat.reduceBEq, Nat.reduceEqDiff, Nat.reduceLT, Nat.reduceLeDiff, Nat.reduceAdd, Nat.reduceSub, Nat.reduceMul, reduceCtorEq, Int.reduceToNat, Int.reduceEq, Int.reduceLT, Int.reduceLE, Int.reduceNe, Int.reduceNeg]
  refine (c71 [] (by simp)).call rfl rfl rfl ?_
  simp only [go_sem, Nat.reduceBEq, Nat.reduceEqDiff, Nat.reduceLT, Nat.reduceLeDiff, Nat.reduceAdd, Nat.reduceSub, Nat.reduceMul, reduceCtorEq, Int.reduceToNat, Int.reduceEq, Int.reduceLT, Int.reduceLE, Int.reduceNe, Int.reduceNeg]
  refine (c24 0 5).call rfl rfl rfl ?_
  simp only [go_sem, Nat.reduceBEq, Nat.reduceEqDiff, Nat.reduceLT, Nat.reduceLeDiff, Nat.reduceAdd, Nat.reduceSub, Nat.reduceMul, reduceCtorEq, Int.reduceToNat, Int.reduceEq, Int.reduceLT, Int.reduceLE, Int.reduceNe, Int.reduceNeg]
  refine (c33 (exB []) [⟨0, 5⟩] 1 (by simp [exB]) (by simp)).call rfl rfl rfl ?_
  rw [ex_hours]
  simp only [go_sem, Nat.reduceBEq, Nat.reduceEqDiff, Nat.reduceLT, Nat.reduceLeDiff, Nat.reduceAdd, Nat.reduceSub, Nat.reduceMul, reduceCtorEq, Int.reduceToNat, Int.reduceEq, Int.reduceLT, Int.reduceLE, Int.reduceNe, Int.reduceNeg, Sp.d]
  refine (c71 [] (by simp)).call rfl rfl rfl ?_
  simp only [go_sem, Nat.reduceBEq, Nat.reduceEqDiff, Nat.reduceLT, Nat.reduceLeDiff, Nat.reduceAdd, Nat.reduceSub, Nat.reduceMul, reduceCtorEq, Int.reduceToNat, Int.reduceEq, Int.reduceLT, Int.reduceLE, Int.reduceNe, Int.reduceNeg]
  refine (c37 (exB []) (by simp [exB])).call rfl rfl rfl ?_
  rw [ex_order]
  simp only [go_sem, Nat.reduceBEq, Nat.reduceEqDiff, Nat.reduceLT, Nat.reduceLeDiff, Nat.reduceAdd, Nat.reduceSub, Nat.reduceMul, reduceCtorEq, Int.reduceToNat, Int.reduceEq, Int.reduceLT, Int.reduceLE, Int.reduceNe, Int.reduceNeg, lv]
  refine (c71 [8, 8] (by simp)).call rfl rfl rfl ?_
  simp only [go_sem, Nat.reduceBEq, Nat.reduceEqDiff, Nat.reduceLT, Nat.reduceLeDiff, Nat.reduceAdd, Nat.reduceSub, Nat.reduceMul, reduceCtorEq, Int.reduceToNat, Int.reduceEq, Int.reduceLT, Int.reduceLE, Int.reduceNe, Int.reduceNeg]
  have hfv : fillingsV (exB [8, 8]) = .tup [.d (.sl (natsD [0, 1, 0])), .d (.int .i64 0)] := by simp only [fillingsV, ex_check, ex_fillings, if_true]
  refine (c38 (exB [8, 8]) (by simp [exB])).call rfl rfl (by rw [hfv]; rfl) ?_
  rw [hfv]
  simp only [go_sem, Nat.reduceBEq, Nat.reduceEqDiff, Nat.reduceLT, Nat.reduceLeDiff, Nat.reduceAdd, Nat.reduceSub, Nat.reduceMul, reduceCtorEq, Int.reduceToNat, Int.reduceEq, Int.reduceLT, Int.reduceLE, Int.reduceNe, Int.reduceNeg]
  refine (c26 30 30).call rfl rfl rfl ?_
  simp only [go_sem, Nat.reduceBEq, Nat.reduceEqDiff, Nat.reduceLT, Nat.reduceLeDiff, Nat.reduceAdd, Nat.reduceSub, Nat.reduceMul, reduceCtorEq, Int.reduceToNat, Int.reduceEq, Int.reduceLT, Int.reduceLE, Int.reduceNe, Int.reduceNeg, Sp.d]
  refine (c26 12 15).call rfl rfl rfl ?_
  simp only [go_sem, Nat.reduceBEq, Nat.reduceEqDiff, Nat.reduceLT, Nat.reduceLeDiff, Nat.reduceAdd, Nat.reduceSub, Nat.reduceMul, reduceCtorEq, Int.reduceToNat, Int.reduceEq, Int.reduceLT, Int.reduceLE, Int.reduceNe, Int.reduceNeg, Sp.d]
  refine (c43 [⟨⟨30, 30⟩, 10⟩, ⟨⟨12, 15⟩, 20⟩] (by simp)).call rfl rfl rfl ?_
  rw [ex_mix, ex_acids]
  simp only [go_sem, Nat.reduceBEq, Nat.reduceEqDiff, Nat.reduceLT, Nat.reduceLeDiff, Nat.reduceAdd, Nat.reduceSub, Nat.reduceMul, reduceCtorEq, Int.reduceToNat, Int.reduceEq, Int.reduceLT, Int.reduceLE, Int.reduceNe, Int.reduceNeg, Sp.d]
  refine (c26 30 30).call rfl rfl rfl ?_
  simp only [go_sem, Nat.reduceBEq, Nat.reduceEqDiff, Nat.reduceLT, Nat.reduceLeDiff, Nat.reduceAdd, Nat.reduceSub, Nat.reduceMul, reduceCtorEq, Int.reduceToNat, Int.reduceEq, Int.reduceLT, Int.reduceLE, Int.reduceNe, Int.reduceNeg, Sp.d]
  refine (c26 10 12).call rfl rfl rfl ?_
  simp only [go_sem, Nat.reduceBEq, Nat.reduceEqDiff, Nat.reduceLT, Nat.reduceLeDiff, Nat.reduceAdd, Nat.reduceSub, Nat.reduceMul, reduceCtorEq, Int.reduceToNat, Int.reduceEq, Int.reduceLT, Int.reduceLE, Int.reduceNe, Int.reduceNeg]
  refine (c44 [⟨⟨30, 30⟩, 10⟩] ⟨10, 12⟩ (by simp)).call rfl rfl rfl ?_
  rw [ex_water]
  simp only [go_sem, Nat.reduceBEq, Nat.reduceEqDiff, Nat.reduceLT, Nat.reduceLeDiff, Nat.reduceAdd, Nat.reduceSub, Nat.reduceMul, reduceCtorEq, Int.reduceToNat, Int.reduceEq, Int.reduceLT, Int.reduceLE, Int.reduceNe, Int.reduceNeg, Sp.d]
  refine (c71 [] (by simp)).call rfl rfl rfl ?_
  simp only [go_sem, Nat.reduceBEq, Nat.reduceEqDiff, Nat.reduceLT, Nat.reduceLeDiff, Nat.reduceAdd, Nat.reduceSub, Nat.reduceMul, reduceCtorEq, Int.reduceToNat, Int.reduceEq, Int.reduceLT, Int.reduceLE, Int.reduceNe, Int.reduceNeg]
  refine (c24 0 4).call rfl rfl rfl ?_
  simp only [go_sem, Nat.reduceBEq, Nat.reduceEqDiff, Nat.reduceLT, Nat.reduceLeDiff, Nat.reduceAdd, Nat.reduceSub, Nat.reduceMul, reduceCtorEq, Int.reduceToNat, Int.reduceEq, Int.reduceLT, Int.reduceLE, Int.reduceNe, Int.reduceNeg, Step.d]
  have hwv : wasV (exB []) [⟨⟨0, 4⟩, 1⟩] = .tup [.d (Sp.mk 10 10).d, .d (.sl ([⟨41, 44⟩, ⟨50, 60⟩, ⟨20, 22⟩].map Sp.d)), .d (.int .i64 0)] := by simp only [wasV, ex_logE, ex_was, if_true]; rfl
  refine (c49 (exB []) [⟨⟨0, 4⟩, 1⟩] (by simp [exB]) (by simp)).call rfl rfl (by rw [hwv]; rfl) ?_
  rw [hwv]
  simp only [go_sem, Nat.reduceBEq, Nat.reduceEqDiff, Nat.reduceLT, Nat.reduceLeDiff, Nat.reduceAdd, Nat.reduceSub, Nat.reduceMul, reduceCtorEq, Int.reduceToNat, Int.reduceEq, Int.reduceLT, Int.reduceLE, Int.reduceNe, Int.reduceNeg, Sp.d]
  refine (c71 [] (by simp)).call rfl rfl rfl ?_
  simp only [go_sem, Nat.reduceBEq, Nat.reduceEqDiff, Nat.reduceLT, Nat.reduceLeDiff, Nat.reduceAdd, Nat.reduceSub, Nat.reduceMul, reduceCtorEq, Int.reduceToNat, Int.reduceEq, Int.reduceLT, Int.reduceLE, Int.reduceNe, Int.reduceNeg]
  refine (c24 0 24).call rfl rfl rfl ?_
  simp only [go_sem, Nat.reduceBEq, Nat.reduceEqDiff, Nat.reduceLT, Nat.reduceLeDiff, Nat.reduceAdd, Nat.reduceSub, Nat.reduceMul, reduceCtorEq, Int.reduceToNat, Int.reduceEq, Int.reduceLT, Int.reduceLE, Int.reduceNe, Int.reduceNeg, Step.d]
  refine (c24 2 3).call rfl rfl rfl ?_
  simp only [go_sem, Nat.reduceBEq, Nat.reduceEqDiff, Nat.reduceLT, Nat.reduceLeDiff, Nat.reduceAdd, Nat.reduceSub, Nat.reduceMul, reduceCtorEq, Int.reduceToNat, Int.reduceEq, Int.reduceLT, Int.reduceLE, Int.reduceNe, Int.reduceNeg, Step.d]
  have hwr : wrongV (exB []) [⟨⟨0, 24⟩, 2⟩, ⟨⟨2, 3⟩, 2⟩] = .tup [.d (.sl (natsD [0])), .d (.int .i64 0)] := by simp only [wrongV, ex_logE2, ex_wrong, if_true]; rfl
  refine (c50 (exB []) [⟨⟨0, 24⟩, 2⟩, ⟨⟨2, 3⟩, 2⟩] (by simp [exB]) (by simp)).call rfl rfl (by rw [hwr]; rfl) ?_
  rw [hwr]
  simp only [go_sem, Nat.reduceBEq, Nat.reduceEqDiff, Nat.reduceLT, Nat.reduceLeDiff, Nat.reduceAdd, Nat.reduceSub, Nat.reduceMul, reduceCtorEq, Int.reduceToNat, Int.reduceEq, Int.reduceLT, Int.reduceLE, Int.reduceNe, Int.reduceNeg]
  refine (c26 100 100).call rfl rfl rfl ?_
  simp only [go_sem, Nat.reduceBEq, Nat.reduceEqDiff, Nat.reduceLT, Nat.reduceLeDiff, Nat.reduceAdd, Nat.reduceSub, Nat.reduceMul, reduceCtorEq, Int.reduceToNat, Int.reduceEq, Int.reduceLT, Int.reduceLE, Int.reduceNe, Int.reduceNeg]
  refine (c26 20 25).call rfl rfl rfl ?_
  simp only [go_sem, Nat.reduceBEq, Nat.reduceEqDiff, Nat.reduceLT, Nat.reduceLeDiff, Nat.reduceAdd, Nat.reduceSub, Nat.reduceMul, reduceCtorEq, Int.reduceToNat, Int.reduceEq, Int.reduceLT, Int.reduceLE, Int.reduceNe, Int.reduceNeg, Sp.d]
  refine (c26 30 30).call rfl rfl rfl ?_
  simp only [go_sem, Nat.reduceBEq, Nat.reduceEqDiff, Nat.reduceLT, Nat.reduceLeDiff, Nat.reduceAdd, Nat.reduceSub, Nat.reduceMul, reduceCtorEq, Int.reduceToNat, Int.reduceEq, Int.reduceLT, Int.reduceLE, Int.reduceNe, Int.reduceNeg, Sp.d]
  refine (c26 40 44).call rfl rfl rfl ?_
  simp only [go_sem, Nat.reduceBEq, Nat.reduceEqDiff, Nat.reduceLT, Nat.reduceLeDiff, Nat.reduceAdd, Nat.reduceSub, Nat.reduceMul, reduceCtorEq, Int.reduceToNat, Int.reduceEq, Int.reduceLT, Int.reduceLE, Int.reduceNe, Int.reduceNeg, Sp.d]
  refine (c55 ⟨100, 100⟩ [⟨20, 25⟩, ⟨30, 30⟩] ⟨40, 44⟩ (by simp)).call rfl rfl rfl ?_
  rw [ex_missing]
  simp only [go_sem, Nat.reduceBEq, Nat.reduceEqDiff, Nat.reduceLT, Nat.reduceLeDiff, Nat.reduceAdd, Nat.reduceSub, Nat.reduceMul, reduceCtorEq, Int.reduceToNat, Int.reduceEq, Int.reduceLT, Int.reduceLE, Int.reduceNe, Int.reduceNeg, Sp.d]
  have hd0 : ∀ {α : Type} [DecidableEq α] (l : List α), decide (l = l) = true := fun l => by simp
  refine ADrw.treeG (fun _ => false) tt_ok (by kernel_rfl) (fun k => if k = 29 then some .L else some .S) (.ones [0, 1, 2, 3, 4, 5, 6, 7, 8, 9, 10, 11, 12, 13, 14, 15, 16, 17, 18, 19, 20, 21, 22, 23, 24, 25, 26, 27, 28, 29, 30, 31, 32, 33, 34, 35, 36, 37, 38, 39, 40, 41] .done) (by simp) (fun _ h => nomatch h) rfl rfl (by kernel_rfl) ?_
  simp only [go_sem, Nat.reduceBEq, Nat.reduceEqDiff, Nat.reduceLT, Nat.reduceLeDiff, Nat.reduceAdd, Nat.reduceSub, Nat.reduceMul, reduceCtorEq, Int.reduceToNat, Int.reduceEq, Int.reduceLT, Int.reduceLE, Int.reduceNe, Int.reduceNeg]
  refine (c26 10 12).callS rfl rfl rfl rfl rfl rfl ?_
  simp only [go_sem, Nat.reduceBEq, Nat.reduceEqDiff, Nat.reduceLT, Nat.reduceLeDiff, Nat.reduceAdd, Nat.reduceSub, Nat.reduceMul, reduceCtorEq, Int.reduceToNat, Int.reduceEq, Int.reduceLT, Int.reduceLE, Int.reduceNe, Int.reduceNeg, Sp.d, Step.d, intsD, hd0]
  refine (c26 9 11).callS rfl rfl rfl rfl rfl rfl ?_
  simp only [go_sem, Nat.reduceBEq, Nat.reduceEqDiff, Nat.reduceLT, Nat.reduceLeDiff, Nat.reduceAdd, Nat.reduceSub, Nat.reduceMul, reduceCtorEq, Int.reduceToNat, Int.reduceEq, Int.reduceLT, Int.reduceLE, Int.reduceNe, Int.reduceNeg, Sp.d, Step.d, intsD, hd0]
  refine (c26 7 9).callS rfl rfl rfl rfl rfl rfl ?_
  simp only [go_sem, Nat.reduceBEq, Nat.reduceEqDiff, Nat.reduceLT, Nat.reduceLeDiff, Nat.reduceAdd, Nat.reduceSub, Nat.reduceMul, reduceCtorEq, Int.reduceToNat, Int.reduceEq, Int.reduceLT, Int.reduceLE, Int.reduceNe, Int.reduceNeg, Sp.d, Step.d, intsD, hd0]
  refine (c53 [⟨10, 12⟩, ⟨9, 11⟩, ⟨7, 9⟩] [⟨10, 12⟩, ⟨9, 11⟩, ⟨7, 9⟩] (by simp) (by simp)).callS rfl rfl rfl rfl rfl rfl ?_
  simp only [go_sem, Nat.reduceBEq, Nat.reduceEqDiff, Nat.reduceLT, Nat.reduceLeDiff, Nat.reduceAdd, Nat.reduceSub, Nat.reduceMul, reduceCtorEq, Int.reduceToNat, Int.reduceEq, Int.reduceLT, Int.reduceLE, Int.reduceNe, Int.reduceNeg, Sp.d, Step.d, intsD, hd0]
  refine (c30 [1, 2] [1, 2] (by simp) (by simp)).callS rfl rfl rfl rfl rfl rfl ?_
  simp only [go_sem, Nat.reduceBEq, Nat.reduceEqDiff, Nat.reduceLT, Nat.reduceLeDiff, Nat.reduceAdd, Nat.reduceSub, Nat.reduceMul, reduceCtorEq, Int.reduceToNat, Int.reduceEq, Int.reduceLT, Int.reduceLE, Int.reduceNe, Int.reduceNeg, Sp.d, Step.d, intsD, hd0]
  refine (c30 [2] [2] (by simp) (by simp)).callS rfl rfl rfl rfl rfl rfl ?_
  simp only [go_sem, Nat.reduceBEq, Nat.reduceEqDiff, Nat.reduceLT, Nat.reduceLeDiff, Nat.reduceAdd, Nat.reduceSub, Nat.reduceMul, reduceCtorEq, Int.reduceToNat, Int.reduceEq, Int.reduceLT, Int.reduceLE, Int.reduceNe, Int.reduceNeg, Sp.d, Step.d, intsD, hd0]
  refine (c26 7 8).callS rfl rfl rfl rfl rfl rfl ?_
  simp only [go_sem, Nat.reduceBEq, Nat.reduceEqDiff, Nat.reduceLT, Nat.reduceLeDiff, Nat.reduceAdd, Nat.reduceSub, Nat.reduceMul, reduceCtorEq, Int.reduceToNat, Int.reduceEq, Int.reduceLT, Int.reduceLE, Int.reduceNe, Int.reduceNeg, Sp.d, Step.d, intsD, hd0]
  refine (c24 0 5).callS rfl rfl rfl rfl rfl rfl ?_
  simp only [go_sem, Nat.reduceBEq, Nat.reduceEqDiff, Nat.reduceLT, Nat.reduceLeDiff, Nat.reduceAdd, Nat.reduceSub, Nat.reduceMul, reduceCtorEq, Int.reduceToNat, Int.reduceEq, Int.reduceLT, Int.reduceLE, Int.reduceNe, Int.reduceNeg, Sp.d, Step.d, intsD, hd0]
  refine (c24 1 7).callS rfl rfl rfl rfl rfl rfl ?_
  simp only [go_sem, Nat.reduceBEq, Nat.reduceEqDiff, Nat.reduceLT, Nat.reduceLeDiff, Nat.reduceAdd, Nat.reduceSub, Nat.reduceMul, reduceCtorEq, Int.reduceToNat, Int.reduceEq, Int.reduceLT, Int.reduceLE, Int.reduceNe, Int.reduceNeg, Sp.d, Step.d, intsD, hd0]
  refine (c24 2 4).callS rfl rfl rfl rfl rfl rfl ?_
  simp only [go_sem, Nat.reduceBEq, Nat.reduceEqDiff, Nat.reduceLT, Nat.reduceLeDiff, Nat.reduceAdd, Nat.reduceSub, Nat.reduceMul, reduceCtorEq, Int.reduceToNat, Int.reduceEq, Int.reduceLT, Int.reduceLE, Int.reduceNe, Int.reduceNeg, Sp.d, Step.d, intsD, hd0]
  refine (c29 [⟨0, 5⟩, ⟨1, 7⟩, ⟨2, 4⟩] [⟨0, 5⟩, ⟨1, 7⟩, ⟨2, 4⟩] (by simp) (by simp)).callS rfl rfl rfl rfl rfl rfl ?_
  simp only [go_sem, Nat.reduceBEq, Nat.reduceEqDiff, Nat.reduceLT, Nat.reduceLeDiff, Nat.reduceAdd, Nat.reduceSub, Nat.reduceMul, reduceCtorEq, Int.reduceToNat, Int.reduceEq, Int.reduceLT, Int.reduceLE, Int.reduceNe, Int.reduceNeg, Sp.d, Step.d, intsD, hd0]
  refine ADrw.treeG (fun _ => false) tt_ok (by kernel_rfl) (fun k => if k = 4 ∨ k = 9 ∨ k = 14 ∨ k = 32 then some .L else some .S) (.ones [0, 1, 2, 3, 4, 5, 6, 7, 8, 9, 10, 11, 12, 13, 14, 15, 16, 17, 18, 19, 20, 21, 22, 23, 24, 25, 26, 27, 28, 29, 30, 31, 32, 33, 34, 35, 36] .done) (by simp) (fun _ h => nomatch h) rfl rfl (by kernel_rfl) ?_
  simp only [go_sem, Nat.reduceBEq, Nat.reduceEqDiff, Nat.reduceLT, Nat.reduceLeDiff, Nat.reduceAdd, Nat.reduceSub, Nat.reduceMul, reduceCtorEq, Int.reduceToNat, Int.reduceEq, Int.reduceLT, Int.reduceLE, Int.reduceNe, Int.reduceNeg]
  refine (c23 [0, 1, 0] [0, 1, 0] (by simp) (by simp)).callS rfl rfl rfl rfl rfl rfl ?_
  simp only [go_sem, Nat.reduceBEq, Nat.reduceEqDiff, Nat.reduceLT, Nat.reduceLeDiff, Nat.reduceAdd, Nat.reduceSub, Nat.reduceMul, reduceCtorEq, Int.reduceToNat, Int.reduceEq, Int.reduceLT, Int.reduceLE, Int.reduceNe, Int.reduceNeg, Sp.d, Step.d, intsD, hd0]
  refine (c26 18 20).callS rfl rfl rfl rfl rfl rfl ?_
  simp only [go_sem, Nat.reduceBEq, Nat.reduceEqDiff, Nat.reduceLT, Nat.reduceLeDiff, Nat.reduceAdd, Nat.reduceSub, Nat.reduceMul, reduceCtorEq, Int.reduceToNat, Int.reduceEq, Int.reduceLT, Int.reduceLE, Int.reduceNe, Int.reduceNeg, Sp.d, Step.d, intsD, hd0]
  refine (c26 15 20).callS rfl rfl rfl rfl rfl rfl ?_
  simp only [go_sem, Nat.reduceBEq, Nat.reduceEqDiff, Nat.reduceLT, Nat.reduceLeDiff, Nat.reduceAdd, Nat.reduceSub, Nat.reduceMul, reduceCtorEq, Int.reduceToNat, Int.reduceEq, Int.reduceLT, Int.reduceLE, Int.reduceNe, Int.reduceNeg, Sp.d, Step.d, intsD, hd0]
  refine (c26 10 10).callS rfl rfl rfl rfl rfl rfl ?_
  simp only [go_sem, Nat.reduceBEq, Nat.reduceEqDiff, Nat.reduceLT, Nat.reduceLeDiff, Nat.reduceAdd, Nat.reduceSub, Nat.reduceMul, reduceCtorEq, Int.reduceToNat, Int.reduceEq, Int.reduceLT, Int.reduceLE, Int.reduceNe, Int.reduceNeg, Sp.d, Step.d, intsD, hd0]
  refine (c26 41 44).callS rfl rfl rfl rfl rfl rfl ?_
  simp only [go_sem, Nat.reduceBEq, Nat.reduceEqDiff, Nat.reduceLT, Nat.reduceLeDiff, Nat.reduceAdd, Nat.reduceSub, Nat.reduceMul, reduceCtorEq, Int.reduceToNat, Int.reduceEq, Int.reduceLT, Int.reduceLE, Int.reduceNe, Int.reduceNeg, Sp.d, Step.d, intsD, hd0]
  refine (c26 50 60).callS rfl rfl rfl rfl rfl rfl ?_
  simp only [go_sem, Nat.reduceBEq, Nat.reduceEqDiff, Nat.reduceLT, Nat.reduceLeDiff, Nat.reduceAdd, Nat.reduceSub, Nat.reduceMul, reduceCtorEq, Int.reduceToNat, Int.reduceEq, Int.reduceLT, Int.reduceLE, Int.reduceNe, Int.reduceNeg, Sp.d, Step.d, intsD, hd0]
  refine (c26 20 22).callS rfl rfl rfl rfl rfl rfl ?_
  simp only [go_sem, Nat.reduceBEq, Nat.reduceEqDiff, Nat.reduceLT, Nat.reduceLeDiff, Nat.reduceAdd, Nat.reduceSub, Nat.reduceMul, reduceCtorEq, Int.reduceToNat, Int.reduceEq, Int.reduceLT, Int.reduceLE, Int.reduceNe, Int.reduceNeg, Sp.d, Step.d, intsD, hd0]
  refine (c53 [⟨41, 44⟩, ⟨50, 60⟩, ⟨20, 22⟩] [⟨41, 44⟩, ⟨50, 60⟩, ⟨20, 22⟩] (by simp) (by simp)).callS rfl rfl rfl rfl rfl rfl ?_
  simp only [go_sem, Nat.reduceBEq, Nat.reduceEqDiff, Nat.reduceLT, Nat.reduceLeDiff, Nat.reduceAdd, Nat.reduceSub, Nat.reduceMul, reduceCtorEq, Int.reduceToNat, Int.reduceEq, Int.reduceLT, Int.reduceLE, Int.reduceNe, Int.reduceNeg, Sp.d, Step.d, intsD, hd0]
  refine (c23 [0] [0] (by simp) (by simp)).callS rfl rfl rfl rfl rfl rfl ?_
  simp only [go_sem, Nat.reduceBEq, Nat.reduceEqDiff, Nat.reduceLT, Nat.reduceLeDiff, Nat.reduceAdd, Nat.reduceSub, Nat.reduceMul, reduceCtorEq, Int.reduceToNat, Int.reduceEq, Int.reduceLT, Int.reduceLE, Int.reduceNe, Int.reduceNeg, Sp.d, Step.d, intsD, hd0]
  refine (c26 1 10).callS rfl rfl rfl rfl rfl rfl ?_
  simp only [go_sem, Nat.reduceBEq, Nat.reduceEqDiff, Nat.reduceLT, Nat.reduceLeDiff, Nat.reduceAdd, Nat.reduceSub, Nat.reduceMul, reduceCtorEq, Int.reduceToNat, Int.reduceEq, Int.reduceLT, Int.reduceLE, Int.reduceNe, Int.reduceNeg, Sp.d, Step.d, intsD, hd0]
end Go.Aw
end
