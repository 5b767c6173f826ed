/- Steps of bytes; how plates truly come out. Steps of bytes. The law of all truths. Vats and pairs of bytes as arguments. -/
import Derived.Test.YtckfgdpklpgmdaaL3
set_option linter.unusedSimpArgs false
set_option linter.unusedVariables false

section
set_option maxRecDepth 100000
namespace Go.Aw
open Go Go.Proofs.Try

theorem c60 (b : Bath) (hb : b.plates.length ≤ 4294967295) : PC prog 60 [.d b.d] (.d b.d) := by
  refine PC.run (fun _ => false) tt_ok (fn := f60) (rs := [.cell 2 26]) rfl rfl rfl rfl rfl rfl rfl ?_
  have hsz := sized_plates b.plates
  have hle : b.plates.length ≤ 4294967296 := by omega
  simp only [go_sem, Nat.reduceBEq, Nat.reduceEqDiff, Nat.reduceLT, Nat.reduceLeDiff, Nat.reduceAdd, Nat.reduceSub, Nat.reduceMul, reduceCtorEq, Int.reduceToNat, Int.reduceEq, Int.reduceLT, Int.reduceLE, Int.reduceNe, Int.reduceNeg , or_self, or_false, false_or , List.length_map, Bool.or_true, Bool.true_or, Bool.false_or, Bool.or_false, Int.cast_ofNat_Int, Bath.d, hsz, hle, List.length_map, List.nil_append, Nat.zero_add]

theorem c63 (l : List Int) (n : Int) (hl : l.length ≤ 4294967296) : PC prog 63 [.d (.sl (l.map (.int .i64))), .d (.int .i64 n)] (.d (.bool (decide (n ∈ l)))) := by
  refine PC.run (fun _ => false) tt_ok (fn := f63) (rs := [.tmp 4]) rfl rfl rfl rfl rfl rfl rfl ?_
  simp only [go_sem, Nat.reduceBEq, Nat.reduceEqDiff, Nat.reduceLT, Nat.reduceLeDiff, Nat.reduceAdd, Nat.reduceSub, Nat.reduceMul, reduceCtorEq, Int.reduceToNat, Int.reduceEq, Int.reduceLT, Int.reduceLE, Int.reduceNe, Int.reduceNeg , or_self, or_false, false_or , List.length_map, Bool.or_true, Bool.true_or, Bool.false_or, Bool.or_false, Int.cast_ofNat_Int]
  refine ALoop.by (S := Nat) (fun i => [(5, .d (.int .i64 i)), (1, .d (.int .i64 n)), (0, .d (.sl (l.map (.int .i64))))]) (fun i => []) (fun i => l.length - i) (fun i => i ≤ l.length ∧ n ∉ l.take i) 0 (by simp) (fun _ h => nomatch h) ⟨Nat.zero_le _, by simp⟩ ?_ ?_
  · exact ForgetTo.same' (by simp) (by simp [EWe, Env.look]) rfl
  rintro i ⟨hi, hx⟩ hn
  refine AWP.run (fun _ => false) tt_ok (fun _ h => nomatch h) (by simp) rfl ?_
  simp only [go_sem, Nat.reduceBEq, Nat.reduceEqDiff, Nat.reduceLT, Nat.reduceLeDiff, Nat.reduceAdd, Nat.reduceSub, Nat.reduceMul, reduceCtorEq, Int.reduceToNat, Int.reduceEq, Int.reduceLT, Int.reduceLE, Int.reduceNe, Int.reduceNeg , or_self, or_false, false_or , List.length_map, Bool.or_true, Bool.true_or, Bool.false_or, Bool.or_false, Int.cast_ofNat_Int]
  refine Br_split (fun hd => ?_) (fun hd => ?_) <;> simp only [go_sem, Nat.reduceBEq, Nat.reduceEqDiff, Nat.reduceLT, Nat.reduceLeDiff, Nat.reduceAdd, Nat.reduceSub, Nat.reduceMul, reduceCtorEq, Int.reduceToNat, Int.reduceEq, Int.reduceLT, Int.reduceLE, Int.reduceNe, Int.reduceNeg , or_self, or_false, false_or , List.length_map, Bool.or_true, Bool.true_or, Bool.false_or, Bool.or_false, Int.cast_ofNat_Int, hd]
  · have hlt : i < l.length := by simpa using hd
    simp only [go_sem, Nat.reduceBEq, Nat.reduceEqDiff, Nat.reduceLT, Nat.reduceLeDiff, Nat.reduceAdd, Nat.reduceSub, Nat.reduceMul, reduceCtorEq, Int.reduceToNat, Int.reduceEq, Int.reduceLT, Int.reduceLE, Int.reduceNe, Int.reduceNeg , or_self, or_false, false_or , List.length_map, Bool.or_true, Bool.true_or, Bool.false_or, Bool.or_false, Int.cast_ofNat_Int, idx_nat, List.getElem?_map, List.getElem?_eq_getElem hlt]
    have hin := List.getElem_mem hlt
    have hst : l.take (i + 1) = l.take i ++ [l[i]] := List.take_succ_eq_append_getElem hlt
    generalize l[i] = x at hin hst
    refine Br_split (fun he => ?_) (fun he => ?_) <;> simp only [go_sem, Nat.reduceBEq, Nat.reduceEqDiff, Nat.reduceLT, Nat.reduceLeDiff, Nat.reduceAdd, Nat.reduceSub, Nat.reduceMul, reduceCtorEq, Int.reduceToNat, Int.reduceEq, Int.reduceLT, Int.reduceLE, Int.reduceNe, Int.reduceNeg , or_self, or_false, false_or , List.length_map, Bool.or_true, Bool.true_or, Bool.false_or, Bool.or_false, Int.cast_ofNat_Int, he]
    · have : x = n := by simpa using he
      subst this
      simp [hin]
    · have hne : ¬ n = x := fun e => by subst e; simp at he
      refine ⟨i + 1, ⟨hlt, by rw [hst]; simp [hx, hne]⟩, by omega, ?_⟩
      exact ForgetTo.same' (by simp) (by simp [EWe, Env.look, w64 (n := (i : Int) + 1) (by omega) (by omega)]) rfl
  · have hie : i = l.length := by simp at hd; omega
    subst hie
    rw [List.take_length] at hx
    simp [hx]

/-- How a plate truly comes out. -/
def trueHow (b : Bath) (rusts : List Int) (str : Int) (s : Step) : Int :=
  howP ⟨⟨0, 0⟩, 0, (b.pl s.plate).thin⟩ (rusts.getD s.plate.toNat 0) (str * s.hours)

/-- How plates truly come out, and how strong the acid is in the end. -/
def comesR (b : Bath) (rusts : List Int) : List Step → Int → List Int × Int
  | [], str => ([], str)
  | s :: r, str => (trueHow b rusts str s :: (comesR b rusts r (max 0 (str - (b.pl s.plate).takes))).1, (comesR b rusts r (max 0 (str - (b.pl s.plate).takes))).2)

theorem comesR_len (b : Bath) (rusts : List Int) : ∀ (l : List Step) (str : Int), (comesR b rusts l str).1.length = l.length
  | [], _ => rfl
  | s :: r, str => by simp [comesR, comesR_len b rusts r]

theorem comesR_weak (b : Bath) (rusts : List Int) : ∀ (l : List Step) (str : Int), (comesR b rusts l str).2 = weakF b (platesOf l) str
  | [], _ => rfl
  | s :: r, str => by
    simp only [comesR, platesOf, List.map_cons]
    rw [comesR_weak b rusts r]
    rfl

theorem comesR_append (b : Bath) (rusts : List Int) : ∀ (l : List Step) (s : Step) (str : Int), comesR b rusts (l ++ [s]) str = ((comesR b rusts l str).1 ++ [trueHow b rusts (comesR b rusts l str).2 s], max 0 ((comesR b rusts l str).2 - (b.pl s.plate).takes))
  | [], s, str => rfl
  | x :: r, s, str => by
    simp only [List.cons_append, comesR]
    rw [comesR_append b rusts r]

theorem c61 {b : Bath} (hok : b.Ok) (l : List Step) (str : Int) (rusts : List Int) (hl : l.length ≤ 1000) (hs : 0 ≤ str ∧ str ≤ 40) (hr : rusts.length = b.plates.length) (hrb : ∀ r ∈ rusts, 0 ≤ r ∧ r ≤ 600)
    (hm : ∀ x ∈ l, (0 ≤ x.plate ∧ x.plate < b.plates.length) ∧ 1 ≤ x.hours ∧ x.hours ≤ 24) :
    PC prog 61 [.d b.d, .d (.sl (l.map Step.d)), .d (.int .i64 str), .d (.sl (rusts.map (.int .i64)))] (.tup [.d (.sl ((comesR b rusts l str).1.map (.int .i64))), .d (.int .i64 (comesR b rusts l str).2)]) := by
  refine PC.run (fun k => k == 15) tt_ok (fn := f61) (rs := [.tmp 8, .tmp 9]) rfl rfl rfl rfl rfl rfl rfl ?_
  simp only [go_sem, Nat.reduceBEq, Nat.reduceEqDiff, Nat.reduceLT, Nat.reduceLeDiff, Nat.reduceAdd, Nat.reduceSub, Nat.reduceMul, reduceCtorEq, Int.reduceToNat, Int.reduceEq, Int.reduceLT, Int.reduceLE, Int.reduceNe, Int.reduceNeg , or_self, or_false, false_or , List.length_map, Bool.or_true, Bool.true_or, Bool.false_or, Bool.or_false, Int.cast_ofNat_Int, Bath.d]
  refine ALoop.by (S := Nat) (fun i => [(11, .d (.int .i64 i)), (10, .ref 1 i 0 i), (4, .ptr 0 0), (3, .d (.sl (rusts.map (.int .i64)))), (2, .d (.int .i64 (comesR b rusts (l.take i) str).2)), (1, .d (.sl (l.map Step.d)))])
    (fun i => [bthB b, .arr 1 false ((comesR b rusts (l.take i) str).1.map (.int .i64))]) (fun i => l.length - i) (fun i => i ≤ l.length) 0 (by simp) (fun _ h => nomatch h) (Nat.zero_le _) ?_ ?_
  · exact ForgetTo.same' (by simp) (by simp [EWe, Env.look, comesR]) (by simp [bthB, comesR])
  rintro i hi hn
  have hcl := comesR_len b rusts (l.take i) str
  have hlen : (l.take i).length = i := by simp; omega
  rw [hlen] at hcl
  refine AWP.run (fun k => k == 15) tt_ok (fun _ h => nomatch h) (by simp) rfl ?_
  simp only [go_sem, Nat.reduceBEq, Nat.reduceEqDiff, Nat.reduceLT, Nat.reduceLeDiff, Nat.reduceAdd, Nat.reduceSub, Nat.reduceMul, reduceCtorEq, Int.reduceToNat, Int.reduceEq, Int.reduceLT, Int.reduceLE, Int.reduceNe, Int.reduceNeg , or_self, or_false, false_or , List.length_map, Bool.or_true, Bool.true_or, Bool.false_or, Bool.or_false, Int.cast_ofNat_Int, bthB]
  refine Br_split (fun hd => ?_) (fun hd => ?_) <;> simp only [go_sem, Nat.reduceBEq, Nat.reduceEqDiff, Nat.reduceLT, Nat.reduceLeDiff, Nat.reduceAdd, Nat.reduceSub, Nat.reduceMul, reduceCtorEq, Int.reduceToNat, Int.reduceEq, Int.reduceLT, Int.reduceLE, Int.reduceNe, Int.reduceNeg , or_self, or_false, false_or , List.length_map, Bool.or_true, Bool.true_or, Bool.false_or, Bool.or_false, Int.cast_ofNat_Int, hd]
  · have hlt : i < l.length := by simpa using hd
    obtain ⟨m1, m2⟩ := hm _ (List.getElem_mem hlt)
    have hix : idx? (l.map Step.d) (i : Int) = some (l[i]).d := by simp [idx?, List.getElem?_eq_getElem hlt]
    have hst : comesR b rusts (l.take (i + 1)) str = ((comesR b rusts (l.take i) str).1 ++ [trueHow b rusts (comesR b rusts (l.take i) str).2 l[i]], max 0 ((comesR b rusts (l.take i) str).2 - (b.pl l[i].plate).takes)) := by
      rw [List.take_succ_eq_append_getElem hlt, comesR_append]
    have hwk := comesR_weak b rusts (l.take i) str
    have hwb := weakF_bnd hok (platesOf (l.take i)) str hs.1 hs.2
    rw [← hwk] at hwb
    generalize l[i] = s at m1 m2 hix hst
    have hat := Bath.at (b := b) m1
    have hpl := hok.pl s.plate
    simp only [Plate.Ok] at hpl
    obtain ⟨q, hq⟩ : ∃ q : Nat, s.plate = q := ⟨s.plate.toNat, by omega⟩
    have hqr : q < rusts.length := by omega
    have hrx : idx? (rusts.map (D.int .i64)) s.plate = some (.int .i64 (rusts.getD s.plate.toNat 0)) := by
      rw [hq, idx_nat, List.getElem?_map, List.getElem?_eq_getElem hqr, Int.toNat_natCast, List.getD_eq_getElem?_getD, List.getElem?_eq_getElem hqr]; rfl
    have hrb2 : 0 ≤ rusts.getD s.plate.toNat 0 ∧ rusts.getD s.plate.toNat 0 ≤ 600 := by
      rw [hq, Int.toNat_natCast, List.getD_eq_getElem?_getD, List.getElem?_eq_getElem hqr]
      exact hrb _ (List.getElem_mem hqr)
    simp only [trueHow] at hst
    generalize rusts.getD s.plate.toNat 0 = ru at hst hrx hrb2
    generalize (comesR b rusts (l.take i) str).2 = st at hst hwb
    generalize b.pl s.plate = p at hat hpl hst
    have hmul : 0 ≤ st * s.hours ∧ st * s.hours ≤ 960 := by
      refine ⟨Int.mul_nonneg hwb.1 (by omega), ?_⟩
      have := Int.mul_le_mul hwb.2 m2.2 (by omega) (by omega : (0 : Int) ≤ 40)
      omega
    have hwm : IntKind.i64.wrap (st * s.hours) = st * s.hours := w64 (by omega) (by omega)
    have hwt : IntKind.i64.wrap (ru + p.thin) = ru + p.thin := w64 (by omega) (by omega)
    have hws : IntKind.i64.wrap (st - p.takes) = st - p.takes := w64 (by omega) (by omega)
    have hnx : IntKind.i64.wrap ((i : Int) + 1) = ((i + 1 : Nat) : Int) := w64 (by omega) (by omega)
    have hi1 : i + 1 ≤ 4294967296 := by omega
    simp only [go_sem, Nat.reduceBEq, Nat.reduceEqDiff, Nat.reduceLT, Nat.reduceLeDiff, Nat.reduceAdd, Nat.reduceSub, Nat.reduceMul, reduceCtorEq, Int.reduceToNat, Int.reduceEq, Int.reduceLT, Int.reduceLE, Int.reduceNe, Int.reduceNeg , or_self, or_false, false_or , List.length_map, Bool.or_true, Bool.true_or, Bool.false_or, Bool.or_false, Int.cast_ofNat_Int, hix, Step.d, hwm, hrx]
    generalize st * s.hours = loses at hst
    have hcl1 : ((comesR b rusts (l.take i) str).1.map (D.int .i64)).length = i := by simp [hcl]
    refine Br_split (fun h1 => ?_) (fun h1 => ?_) <;> simp only [go_sem, Nat.reduceBEq, Nat.reduceEqDiff, Nat.reduceLT, Nat.reduceLeDiff, Nat.reduceAdd, Nat.reduceSub, Nat.reduceMul, reduceCtorEq, Int.reduceToNat, Int.reduceEq, Int.reduceLT, Int.reduceLE, Int.reduceNe, Int.reduceNeg , or_self, or_false, false_or , List.length_map, Bool.or_true, Bool.true_or, Bool.false_or, Bool.or_false, Int.cast_ofNat_Int, h1]
    all_goals
      refine ADrw.treeG (fun k => k == 15) tt_ok (by kernel_rfl) (fun k => if k = 6 then some .L else some .S) (.ones [0, 1, 2, 3, 4, 5, 6, 7, 8, 9, 10, 11, 12] .done) (by simp) (fun _ h => nomatch h) rfl rfl (by kernel_rfl) ?_
      simp only [go_sem, Nat.reduceBEq, Nat.reduceEqDiff, Nat.reduceLT, Nat.reduceLeDiff, Nat.reduceAdd, Nat.reduceSub, Nat.reduceMul, reduceCtorEq, Int.reduceToNat, Int.reduceEq, Int.reduceLT, Int.reduceLE, Int.reduceNe, Int.reduceNeg , or_self, or_false, false_or , List.length_map, Bool.or_true, Bool.true_or, Bool.false_or, Bool.or_false, Int.cast_ofNat_Int, hrx, hat, Plate.d, hwt]
      refine Br_split (fun h2 => ?_) (fun h2 => ?_) <;> simp only [go_sem, Nat.reduceBEq, Nat.reduceEqDiff, Nat.reduceLT, Nat.reduceLeDiff, Nat.reduceAdd, Nat.reduceSub, Nat.reduceMul, reduceCtorEq, Int.reduceToNat, Int.reduceEq, Int.reduceLT, Int.reduceLE, Int.reduceNe, Int.reduceNeg , or_self, or_false, false_or , List.length_map, Bool.or_true, Bool.true_or, Bool.false_or, Bool.or_false, Int.cast_ofNat_Int, h1, h2]
    all_goals
      simp only [decide_eq_true_eq, decide_eq_false_iff_not] at h1 h2
      refine ADrw.treeG (fun k => k == 15) tt_ok (by kernel_rfl) (fun k => if k = 6 then some .L else if k = 3 then some .W else some .S) (.ones [0, 1, 2, 4, 5, 7] (.two 3 (.ones [6, 8, 9, 10, 11, 12, 13, 14] .done) 6 (.ones [3, 8, 9, 10, 11, 12, 13, 14] .done))) (by simp) (fun _ h => nomatch h) rfl rfl (by kernel_rfl) ?_
      simp only [go_sem, Nat.reduceBEq, Nat.reduceEqDiff, Nat.reduceLT, Nat.reduceLeDiff, Nat.reduceAdd, Nat.reduceSub, Nat.reduceMul, reduceCtorEq, Int.reduceToNat, Int.reduceEq, Int.reduceLT, Int.reduceLE, Int.reduceNe, Int.reduceNeg , or_self, or_false, false_or , List.length_map, Bool.or_true, Bool.true_or, Bool.false_or, Bool.or_false, Int.cast_ofNat_Int, hat, Plate.d, hws, hcl1, hcl, hi1, List.length_map]
      repeat' refine And.intro ?_ ?_
      all_goals
        first
        | (exfalso; omega)
        | (refine ⟨i + 1, hlt, by omega, ?_⟩
           refine ForgetTo.same' (by simp) (by simp [EWe, Env.look, hst, hnx]) ?_
           rw [hst]
           simp [bthB, howP, h1, h2]
           done)
  · have hie : i = l.length := by simp at hd; omega
    subst hie
    rw [List.take_length] at hcl ⊢
    have t1 : ((comesR b rusts l str).1.map (D.int .i64)).take l.length = (comesR b rusts l str).1.map (D.int .i64) := List.take_of_length_le (by simp [hcl])
    simp only [go_sem, Nat.reduceBEq, Nat.reduceEqDiff, Nat.reduceLT, Nat.reduceLeDiff, Nat.reduceAdd, Nat.reduceSub, Nat.reduceMul, reduceCtorEq, Int.reduceToNat, Int.reduceEq, Int.reduceLT, Int.reduceLE, Int.reduceNe, Int.reduceNeg , or_self, or_false, false_or , List.length_map, Bool.or_true, Bool.true_or, Bool.false_or, Bool.or_false, Int.cast_ofNat_Int, hcl, t1, List.length_map]
end Go.Aw
end

section
set_option maxRecDepth 100000
namespace Go.Aw
open Go Go.Proofs.Try

structure B2 where
  a : Int
  b : Int
deriving DecidableEq

def B2.d (s : B2) : D := .agg [.int .u8 s.a, .int .u8 s.b]

structure B2.Ok (s : B2) : Prop where
  a : Byte s.a
  b : Byte s.b

def stepV2 (n : Nat) (s : List Step) (v : B2) : List Step := if v.a % n ∈ platesOf s then s else s ++ [⟨v.a % n, 1 + v.b % 24⟩]

def stepsF (n : Nat) (l : List B2) : List Step := l.foldl (stepV2 n) []

def stepsB (b : Bath) (l : List B2) : List Step := if b.plates.length = 0 then [] else stepsF b.plates.length (l.take 5)

theorem stepsF_len (n : Nat) (l : List B2) : (stepsF n l).length ≤ l.length := by
  have : ∀ (l : List B2) (s : List Step), (l.foldl (stepV2 n) s).length ≤ s.length + l.length := by
    intro l
    induction l with
    | nil => intro s; simp
    | cons v r ih =>
      intro s
      have h1 := ih (stepV2 n s v)
      have h2 : (stepV2 n s v).length ≤ s.length + 1 := by unfold stepV2; split <;> simp
      simp only [List.foldl_cons, List.length_cons]
      omega
  simpa [stepsF] using this l []

theorem stepsOk_one {np : Nat} {l : List Step} (h : stepsOk np 0 l = true) {s : Step} (h1 : 0 ≤ s.plate ∧ s.plate < np) (h2 : 1 ≤ s.hours ∧ s.hours ≤ 24) (h3 : s.plate ∉ platesOf l) : stepsOk np 0 (l ++ [s]) = true := by
  have hm := stepsOk_more h s.plate
  rw [stepsOk_append, h, Bool.true_and] at hm ⊢
  have w1 : within 0 ((np : Int) - 1) [s.plate] = true := within_one.2 (by omega)
  have w2 : within 1 24 [s.hours] = true := within_one.2 h2
  have w3 : within 1 24 [(1 : Int)] = true := by decide
  have h3' : decide (s.plate ∈ platesOf l) = false := by simpa using h3
  have e1 : stepBad np (doneF 0 l) s = (doneF 0 l).testBit s.plate.toNat := by simp only [stepBad, w1, w2, Bool.not_true, Bool.false_or]
  have e2 : stepBad np (doneF 0 l) ⟨s.plate, 1⟩ = (doneF 0 l).testBit s.plate.toNat := by simp only [stepBad, w1, w3, Bool.not_true, Bool.false_or]
  have e3 : ∀ x : Step, stepsOk np (doneF 0 l) [x] = !stepBad np (doneF 0 l) x := fun x => by
    simp only [stepsOk]
    cases stepBad np (doneF 0 l) x <;> rfl
  rw [e3, e2, w1, h3'] at hm
  rw [e3, e1]
  simpa using hm

theorem stepsF_ok {n : Nat} (hn : 0 < n) (l : List B2) (hl : ∀ v ∈ l, v.Ok) : stepsOk n 0 (stepsF n l) = true := by
  have : ∀ (l : List B2) (s : List Step), (∀ v ∈ l, v.Ok) → stepsOk n 0 s = true → stepsOk n 0 (l.foldl (stepV2 n) s) = true := by
    intro l
    induction l with
    | nil => intro s _ h; exact h
    | cons v r ih =>
      intro s hv h
      refine ih _ (fun x hx => hv x (List.mem_cons_of_mem _ hx)) ?_
      unfold stepV2
      split
      · exact h
      · rename_i hp
        have h1 := (hv v List.mem_cons_self).a
        have h2 := (hv v List.mem_cons_self).b
        simp only [Byte] at h1 h2
        have e1 := Int.emod_nonneg v.a (show (n : Int) ≠ 0 by omega)
        have e2 := Int.emod_lt_of_pos v.a (show (0 : Int) < n by omega)
        exact stepsOk_one h ⟨e1, e2⟩ (by simp only; omega) hp
  exact this l [] hl rfl

theorem stepsB_ok {b : Bath} (l : List B2) (hl : ∀ v ∈ l, v.Ok) : stepsOk b.plates.length 0 (stepsB b l) = true := by
  unfold stepsB
  split
  · rfl
  · exact stepsF_ok (by omega) _ (fun v hv => hl v (List.mem_of_mem_take hv))

theorem stepsB_len (b : Bath) (l : List B2) : (stepsB b l).length ≤ 5 := by
  unfold stepsB
  split
  · simp
  · have := stepsF_len b.plates.length (l.take 5)
    have h2 := List.length_take_le 5 l
    omega

def doneB (s : List Step) : Blk := .cells [.d (.bool (decide ((0 : Int) ∈ platesOf s))), .d (.bool (decide ((1 : Int) ∈ platesOf s))), .d (.bool (decide ((2 : Int) ∈ platesOf s))), .d (.bool (decide ((3 : Int) ∈ platesOf s))), .d (.bool (decide ((4 : Int) ∈ platesOf s)))]

theorem c59 (b : Bath) (l : List B2) (hb : b.plates.length ≤ 5) (hl : ∀ v ∈ l, v.Ok) : PC prog 59 [.d b.d, .d (.sl (l.map B2.d))] (.d (.sl ((stepsB b l).map Step.d))) := by
  refine PC.run (fun k => k == 9) tt_ok (fn := f59) (rs := [.tmp 4]) rfl rfl rfl rfl rfl rfl rfl ?_
  simp only [go_sem, Nat.reduceBEq, Nat.reduceEqDiff, Nat.reduceLT, Nat.reduceLeDiff, Nat.reduceAdd, Nat.reduceSub, Nat.reduceMul, reduceCtorEq, Int.reduceToNat, Int.reduceEq, Int.reduceLT, Int.reduceLE, Int.reduceNe, Int.reduceNeg , or_self, or_false, false_or , List.length_map, Bool.or_true, Bool.true_or, Bool.false_or, Bool.or_false, Int.cast_ofNat_Int, Bath.d]
  refine ALoop.by (S := Nat) (fun i => [(7, .d (.int .i64 i)), (6, .ptr 2 0), (5, .ref 1 (stepsF b.plates.length (l.take i)).length 0 (stepsF b.plates.length (l.take i)).length), (2, .ptr 0 0), (1, .d (.sl (l.map B2.d)))])
    (fun i => [bthB b, .arr 2 false ((stepsF b.plates.length (l.take i)).map Step.d), doneB (stepsF b.plates.length (l.take i))]) (fun i => 5 - i) (fun i => i ≤ l.length ∧ i ≤ 5 ∧ (b.plates.length = 0 → i = 0)) 0 (Nat.zero_le _) (fun _ h => nomatch h) ⟨Nat.zero_le _, by omega, fun _ => rfl⟩ ?_ ?_
  · exact ForgetTo.same' (Nat.zero_le _) (by simp [EWe, Env.look, stepsF]) (by simp [bthB, doneB, stepsF, platesOf])
  rintro i ⟨hi, hi5, hi0⟩ hn
  have hsl := stepsF_len b.plates.length (l.take i)
  have hlen : (l.take i).length = i := by simp; omega
  rw [hlen] at hsl
  have FIN : stepsB b l = stepsF b.plates.length (l.take i) → ((stepsF b.plates.length (l.take i)).map Step.d).take (stepsF b.plates.length (l.take i)).length = (stepsB b l).map Step.d := fun h => by
    rw [h]; exact List.take_of_length_le (by simp)
  refine AWP.run (fun k => k == 9) tt_ok (fun _ h => nomatch h) (Nat.zero_le _) rfl ?_
  simp only [go_sem, Nat.reduceBEq, Nat.reduceEqDiff, Nat.reduceLT, Nat.reduceLeDiff, Nat.reduceAdd, Nat.reduceSub, Nat.reduceMul, reduceCtorEq, Int.reduceToNat, Int.reduceEq, Int.reduceLT, Int.reduceLE, Int.reduceNe, Int.reduceNeg , or_self, or_false, false_or , List.length_map, Bool.or_true, Bool.true_or, Bool.false_or, Bool.or_false, Int.cast_ofNat_Int, bthB, doneB]
  refine Br_split (fun hd => ?_) (fun hd => ?_) <;> simp only [go_sem, Nat.reduceBEq, Nat.reduceEqDiff, Nat.reduceLT, Nat.reduceLeDiff, Nat.reduceAdd, Nat.reduceSub, Nat.reduceMul, reduceCtorEq, Int.reduceToNat, Int.reduceEq, Int.reduceLT, Int.reduceLE, Int.reduceNe, Int.reduceNeg , or_self, or_false, false_or , List.length_map, Bool.or_true, Bool.true_or, Bool.false_or, Bool.or_false, Int.cast_ofNat_Int, hd]
  · have hlt : i < l.length := by simpa using hd
    refine Br_split (fun hd2 => ?_) (fun hd2 => ?_) <;> simp only [go_sem, Nat.reduceBEq, Nat.reduceEqDiff, Nat.reduceLT, Nat.reduceLeDiff, Nat.reduceAdd, Nat.reduceSub, Nat.reduceMul, reduceCtorEq, Int.reduceToNat, Int.reduceEq, Int.reduceLT, Int.reduceLE, Int.reduceNe, Int.reduceNeg , or_self, or_false, false_or , List.length_map, Bool.or_true, Bool.true_or, Bool.false_or, Bool.or_false, Int.cast_ofNat_Int, hd, hd2]
    · have hlt2 : i < 5 := by simp only [decide_eq_true_eq] at hd2; omega
      refine Br_split (fun hd3 => ?_) (fun hd3 => ?_) <;> simp only [go_sem, Nat.reduceBEq, Nat.reduceEqDiff, Nat.reduceLT, Nat.reduceLeDiff, Nat.reduceAdd, Nat.reduceSub, Nat.reduceMul, reduceCtorEq, Int.reduceToNat, Int.reduceEq, Int.reduceLT, Int.reduceLE, Int.reduceNe, Int.reduceNeg , or_self, or_false, false_or , List.length_map, Bool.or_true, Bool.true_or, Bool.false_or, Bool.or_false, Int.cast_ofNat_Int, hd, hd2, hd3]
      · have hn0 : 0 < b.plates.length := by simp only [decide_eq_true_eq] at hd3; omega
        have hv := hl _ (List.getElem_mem hlt)
        have hix : idx? (l.map B2.d) (i : Int) = some (l[i]).d := by simp [idx?, List.getElem?_eq_getElem hlt]
        have hst : stepsF b.plates.length (l.take (i + 1)) = stepV2 b.plates.length (stepsF b.plates.length (l.take i)) l[i] := by
          rw [stepsF, List.take_succ_eq_append_getElem hlt, List.foldl_append]; rfl
        generalize l[i] = v at hv hix hst
        have b1 := hv.a
        have b2 := hv.b
        have f1 := byte_conv b1
        have f2 := byte_conv b2
        simp only [Byte] at b1 b2
        have zn : (b.plates.length : Int) ≠ 0 := by omega
        have z24 : (24 : Int) ≠ 0 := by omega
        have n1 : v.a.tmod b.plates.length = v.a % b.plates.length := Int.tmod_eq_emod_of_nonneg b1.1
        have n2 : v.b.tmod 24 = v.b % 24 := Int.tmod_eq_emod_of_nonneg b2.1
        have e1 := Int.emod_nonneg v.a zn
        have e2 := Int.emod_lt_of_pos v.a (show (0 : Int) < b.plates.length by omega)
        have w1 : IntKind.i64.wrap (1 + v.b % 24) = 1 + v.b % 24 := w64 (by omega) (by omega)
        have hi1 : (stepsF b.plates.length (l.take i)).length + 1 ≤ 4294967296 := by omega
        have hnx : IntKind.i64.wrap ((i : Int) + 1) = ((i + 1 : Nat) : Int) := w64 (by omega) (by omega)
        unfold stepV2 at hst
        have hp : v.a % b.plates.length = 0 ∨ v.a % b.plates.length = 1 ∨ v.a % b.plates.length = 2 ∨ v.a % b.plates.length = 3 ∨ v.a % b.plates.length = 4 := by omega
        refine ADrw.treeG (fun k => k == 9) tt_ok (by kernel_rfl) (fun k => if k = 7 then some .L else some .S) (.ones [0, 1, 2, 3, 4, 5, 6, 7, 8, 9, 10] .done) (Nat.zero_le _) (fun _ h => nomatch h) rfl rfl (by kernel_rfl) ?_
        simp only [go_sem, Nat.reduceBEq, Nat.reduceEqDiff, Nat.reduceLT, Nat.reduceLeDiff, Nat.reduceAdd, Nat.reduceSub, Nat.reduceMul, reduceCtorEq, Int.reduceToNat, Int.reduceEq, Int.reduceLT, Int.reduceLE, Int.reduceNe, Int.reduceNeg , or_self, or_false, false_or , List.length_map, Bool.or_true, Bool.true_or, Bool.false_or, Bool.or_false, Int.cast_ofNat_Int, hix, B2.d, f1, n1, remO_ne zn]
        generalize stepsF b.plates.length (l.take i) = st at hst hsl hi1 FIN
        rcases hp with hp | hp | hp | hp | hp
        all_goals
          rw [hp] at hst
          simp only [go_sem, Nat.reduceBEq, Nat.reduceEqDiff, Nat.reduceLT, Nat.reduceLeDiff, Nat.reduceAdd, Nat.reduceSub, Nat.reduceMul, reduceCtorEq, Int.reduceToNat, Int.reduceEq, Int.reduceLT, Int.reduceLE, Int.reduceNe, Int.reduceNeg , or_self, or_false, false_or , List.length_map, Bool.or_true, Bool.true_or, Bool.false_or, Bool.or_false, Int.cast_ofNat_Int, hp]
          refine Br_split (fun h1 => ?_) (fun h1 => ?_) <;> simp only [go_sem, Nat.reduceBEq, Nat.reduceEqDiff, Nat.reduceLT, Nat.reduceLeDiff, Nat.reduceAdd, Nat.reduceSub, Nat.reduceMul, reduceCtorEq, Int.reduceToNat, Int.reduceEq, Int.reduceLT, Int.reduceLE, Int.reduceNe, Int.reduceNeg , or_self, or_false, false_or , List.length_map, Bool.or_true, Bool.true_or, Bool.false_or, Bool.or_false, Int.cast_ofNat_Int, h1]
        all_goals
          simp only [Bool.not_eq_true', Bool.not_eq_false', decide_eq_true_eq, decide_eq_false_iff_not] at h1
        all_goals
          first
          | (rw [if_pos h1] at hst
             refine ⟨i + 1, ⟨hlt, hlt2, fun h => absurd h (by omega)⟩, by omega, ?_⟩
             exact ForgetTo.same' (Nat.zero_le _) (by simp [EWe, Env.look, hst, hnx]) (by simp [bthB, doneB, hst])
             done)
          | (rw [if_neg h1] at hst
             simp only [go_sem, Nat.reduceBEq, Nat.reduceEqDiff, Nat.reduceLT, Nat.reduceLeDiff, Nat.reduceAdd, Nat.reduceSub, Nat.reduceMul, reduceCtorEq, Int.reduceToNat, Int.reduceEq, Int.reduceLT, Int.reduceLE, Int.reduceNe, Int.reduceNeg , or_self, or_false, false_or , List.length_map, Bool.or_true, Bool.true_or, Bool.false_or, Bool.or_false, Int.cast_ofNat_Int, hix, B2.d, f2, n2, remO_ne z24, w1]
             refine (c24 _ (1 + v.b % 24)).call rfl rfl rfl ?_
             simp only [go_sem, Nat.reduceBEq, Nat.reduceEqDiff, Nat.reduceLT, Nat.reduceLeDiff, Nat.reduceAdd, Nat.reduceSub, Nat.reduceMul, reduceCtorEq, Int.reduceToNat, Int.reduceEq, Int.reduceLT, Int.reduceLE, Int.reduceNe, Int.reduceNeg , or_self, or_false, false_or , List.length_map, Bool.or_true, Bool.true_or, Bool.false_or, Bool.or_false, Int.cast_ofNat_Int, hi1, List.length_map, Step.d]
             refine ⟨i + 1, ⟨hlt, hlt2, fun h => absurd h (by omega)⟩, by omega, ?_⟩
             exact ForgetTo.same' (Nat.zero_le _) (by simp [EWe, Env.look, hst, hnx]) (by simp [bthB, doneB, hst, platesOf, Step.d])
             done)
      · have hn0 : b.plates.length = 0 := by simp only [decide_eq_false_iff_not] at hd3; omega
        have hi00 := hi0 hn0
        have hf := FIN (by rw [stepsB, if_pos hn0, hi00]; rfl)
        simp only [go_sem, Nat.reduceBEq, Nat.reduceEqDiff, Nat.reduceLT, Nat.reduceLeDiff, Nat.reduceAdd, Nat.reduceSub, Nat.reduceMul, reduceCtorEq, Int.reduceToNat, Int.reduceEq, Int.reduceLT, Int.reduceLE, Int.reduceNe, Int.reduceNeg , or_self, or_false, false_or , List.length_map, Bool.or_true, Bool.true_or, Bool.false_or, Bool.or_false, Int.cast_ofNat_Int, hf, List.length_map]
    · have hie : i = 5 := by simp only [decide_eq_false_iff_not] at hd2; omega
      have hn0 : b.plates.length ≠ 0 := fun h => by have := hi0 h; omega
      have hf := FIN (by rw [stepsB, if_neg hn0, hie])
      simp only [go_sem, Nat.reduceBEq, Nat.reduceEqDiff, Nat.reduceLT, Nat.reduceLeDiff, Nat.reduceAdd, Nat.reduceSub, Nat.reduceMul, reduceCtorEq, Int.reduceToNat, Int.reduceEq, Int.reduceLT, Int.reduceLE, Int.reduceNe, Int.reduceNeg , or_self, or_false, false_or , List.length_map, Bool.or_true, Bool.true_or, Bool.false_or, Bool.or_false, Int.cast_ofNat_Int, hf, List.length_map]
  · have hie : i = l.length := by simp at hd; omega
    have hf := FIN (by
      rw [stepsB]
      split
      · rename_i h0; rw [hi0 h0]; rfl
      · rw [hie, List.take_length, List.take_of_length_le (by omega)])
    simp only [go_sem, Nat.reduceBEq, Nat.reduceEqDiff, Nat.reduceLT, Nat.reduceLeDiff, Nat.reduceAdd, Nat.reduceSub, Nat.reduceMul, reduceCtorEq, Int.reduceToNat, Int.reduceEq, Int.reduceLT, Int.reduceLE, Int.reduceNe, Int.reduceNeg , or_self, or_false, false_or , List.length_map, Bool.or_true, Bool.true_or, Bool.false_or, Bool.or_false, Int.cast_ofNat_Int, hf, List.length_map]
end Go.Aw
end

section
set_option maxRecDepth 100000
namespace Go.Aw
open Go Go.Proofs.Try

theorem stepsOk_ones {np : Nat} : ∀ {d : Nat} {l : List Step}, stepsOk np d l = true → stepsOk np d (ones (platesOf l)) = true
  | d, [], _ => rfl
  | d, x :: r, h => by
    simp only [stepsOk] at h
    split at h
    · cases h
    · rename_i hb
      have hb' : stepBad np d ⟨x.plate, 1⟩ = false := by
        have w3 : within 1 24 [(1 : Int)] = true := by decide
        simp only [stepBad, Bool.not_eq_true, Bool.or_eq_false_iff] at hb
        simp only [stepBad, w3, hb.1.1, hb.2]
        rfl
      have : ones (platesOf (x :: r)) = ⟨x.plate, 1⟩ :: ones (platesOf r) := rfl
      rw [this]
      simp only [stepsOk]
      rw [hb', if_neg (by simp)]
      exact stepsOk_ones h

theorem comesR_get (b : Bath) (rusts : List Int) : ∀ (l : List Step) (str : Int) (i : Nat) (h : i < l.length), (comesR b rusts l str).1[i]? = some (trueHow b rusts (comesR b rusts (l.take i) str).2 l[i])
  | [], _, i, h => by simp at h
  | s :: r, str, 0, _ => by simp [comesR]
  | s :: r, str, i + 1, h => by
    simp only [comesR, List.getElem?_cons_succ, List.take_succ_cons, List.getElem_cons_succ]
    exact comesR_get b rusts r _ i (by simpa using h)

theorem Vat.rust_in {x : Vat} (hx : x.Ok) {q : Nat} (hq : q < x.bath.plates.length) : (x.bath.pl q).rust.lo ≤ x.rusts.getD q 0 ∧ x.rusts.getD q 0 ≤ (x.bath.pl q).rust.hi := by
  have hq' : q < (x.plates.take 4).length := by simpa [Vat.bath] using hq
  have hm := hx.p _ (List.mem_of_mem_take (List.getElem_mem hq'))
  have e1 : x.bath.pl q = plateOf (x.plates.take 4)[q] := by
    simp only [Bath.pl, Int.toNat_natCast, Vat.bath, List.getD_eq_getElem?_getD, List.getElem?_map, List.getElem?_eq_getElem hq', Option.map_some, Option.getD_some]
  have e2 : x.rusts.getD q 0 = ((x.plates.take 4)[q]).a := by
    simp only [Vat.rusts, List.getD_eq_getElem?_getD, List.getElem?_map, List.getElem?_eq_getElem hq', Option.map_some, Option.getD_some]
  rw [e1, e2]
  have b1 := hm.a
  have b2 := hm.b
  simp only [Byte] at b1 b2
  simp only [plateOf]
  omega

theorem Vat.str_in {x : Vat} (hx : x.Ok) : x.bath.str.lo ≤ x.str ∧ x.str ≤ x.bath.str.hi := by
  have h2 := hx.s.b
  have h3 := hx.s.c
  simp only [Byte] at h2 h3
  have hz : x.s.b % 6 + 1 ≠ 0 := by omega
  have := Int.emod_nonneg x.s.c hz
  have := Int.emod_lt_of_pos x.s.c (show 0 < x.s.b % 6 + 1 by omega)
  simp only [Vat.bath, Vat.str]
  omega

theorem howP_thin {p q : Plate} (h : p.thin = q.thin) (r l : Int) : howP p r l = howP q r l := by simp only [howP, h]

/-- What is true is one of the ways. -/
theorem true_in {b : Bath} (hok : b.Ok) (before : List Int) (s : Step) (rusts : List Int) (str : Int) (hs : b.str.lo ≤ str ∧ str ≤ b.str.hi) (hp : 0 ≤ s.plate) (hr : (b.pl s.plate).rust.lo ≤ rusts.getD s.plate.toNat 0 ∧ rusts.getD s.plate.toNat 0 ≤ (b.pl s.plate).rust.hi) :
    trueHow b rusts (weakF b before str) s ∈ waysL b s (fellF b before) := by
  rw [ways_eq hok]
  have hin := howP_in ⟨⟨0, 0⟩, 0, (b.pl s.plate).thin⟩ (rusts.getD s.plate.toNat 0) (weakF b before str * s.hours)
  simp only [waysR, List.mem_filter]
  refine ⟨by simp only [trueHow, List.mem_cons]; omega, ?_⟩
  simp only [strW, List.any_eq_true, List.mem_range]
  refine ⟨(str - b.str.lo).toNat, by simp only [nS]; omega, ?_⟩
  rw [show b.str.lo + ((str - b.str.lo).toNat : Int) = str by omega]
  simp only [rowW, List.any_eq_true, List.mem_range, decide_eq_true_eq]
  refine ⟨(rusts.getD s.plate.toNat 0 - (b.pl s.plate).rust.lo).toNat, by simp only [nR]; omega, ?_⟩
  rw [show (b.pl s.plate).rust.lo + ((rusts.getD s.plate.toNat 0 - (b.pl s.plate).rust.lo).toNat : Int) = rusts.getD s.plate.toNat 0 by omega]
  exact howP_thin rfl _ _

theorem waysL_asc (b : Bath) (s : Step) (fell : Int) : (waysL b s fell).Pairwise (· < ·) := by
  unfold waysL
  exact List.Pairwise.filter _ (by simp)

theorem waysL_in {b : Bath} {s : Step} {fell h : Int} (hh : h ∈ waysL b s fell) : 1 ≤ h ∧ h ≤ 3 := by
  simp only [waysL, List.mem_filter, List.mem_cons, List.not_mem_nil, or_false] at hh
  omega

theorem waysL_len (b : Bath) (s : Step) (fell : Int) : (waysL b s fell).length ≤ 3 := by
  have := List.length_filter_le (fun h => (canM b s fell (nStr b)).contains h) ([1, 2, 3] : List Int)
  simpa [waysL] using this

theorem c10 {x : Vat} (hx : x.Ok) (l : List B2) (hl : ∀ v ∈ l, v.Ok) : PC prog 10 [.d x.d, .d (.sl (l.map B2.d))] (.d (.bool true)) := by
  have hok := Vat.bathOk hx
  obtain ⟨g1, g2⟩ := Vat.str_in hx
  have hri := fun q hq => Vat.rust_in hx (q := q) hq
  have hso := stepsB_ok (b := x.bath) l hl
  have hsl := stepsB_len x.bath l
  have hrl : x.rusts.length = x.bath.plates.length := by simp [Vat.rusts, Vat.bath]
  have hrb : ∀ r ∈ x.rusts, 0 ≤ r ∧ r ≤ 600 := fun r hr => by
    obtain ⟨v, hv, rfl⟩ := List.mem_map.1 hr
    have := (hx.p v (List.mem_of_mem_take hv)).a
    simp only [Byte] at this
    omega
  obtain ⟨s1, s2, s3, hb5, _⟩ := id hok
  refine PC.run (fun k => k == 35) tt_ok (fn := f10) (rs := [.tmp 4]) rfl rfl rfl rfl rfl rfl rfl ?_
  simp only [go_sem, Nat.reduceBEq, Nat.reduceEqDiff, Nat.reduceLT, Nat.reduceLeDiff, Nat.reduceAdd, Nat.reduceSub, Nat.reduceMul, reduceCtorEq, Int.reduceToNat, Int.reduceEq, Int.reduceLT, Int.reduceLE, Int.reduceNe, Int.reduceNeg , or_self, or_false, false_or , List.length_map, Bool.or_true, Bool.true_or, Bool.false_or, Bool.or_false, Int.cast_ofNat_Int, Vat.d]
  refine (c58 hx).call rfl rfl rfl ?_
  simp only [go_sem, Nat.reduceBEq, Nat.reduceEqDiff, Nat.reduceLT, Nat.reduceLeDiff, Nat.reduceAdd, Nat.reduceSub, Nat.reduceMul, reduceCtorEq, Int.reduceToNat, Int.reduceEq, Int.reduceLT, Int.reduceLE, Int.reduceNe, Int.reduceNeg , or_self, or_false, false_or , List.length_map, Bool.or_true, Bool.true_or, Bool.false_or, Bool.or_false, Int.cast_ofNat_Int]
  generalize x.bath = b at *
  generalize x.str = str at *
  generalize x.rusts = rusts at *
  simp only [go_sem, Nat.reduceBEq, Nat.reduceEqDiff, Nat.reduceLT, Nat.reduceLeDiff, Nat.reduceAdd, Nat.reduceSub, Nat.reduceMul, reduceCtorEq, Int.reduceToNat, Int.reduceEq, Int.reduceLT, Int.reduceLE, Int.reduceNe, Int.reduceNeg , or_self, or_false, false_or , List.length_map, Bool.or_true, Bool.true_or, Bool.false_or, Bool.or_false, Int.cast_ofNat_Int, Bath.d]
  refine (c59 b l hb5 hl).call rfl rfl rfl ?_
  simp only [go_sem, Nat.reduceBEq, Nat.reduceEqDiff, Nat.reduceLT, Nat.reduceLeDiff, Nat.reduceAdd, Nat.reduceSub, Nat.reduceMul, reduceCtorEq, Int.reduceToNat, Int.reduceEq, Int.reduceLT, Int.reduceLE, Int.reduceNe, Int.reduceNeg , or_self, or_false, false_or , List.length_map, Bool.or_true, Bool.true_or, Bool.false_or, Bool.or_false, Int.cast_ofNat_Int]
  generalize stepsB b l = all at *
  have hmem := stepsOk_mem hso
  have hpl : (platesOf all).length = all.length := by simp [platesOf]
  have hd0 : ∀ {α : Type} [DecidableEq α] (l : α), decide (l = l) = true := fun l => by simp
  refine ALoop.by (S := Nat) (fun i => [(10, .d (.int .i64 i)), (9, .ref 2 i 0 i), (8, .d (.sl (all.map Step.d))), (7, .d (.sl (rusts.map (.int .i64)))), (6, .d (.int .i64 str)), (5, .ptr 1 0)])
    (fun i => [.cells [.d (.int .u8 x.s.a), .d (.int .u8 x.s.b), .d (.int .u8 x.s.c), .d (.sl (x.plates.map B4.d))], bthB b, .arr 1 false ((platesOf (all.take i)).map (.int .i64))]) (fun i => all.length - i) (fun i => i ≤ all.length) 0 (Nat.zero_le _) (fun _ h => nomatch h) (Nat.zero_le _) ?_ ?_
  · exact ForgetTo.same' (Nat.zero_le _) (by simp [EWe, Env.look]) (by simp [bthB, platesOf])
  rintro i hi hn
  refine AWP.run (fun k => k == 35) tt_ok (fun _ h => nomatch h) (Nat.zero_le _) rfl ?_
  simp only [go_sem, Nat.reduceBEq, Nat.reduceEqDiff, Nat.reduceLT, Nat.reduceLeDiff, Nat.reduceAdd, Nat.reduceSub, Nat.reduceMul, reduceCtorEq, Int.reduceToNat, Int.reduceEq, Int.reduceLT, Int.reduceLE, Int.reduceNe, Int.reduceNeg , or_self, or_false, false_or , List.length_map, Bool.or_true, Bool.true_or, Bool.false_or, Bool.or_false, Int.cast_ofNat_Int, bthB]
  refine Br_split (fun hd => ?_) (fun hd => ?_) <;> simp only [go_sem, Nat.reduceBEq, Nat.reduceEqDiff, Nat.reduceLT, Nat.reduceLeDiff, Nat.reduceAdd, Nat.reduceSub, Nat.reduceMul, reduceCtorEq, Int.reduceToNat, Int.reduceEq, Int.reduceLT, Int.reduceLE, Int.reduceNe, Int.reduceNeg , or_self, or_false, false_or , List.length_map, Bool.or_true, Bool.true_or, Bool.false_or, Bool.or_false, Int.cast_ofNat_Int, hd]
  · have hlt : i < all.length := by simpa using hd
    have hix : idx? (all.map Step.d) (i : Int) = some (all[i]).d := by simp [idx?, List.getElem?_eq_getElem hlt]
    have hst : (platesOf (all.take (i + 1))).map (D.int .i64) = (platesOf (all.take i)).map (D.int .i64) ++ [.int .i64 all[i].plate] := by
      rw [List.take_add_one, List.getElem?_eq_getElem hlt]; simp only [platesOf, List.map_append, Option.toList_some, List.map_cons, List.map_nil]
    have hln : ((platesOf (all.take i)).map (D.int .i64)).length = i := by simp [platesOf]; omega
    have hln2 : (platesOf (all.take i)).length = i := by simp [platesOf]; omega
    have hi1 : i + 1 ≤ 4294967296 := by omega
    generalize all[i] = y at hix hst
    simp only [go_sem, Nat.reduceBEq, Nat.reduceEqDiff, Nat.reduceLT, Nat.reduceLeDiff, Nat.reduceAdd, Nat.reduceSub, Nat.reduceMul, reduceCtorEq, Int.reduceToNat, Int.reduceEq, Int.reduceLT, Int.reduceLE, Int.reduceNe, Int.reduceNeg , or_self, or_false, false_or , List.length_map, Bool.or_true, Bool.true_or, Bool.false_or, Bool.or_false, Int.cast_ofNat_Int, hix, hln, hln2, hi1, Step.d]
    refine ⟨i + 1, hlt, by omega, ?_⟩
    exact ForgetTo.same' (Nat.zero_le _) (by simp [EWe, Env.look, w64 (n := (i : Int) + 1) (by omega) (by omega)]) (by rw [hst])
  have hie : i = all.length := by simp at hd; omega
  subst hie
  rw [List.take_length]
  have hst2 := stepsOk_ones hso
  have hc0 : checkP b = 0 := checkP_iff.2 hok
  have hsp : strengthsP b (platesOf all) = (strengthsL b (platesOf all) (all.length + 1), 0) := by simp only [strengthsP, hc0, if_true, hst2, hpl]
  have hop : outP b all = (outL b all all.length, 0) := by simp only [outP, hc0, if_true, hso]
  have htk : ((platesOf all).map (D.int .i64)).take all.length = (platesOf all).map (D.int .i64) := List.take_of_length_le (by simp [hpl])
  have hszs := sized_steps all
  have hle : all.length ≤ 4294967296 := by omega
  refine (c60 b (by omega)).call rfl rfl rfl ?_
  simp only [go_sem, Nat.reduceBEq, Nat.reduceEqDiff, Nat.reduceLT, Nat.reduceLeDiff, Nat.reduceAdd, Nat.reduceSub, Nat.reduceMul, reduceCtorEq, Int.reduceToNat, Int.reduceEq, Int.reduceLT, Int.reduceLE, Int.reduceNe, Int.reduceNeg , or_self, or_false, false_or , List.length_map, Bool.or_true, Bool.true_or, Bool.false_or, Bool.or_false, Int.cast_ofNat_Int, Bath.d]
  refine DCall_sound (PC.callF 2 (c20 b (platesOf all) (by omega) (by omega)) rfl rfl (by simp [frzVs, frzV, dz, Bath.d, htk, hpl]) rfl rfl ?_)
  rw [hsp]
  simp only [go_sem, Nat.reduceBEq, Nat.reduceEqDiff, Nat.reduceLT, Nat.reduceLeDiff, Nat.reduceAdd, Nat.reduceSub, Nat.reduceMul, reduceCtorEq, Int.reduceToNat, Int.reduceEq, Int.reduceLT, Int.reduceLE, Int.reduceNe, Int.reduceNeg , or_self, or_false, false_or , List.length_map, Bool.or_true, Bool.true_or, Bool.false_or, Bool.or_false, Int.cast_ofNat_Int, Bath.d]
  refine (c60 b (by omega)).call rfl rfl rfl ?_
  simp only [go_sem, Nat.reduceBEq, Nat.reduceEqDiff, Nat.reduceLT, Nat.reduceLeDiff, Nat.reduceAdd, Nat.reduceSub, Nat.reduceMul, reduceCtorEq, Int.reduceToNat, Int.reduceEq, Int.reduceLT, Int.reduceLE, Int.reduceNe, Int.reduceNeg , or_self, or_false, false_or , List.length_map, Bool.or_true, Bool.true_or, Bool.false_or, Bool.or_false, Int.cast_ofNat_Int, Bath.d, hszs, hle, List.length_map, List.nil_append, Nat.zero_add]
  refine (c28 b all (by omega) (by omega)).call rfl rfl rfl ?_
  have hw : IntKind.i64.wrap ((all.length : Int) + 1) = ((all.length + 1 : Nat) : Int) := by rw [w64 (by omega) (by omega)]; omega
  rw [hop]
  simp only [go_sem, Nat.reduceBEq, Nat.reduceEqDiff, Nat.reduceLT, Nat.reduceLeDiff, Nat.reduceAdd, Nat.reduceSub, Nat.reduceMul, reduceCtorEq, Int.reduceToNat, Int.reduceEq, Int.reduceLT, Int.reduceLE, Int.reduceNe, Int.reduceNeg , or_self, or_false, false_or , List.length_map, Bool.or_true, Bool.true_or, Bool.false_or, Bool.or_false, Int.cast_ofNat_Int, strengthsL_len, outL_len, List.length_map, hw, hd0]
  have hmt : ∀ i, ∀ x ∈ all.take i, (0 ≤ x.plate ∧ x.plate < b.plates.length) ∧ 1 ≤ x.hours ∧ x.hours ≤ 24 := fun i y hy => hmem y (List.mem_of_mem_take hy)
  have c0 : ∀ i : Nat, 0 ≤ i := fun i => Nat.zero_le _
  have hlen1 : (all.map Step.d).length = all.length := by simp
  have CC := fun (i : Nat) (st : Int) (h0 : 0 ≤ st) (h4 : st ≤ 40) => c61 hok (all.take i) st rusts (by simp; omega) ⟨h0, h4⟩ hrl hrb (hmt i)
  refine ALoop.by (S := Nat) (fun i => [(15, .d (.int .i64 i)), (13, .d (.sl ((outL b all all.length).map intsD))), (11, .d (.sl ((strengthsL b (platesOf all) (all.length + 1)).map Sp.d))), (8, .d (.sl (all.map Step.d))), (7, .d (.sl (rusts.map (.int .i64)))), (6, .d (.int .i64 str)), (5, .ptr 1 0)])
    (fun i => [.cells [.d (.int .u8 x.s.a), .d (.int .u8 x.s.b), .d (.int .u8 x.s.c), .d (.sl (x.plates.map B4.d))], bthB b]) (fun i => all.length + 1 - i) (fun i => i ≤ all.length + 1) 0 (Nat.zero_le _) (fun _ h => nomatch h) (Nat.zero_le _) ?_ ?_
  · refine ForgetTo.drop (H0 := [_, _]) (Y := [_]) (Nat.zero_le _) rfl (by simp [BBs, BB, VBs, VB, bthB]) ?_
    simp [EWp, Env.look, pubV]
  · rintro i hi hn2
    refine AWP.run (fun k => k == 35) tt_ok (fun _ h => nomatch h) (Nat.zero_le _) rfl ?_
    simp only [go_sem, Nat.reduceBEq, Nat.reduceEqDiff, Nat.reduceLT, Nat.reduceLeDiff, Nat.reduceAdd, Nat.reduceSub, Nat.reduceMul, reduceCtorEq, Int.reduceToNat, Int.reduceEq, Int.reduceLT, Int.reduceLE, Int.reduceNe, Int.reduceNeg , or_self, or_false, false_or , List.length_map, Bool.or_true, Bool.true_or, Bool.false_or, Bool.or_false, Int.cast_ofNat_Int, bthB]
    refine Br_split (fun he => ?_) (fun he => ?_) <;> simp only [go_sem, Nat.reduceBEq, Nat.reduceEqDiff, Nat.reduceLT, Nat.reduceLeDiff, Nat.reduceAdd, Nat.reduceSub, Nat.reduceMul, reduceCtorEq, Int.reduceToNat, Int.reduceEq, Int.reduceLT, Int.reduceLE, Int.reduceNe, Int.reduceNeg , or_self, or_false, false_or , List.length_map, Bool.or_true, Bool.true_or, Bool.false_or, Bool.or_false, Int.cast_ofNat_Int, he]
    · have hle2 : i ≤ all.length := by simp only [decide_eq_true_eq] at he; omega
      have hpt : platesOf (all.take i) = (platesOf all).take i := by simp [platesOf, List.map_take]
      have hix : idx? ((strengthsL b (platesOf all) (all.length + 1)).map Sp.d) (i : Int) = some (aftS (fellF b ((platesOf all).take i)) b.str).d := by
        rw [idx_nat, List.getElem?_map, strengthsL, List.getElem?_map, List.getElem?_range (by omega)]; rfl
      have hwk := fun st (h0 : (0 : Int) ≤ st) => show (comesR b rusts (all.take i) st).2 = aft (fellF b ((platesOf all).take i)) st by rw [comesR_weak, hpt, weak_aft hok _ _ h0]
      have k1 := CC i str (by omega) (by omega)
      have k2 := CC i b.str.lo (by omega) (by omega)
      have k3 := CC i b.str.hi (by omega) (by omega)
      rw [hwk _ (by omega)] at k1 k2 k3
      generalize fellF b ((platesOf all).take i) = F at hix k1 k2 k3
      have hin : (decide (aft F str ≥ (aftS F b.str).lo) && decide (aft F str ≤ (aftS F b.str).hi)) = true := by
        rw [Bool.and_eq_true, decide_eq_true_eq, decide_eq_true_eq]
        simp only [aftS, aft]
        omega
      refine ADrw.treeG (fun k => k == 35) tt_ok (by kernel_rfl) (fun k => if k = 0 then some .L else some .S) (.ones [0, 1, 2, 3, 4, 5, 6, 7, 8, 9, 10, 11] .done) (Nat.zero_le _) (fun _ h => nomatch h) rfl rfl (by kernel_rfl) ?_
      simp only [go_sem, Nat.reduceBEq, Nat.reduceEqDiff, Nat.reduceLT, Nat.reduceLeDiff, Nat.reduceAdd, Nat.reduceSub, Nat.reduceMul, reduceCtorEq, Int.reduceToNat, Int.reduceEq, Int.reduceLT, Int.reduceLE, Int.reduceNe, Int.reduceNeg , or_self, or_false, false_or , List.length_map, Bool.or_true, Bool.true_or, Bool.false_or, Bool.or_false, Int.cast_ofNat_Int, c0, hle2, Int.natCast_nonneg, Int.toNat_natCast, hszs, hlen1, if_true, true_and, and_self, and_true, List.drop_zero]
      refine k1.callS (by simp [Bath.d, dz, List.map_take]) rfl rfl rfl rfl rfl ?_
      simp only [go_sem, Nat.reduceBEq, Nat.reduceEqDiff, Nat.reduceLT, Nat.reduceLeDiff, Nat.reduceAdd, Nat.reduceSub, Nat.reduceMul, reduceCtorEq, Int.reduceToNat, Int.reduceEq, Int.reduceLT, Int.reduceLE, Int.reduceNe, Int.reduceNeg , or_self, or_false, false_or , List.length_map, Bool.or_true, Bool.true_or, Bool.false_or, Bool.or_false, Int.cast_ofNat_Int]
      refine ADrw.treeG (fun k => k == 35) tt_ok (by kernel_rfl) (fun k => if k = 0 ∨ k = 6 then some .L else some .S) (.ones [0, 1, 2, 3, 4, 5, 6, 7, 8, 9, 10, 11, 12, 13] .done) (Nat.zero_le _) (fun _ h => nomatch h) rfl rfl (by kernel_rfl) ?_
      simp only [go_sem, Nat.reduceBEq, Nat.reduceEqDiff, Nat.reduceLT, Nat.reduceLeDiff, Nat.reduceAdd, Nat.reduceSub, Nat.reduceMul, reduceCtorEq, Int.reduceToNat, Int.reduceEq, Int.reduceLT, Int.reduceLE, Int.reduceNe, Int.reduceNeg , or_self, or_false, false_or , List.length_map, Bool.or_true, Bool.true_or, Bool.false_or, Bool.or_false, Int.cast_ofNat_Int, c0, hle2, Int.natCast_nonneg, Int.toNat_natCast, hszs, hlen1, if_true, true_and, and_self, and_true, List.drop_zero]
      refine k2.callS (by simp [Bath.d, dz, List.map_take]) rfl rfl rfl rfl rfl ?_
      simp only [go_sem, Nat.reduceBEq, Nat.reduceEqDiff, Nat.reduceLT, Nat.reduceLeDiff, Nat.reduceAdd, Nat.reduceSub, Nat.reduceMul, reduceCtorEq, Int.reduceToNat, Int.reduceEq, Int.reduceLT, Int.reduceLE, Int.reduceNe, Int.reduceNeg , or_self, or_false, false_or , List.length_map, Bool.or_true, Bool.true_or, Bool.false_or, Bool.or_false, Int.cast_ofNat_Int]
      refine ADrw.treeG (fun k => k == 35) tt_ok (by kernel_rfl) (fun k => if k = 0 ∨ k = 6 then some .L else some .S) (.ones [0, 1, 2, 3, 4, 5, 6, 7, 8, 9, 10, 11, 12, 13] .done) (Nat.zero_le _) (fun _ h => nomatch h) rfl rfl (by kernel_rfl) ?_
      simp only [go_sem, Nat.reduceBEq, Nat.reduceEqDiff, Nat.reduceLT, Nat.reduceLeDiff, Nat.reduceAdd, Nat.reduceSub, Nat.reduceMul, reduceCtorEq, Int.reduceToNat, Int.reduceEq, Int.reduceLT, Int.reduceLE, Int.reduceNe, Int.reduceNeg , or_self, or_false, false_or , List.length_map, Bool.or_true, Bool.true_or, Bool.false_or, Bool.or_false, Int.cast_ofNat_Int, c0, hle2, Int.natCast_nonneg, Int.toNat_natCast, hszs, hlen1, if_true, true_and, and_self, and_true, List.drop_zero]
      refine k3.callS (by simp [Bath.d, dz, List.map_take]) rfl rfl rfl rfl rfl ?_
      simp only [go_sem, Nat.reduceBEq, Nat.reduceEqDiff, Nat.reduceLT, Nat.reduceLeDiff, Nat.reduceAdd, Nat.reduceSub, Nat.reduceMul, reduceCtorEq, Int.reduceToNat, Int.reduceEq, Int.reduceLT, Int.reduceLE, Int.reduceNe, Int.reduceNeg , or_self, or_false, false_or , List.length_map, Bool.or_true, Bool.true_or, Bool.false_or, Bool.or_false, Int.cast_ofNat_Int]
      refine ADrw.treeG (fun k => k == 35) tt_ok (by kernel_rfl) (fun _ => some .S) (.ones [0, 1, 2, 3, 4, 5, 6, 7, 8, 9, 10, 11, 12, 13, 14, 15, 16] .done) (Nat.zero_le _) (fun _ h => nomatch h) rfl rfl (by kernel_rfl) ?_
      simp only [go_sem, Nat.reduceBEq, Nat.reduceEqDiff, Nat.reduceLT, Nat.reduceLeDiff, Nat.reduceAdd, Nat.reduceSub, Nat.reduceMul, reduceCtorEq, Int.reduceToNat, Int.reduceEq, Int.reduceLT, Int.reduceLE, Int.reduceNe, Int.reduceNeg , or_self, or_false, false_or , List.length_map, Bool.or_true, Bool.true_or, Bool.false_or, Bool.or_false, Int.cast_ofNat_Int, hix, Sp.d]
      refine (c62 (aft F str) (aftS F b.str)).callS rfl rfl rfl rfl rfl rfl ?_
      rw [hin]
      simp only [go_sem, Nat.reduceBEq, Nat.reduceEqDiff, Nat.reduceLT, Nat.reduceLeDiff, Nat.reduceAdd, Nat.reduceSub, Nat.reduceMul, reduceCtorEq, Int.reduceToNat, Int.reduceEq, Int.reduceLT, Int.reduceLE, Int.reduceNe, Int.reduceNeg , or_self, or_false, false_or , List.length_map, Bool.or_true, Bool.true_or, Bool.false_or, Bool.or_false, Int.cast_ofNat_Int, hix, Sp.d]
      refine (c26 (aft F b.str.lo) (aft F b.str.hi)).callS rfl rfl rfl rfl rfl rfl ?_
      simp only [go_sem, Nat.reduceBEq, Nat.reduceEqDiff, Nat.reduceLT, Nat.reduceLeDiff, Nat.reduceAdd, Nat.reduceSub, Nat.reduceMul, reduceCtorEq, Int.reduceToNat, Int.reduceEq, Int.reduceLT, Int.reduceLE, Int.reduceNe, Int.reduceNeg , or_self, or_false, false_or , List.length_map, Bool.or_true, Bool.true_or, Bool.false_or, Bool.or_false, Int.cast_ofNat_Int, hix, Sp.d, aftS, hd0]
      refine ⟨i + 1, by omega, by omega, ?_⟩
      exact ForgetTo.same' (Nat.zero_le _) (by simp [EWe, Env.look, aftS, w64 (n := (i : Int) + 1) (by omega) (by omega)]) rfl
    · refine (c61 hok all str rusts (by omega) (by omega) hrl hrb hmem).call rfl rfl rfl ?_
      have hcg := comesR_get b rusts all str
      have hcl := comesR_len b rusts all str
      simp only [go_sem, Nat.reduceBEq, Nat.reduceEqDiff, Nat.reduceLT, Nat.reduceLeDiff, Nat.reduceAdd, Nat.reduceSub, Nat.reduceMul, reduceCtorEq, Int.reduceToNat, Int.reduceEq, Int.reduceLT, Int.reduceLE, Int.reduceNe, Int.reduceNeg , or_self, or_false, false_or , List.length_map, Bool.or_true, Bool.true_or, Bool.false_or, Bool.or_false, Int.cast_ofNat_Int]
      refine ALoop.by (S := Nat) (fun i => [(24, .d (.int .i64 i)), (22, .d (.sl ((comesR b rusts all str).1.map (.int .i64)))), (13, .d (.sl ((outL b all all.length).map intsD))), (8, .d (.sl (all.map Step.d)))])
        (fun i => []) (fun i => all.length - i) (fun i => i ≤ all.length) 0 (Nat.zero_le _) (fun _ h => nomatch h) (Nat.zero_le _) ?_ ?_
      · refine ForgetTo.drop (H0 := []) (Y := [_, _]) (Nat.zero_le _) rfl (by simp [BBs]) ?_
        simp [EWp, Env.look, pubV]
      rintro j hj hn3
      refine AWP.run (fun k => k == 35) tt_ok (fun _ h => nomatch h) (Nat.zero_le _) rfl ?_
      simp only [go_sem, Nat.reduceBEq, Nat.reduceEqDiff, Nat.reduceLT, Nat.reduceLeDiff, Nat.reduceAdd, Nat.reduceSub, Nat.reduceMul, reduceCtorEq, Int.reduceToNat, Int.reduceEq, Int.reduceLT, Int.reduceLE, Int.reduceNe, Int.reduceNeg , or_self, or_false, false_or , List.length_map, Bool.or_true, Bool.true_or, Bool.false_or, Bool.or_false, Int.cast_ofNat_Int]
      refine Br_split (fun hf => ?_) (fun hf => ?_) <;> simp only [go_sem, Nat.reduceBEq, Nat.reduceEqDiff, Nat.reduceLT, Nat.reduceLeDiff, Nat.reduceAdd, Nat.reduceSub, Nat.reduceMul, reduceCtorEq, Int.reduceToNat, Int.reduceEq, Int.reduceLT, Int.reduceLE, Int.reduceNe, Int.reduceNeg , or_self, or_false, false_or , List.length_map, Bool.or_true, Bool.true_or, Bool.false_or, Bool.or_false, Int.cast_ofNat_Int, hf]
      · have hlt : j < all.length := by simpa using hf
        have hgx : all[j]? = some all[j] := List.getElem?_eq_getElem hlt
        have hgd : all.getD j ⟨0, 0⟩ = all[j] := by rw [List.getD_eq_getElem?_getD, hgx]; rfl
        have hio : idx? ((outL b all all.length).map intsD) (j : Int) = some (intsD (waysL b all[j] (fellF b ((platesOf all).take j)))) := by
          rw [idx_nat, List.getElem?_map, outL, List.getElem?_map, List.getElem?_range hlt]; simp only [Option.map_some, hgd]
        have hit : idx? ((comesR b rusts all str).1.map (D.int .i64)) (j : Int) = some (.int .i64 (trueHow b rusts (comesR b rusts (all.take j) str).2 all[j])) := by
          rw [idx_nat, List.getElem?_map, hcg j hlt]; rfl
        obtain ⟨m1, m2⟩ := hmem _ (List.getElem_mem hlt)
        have hti := true_in hok ((platesOf all).take j) all[j] rusts str ⟨g1, g2⟩ m1.1 (by
          have := hri all[j].plate.toNat (by omega)
          rw [show ((all[j].plate.toNat : Nat) : Int) = all[j].plate by omega] at this
          exact this)
        rw [comesR_weak, show platesOf (all.take j) = (platesOf all).take j by simp [platesOf, List.map_take]] at hit
        generalize trueHow b rusts (weakF b ((platesOf all).take j) str) all[j] = tr at hit hti
        have hasc := waysL_asc b all[j] (fellF b ((platesOf all).take j))
        have hinn : ∀ h ∈ waysL b all[j] (fellF b ((platesOf all).take j)), 1 ≤ h ∧ h ≤ 3 := fun h hh => waysL_in hh
        have hwl := waysL_len b all[j] (fellF b ((platesOf all).take j))
        generalize waysL b all[j] (fellF b ((platesOf all).take j)) = W at hio hti hasc hinn hwl
        refine ADrw.treeG (fun k => k == 35) tt_ok (by kernel_rfl) (fun _ => some .S) (.ones [0, 1, 2, 3, 4, 5, 6, 7, 8, 9] .done) (Nat.zero_le _) (fun _ h => nomatch h) rfl rfl (by kernel_rfl) ?_
        simp only [go_sem, Nat.reduceBEq, Nat.reduceEqDiff, Nat.reduceLT, Nat.reduceLeDiff, Nat.reduceAdd, Nat.reduceSub, Nat.reduceMul, reduceCtorEq, Int.reduceToNat, Int.reduceEq, Int.reduceLT, Int.reduceLE, Int.reduceNe, Int.reduceNeg , or_self, or_false, false_or , List.length_map, Bool.or_true, Bool.true_or, Bool.false_or, Bool.or_false, Int.cast_ofNat_Int, hio, hit, intsD]
        refine (c63 W tr (by omega)).callS rfl rfl rfl rfl rfl rfl ?_
        rw [show decide (tr ∈ W) = true by simpa using hti]
        simp only [go_sem, Nat.reduceBEq, Nat.reduceEqDiff, Nat.reduceLT, Nat.reduceLeDiff, Nat.reduceAdd, Nat.reduceSub, Nat.reduceMul, reduceCtorEq, Int.reduceToNat, Int.reduceEq, Int.reduceLT, Int.reduceLE, Int.reduceNe, Int.reduceNeg , or_self, or_false, false_or , List.length_map, Bool.or_true, Bool.true_or, Bool.false_or, Bool.or_false, Int.cast_ofNat_Int, hio]
        refine ALoop.by (S := Nat) (fun k => [(25, .d (.int .i64 k)), (24, .d (.int .i64 j)), (22, .d (.sl ((comesR b rusts all str).1.map (.int .i64)))), (13, .d (.sl ((outL b all all.length).map intsD))), (8, .d (.sl (all.map Step.d)))])
          (fun k => []) (fun k => W.length - k) (fun k => k ≤ W.length) 0 (Nat.zero_le _) (fun _ h => nomatch h) (Nat.zero_le _) ?_ ?_
        · exact ForgetTo.same' (Nat.zero_le _) (by simp [EWe, Env.look]) rfl
        rintro k hk hnk
        refine AWP.run (fun k => k == 35) tt_ok (fun _ h => nomatch h) (Nat.zero_le _) rfl ?_
        simp only [go_sem, Nat.reduceBEq, Nat.reduceEqDiff, Nat.reduceLT, Nat.reduceLeDiff, Nat.reduceAdd, Nat.reduceSub, Nat.reduceMul, reduceCtorEq, Int.reduceToNat, Int.reduceEq, Int.reduceLT, Int.reduceLE, Int.reduceNe, Int.reduceNeg , or_self, or_false, false_or , List.length_map, Bool.or_true, Bool.true_or, Bool.false_or, Bool.or_false, Int.cast_ofNat_Int, hio, intsD]
        refine Br_split (fun hg => ?_) (fun hg => ?_) <;> simp only [go_sem, Nat.reduceBEq, Nat.reduceEqDiff, Nat.reduceLT, Nat.reduceLeDiff, Nat.reduceAdd, Nat.reduceSub, Nat.reduceMul, reduceCtorEq, Int.reduceToNat, Int.reduceEq, Int.reduceLT, Int.reduceLE, Int.reduceNe, Int.reduceNeg , or_self, or_false, false_or , List.length_map, Bool.or_true, Bool.true_or, Bool.false_or, Bool.or_false, Int.cast_ofNat_Int, hg]
        · have hkl : k < W.length := by simpa using hg
          have hwk : idx? (W.map (D.int .i64)) (k : Int) = some (.int .i64 W[k]) := by simp [idx?, List.getElem?_eq_getElem hkl]
          obtain ⟨n1, n2⟩ := hinn _ (List.getElem_mem hkl)
          have d1 : decide (W[k] < 1) = false := by simp; omega
          have d2 : decide (3 < W[k]) = false := by simp; omega
          have hnx : IntKind.i64.wrap ((k : Int) + 1) = ((k + 1 : Nat) : Int) := w64 (by omega) (by omega)
          refine ADrw.treeG (fun k => k == 35) tt_ok (by kernel_rfl) (fun _ => some .S) (.ones [0, 1, 2, 3, 4, 5, 6, 7, 8, 9, 10, 11, 12, 13, 14, 15, 16, 17, 18, 19, 20, 21, 22, 23, 24, 25, 26, 27, 28, 29, 30, 31, 32, 33, 34, 35, 36, 37, 38, 39] .done) (Nat.zero_le _) (fun _ h => nomatch h) rfl rfl (by kernel_rfl) ?_
          simp only [go_sem, Nat.reduceBEq, Nat.reduceEqDiff, Nat.reduceLT, Nat.reduceLeDiff, Nat.reduceAdd, Nat.reduceSub, Nat.reduceMul, reduceCtorEq, Int.reduceToNat, Int.reduceEq, Int.reduceLT, Int.reduceLE, Int.reduceNe, Int.reduceNeg , or_self, or_false, false_or , List.length_map, Bool.or_true, Bool.true_or, Bool.false_or, Bool.or_false, Int.cast_ofNat_Int, hio, intsD, hwk, d1, d2]
          refine Br_split (fun hp => ?_) (fun hp => ?_) <;> simp only [go_sem, Nat.reduceBEq, Nat.reduceEqDiff, Nat.reduceLT, Nat.reduceLeDiff, Nat.reduceAdd, Nat.reduceSub, Nat.reduceMul, reduceCtorEq, Int.reduceToNat, Int.reduceEq, Int.reduceLT, Int.reduceLE, Int.reduceNe, Int.reduceNeg , or_self, or_false, false_or , List.length_map, Bool.or_true, Bool.true_or, Bool.false_or, Bool.or_false, Int.cast_ofNat_Int, hp, hio, intsD, hwk]
          · have hk0 : 0 < k := by simp only [decide_eq_true_eq] at hp; omega
            have hkm : IntKind.i64.wrap ((k : Int) - 1) = ((k - 1 : Nat) : Int) := by rw [w64 (by omega) (by omega)]; omega
            have hwm : idx? (W.map (D.int .i64)) ((k - 1 : Nat) : Int) = some (.int .i64 W[k - 1]) := by simp [idx?, List.getElem?_eq_getElem (show k - 1 < W.length by omega)]
            have hlt3 : W[k - 1] < W[k] := List.pairwise_iff_getElem.1 hasc (k - 1) k (by omega) hkl (by omega)
            have d3 : decide (W[k] ≤ W[k - 1]) = false := by simp; omega
            simp only [go_sem, Nat.reduceBEq, Nat.reduceEqDiff, Nat.reduceLT, Nat.reduceLeDiff, Nat.reduceAdd, Nat.reduceSub, Nat.reduceMul, reduceCtorEq, Int.reduceToNat, Int.reduceEq, Int.reduceLT, Int.reduceLE, Int.reduceNe, Int.reduceNeg , or_self, or_false, false_or , List.length_map, Bool.or_true, Bool.true_or, Bool.false_or, Bool.or_false, Int.cast_ofNat_Int, hp, hio, intsD, hwk, hkm, hwm, d3]
            refine ⟨k + 1, hkl, by omega, ?_⟩
            exact ForgetTo.same' (Nat.zero_le _) (by simp [EWe, Env.look, hnx]) rfl
          · refine ⟨k + 1, hkl, by omega, ?_⟩
            exact ForgetTo.same' (Nat.zero_le _) (by simp [EWe, Env.look, hnx]) rfl
        · refine ⟨j + 1, hlt, by omega, ?_⟩
          exact ForgetTo.same' (Nat.zero_le _) (by simp [EWe, Env.look, w64 (n := (j : Int) + 1) (by omega) (by omega)]) rfl
      · refine c17.call rfl rfl rfl ?_
        simp only [go_sem, Nat.reduceBEq, Nat.reduceEqDiff, Nat.reduceLT, Nat.reduceLeDiff, Nat.reduceAdd, Nat.reduceSub, Nat.reduceMul, reduceCtorEq, Int.reduceToNat, Int.reduceEq, Int.reduceLT, Int.reduceLE, Int.reduceNe, Int.reduceNeg , or_self, or_false, false_or , List.length_map, Bool.or_true, Bool.true_or, Bool.false_or, Bool.or_false, Int.cast_ofNat_Int]
end Go.Aw
end

section
set_option maxRecDepth 100000
namespace Go.Aw
open Go Go.Proofs

theorem has_b2 {f : Nat} {y : D} (h : HasT Try.prog (f + 3) 119 y) : ∃ s : B2, y = s.d ∧ s.Ok := by
  unfold HasT at h
  rw [Try.underlying119] at h
  obtain ⟨l, rfl, h⟩ := h
  simp only [HasN] at h
  obtain ⟨y1, r1, rfl, h1, y2, r2, rfl, h2, rfl⟩ := h
  obtain ⟨n1, rfl, b1⟩ := has_u8 h1
  obtain ⟨n2, rfl, b2⟩ := has_u8 h2
  exact ⟨⟨n1, n2⟩, rfl, ⟨b1, b2⟩⟩

theorem has_b2s {f : Nat} {y : D} (h : HasT Try.prog (f + 4) 101 y) : ∃ l : List B2, y = .sl (l.map B2.d) ∧ ∀ p ∈ l, p.Ok := by
  unfold HasT at h
  rw [Try.underlying101] at h
  obtain ⟨l, rfl, _, hl⟩ := h
  obtain ⟨ss, rfl⟩ := has_list (enc := fun n : {n : B2 // n.Ok} => n.1.d) (fun y hy => by obtain ⟨n, rfl, hn⟩ := has_b2 hy; exact ⟨⟨n, hn⟩, rfl⟩) l hl
  refine ⟨ss.map Subtype.val, by simp, fun n hn => ?_⟩
  obtain ⟨x, _, rfl⟩ := List.mem_map.1 hn
  exact x.2

theorem has_b4s {f : Nat} {y : D} (h : HasT Try.prog (f + 4) 98 y) : ∃ l : List B4, y = .sl (l.map B4.d) ∧ ∀ p ∈ l, p.Ok := by
  unfold HasT at h
  rw [Try.underlying98] at h
  obtain ⟨l, rfl, _, hl⟩ := h
  obtain ⟨ss, rfl⟩ := has_list (enc := fun n : {n : B4 // n.Ok} => n.1.d) (fun y hy => by obtain ⟨n, rfl, hn⟩ := has_b4 hy; exact ⟨⟨n, hn⟩, rfl⟩) l hl
  refine ⟨ss.map Subtype.val, by simp, fun n hn => ?_⟩
  obtain ⟨x, _, rfl⟩ := List.mem_map.1 hn
  exact x.2

theorem has_vat {f : Nat} {y : D} (h : HasT Try.prog (f + 5) 100 y) : ∃ x : Vat, y = x.d ∧ x.Ok := by
  unfold HasT at h
  rw [Try.underlying100] at h
  obtain ⟨l, rfl, h⟩ := h
  simp only [HasFs] at h
  obtain ⟨y1, r1, rfl, h1, y2, r2, rfl, h2, rfl⟩ := h
  obtain ⟨s, rfl, hs⟩ := has_b3 h1
  obtain ⟨p, rfl, hp⟩ := has_b4s h2
  exact ⟨⟨s, p⟩, rfl, ⟨hs, hp⟩⟩
end Go.Aw
end
