/- Steps of bytes. The law of all truths. Vats and pairs of bytes as arguments. How long it lies, without the reference. The law of the hours, without the reference. Mixtures, without the reference: the plain law and the closure. What rusts can have been: the program's and the reference's way. What rusts can have been: the reference. The reference: Seen, Rusts. The reference: Was. The reference: sets of things seen, which is less, Wrong; the plain law. The reference: Set, Less, Wrong. The law of what was. Is there a truth, by which all seen is so? What was, without the reference: the plain law. The law's own truth: is there a strength and rusts by which all things seen are so, but some? What was seen wrong: the law's last part. What was seen right: the law's middle parts. What was seen: the law, without the reference. What was seen: the law, without the reference, joined. -/
import Derived.Test.YtckfgdpklpgmdaaL2
set_option linter.unusedSimpArgs false
set_option linter.unusedVariables false

section
set_option maxRecDepth 100000
namespace Go.Aw
open Go Go.Proofs.Try

structure B2 where
  a : Int
  b : Int
deriving DecidableEq

def B2.d (s : B2) : D := .agg [.int .u8 s.a, .int .u8 s.b]

structure B2.Ok (s : B2) : Prop where
  a : Byte s.a
  b : Byte s.b

def stepV2 (n : Nat) (s : List Step) (v : B2) : List Step := if v.a % n ∈ platesOf s then s else s ++ [⟨v.a % n, 1 + v.b % 24⟩]

def stepsF (n : Nat) (l : List B2) : List Step := l.foldl (stepV2 n) []

def stepsB (b : Bath) (l : List B2) : List Step := if b.plates.length = 0 then [] else stepsF b.plates.length (l.take 5)

theorem stepsF_len (n : Nat) (l : List B2) : (stepsF n l).length ≤ l.length := by
  have : ∀ (l : List B2) (s : List Step), (l.foldl (stepV2 n) s).length ≤ s.length + l.length := by
    intro l
    induction l with
    | nil => intro s; simp
    | cons v r ih =>
      intro s
      have h1 := ih (stepV2 n s v)
      have h2 : (stepV2 n s v).length ≤ s.length + 1 := by unfold stepV2; split <;> simp
      simp only [List.foldl_cons, List.length_cons]
      omega
  simpa [stepsF] using this l []

theorem stepsOk_one {np : Nat} {l : List Step} (h : stepsOk np 0 l = true) {s : Step} (h1 : 0 ≤ s.plate ∧ s.plate < np) (h2 : 1 ≤ s.hours ∧ s.hours ≤ 24) (h3 : s.plate ∉ platesOf l) : stepsOk np 0 (l ++ [s]) = true := by
  have hm := stepsOk_more h s.plate
  rw [stepsOk_append, h, Bool.true_and] at hm ⊢
  have w1 : within 0 ((np : Int) - 1) [s.plate] = true := within_one.2 (by omega)
  have w2 : within 1 24 [s.hours] = true := within_one.2 h2
  have w3 : within 1 24 [(1 : Int)] = true := by decide
  have h3' : decide (s.plate ∈ platesOf l) = false := by simpa using h3
  have e1 : stepBad np (doneF 0 l) s = (doneF 0 l).testBit s.plate.toNat := by simp only [stepBad, w1, w2, Bool.not_true, Bool.false_or]
  have e2 : stepBad np (doneF 0 l) ⟨s.plate, 1⟩ = (doneF 0 l).testBit s.plate.toNat := by simp only [stepBad, w1, w3, Bool.not_true, Bool.false_or]
  have e3 : ∀ x : Step, stepsOk np (doneF 0 l) [x] = !stepBad np (doneF 0 l) x := fun x => by
    simp only [stepsOk]
    cases stepBad np (doneF 0 l) x <;> rfl
  rw [e3, e2, w1, h3'] at hm
  rw [e3, e1]
  simpa using hm

theorem stepsF_ok {n : Nat} (hn : 0 < n) (l : List B2) (hl : ∀ v ∈ l, v.Ok) : stepsOk n 0 (stepsF n l) = true := by
  have : ∀ (l : List B2) (s : List Step), (∀ v ∈ l, v.Ok) → stepsOk n 0 s = true → stepsOk n 0 (l.foldl (stepV2 n) s) = true := by
    intro l
    induction l with
    | nil => intro s _ h; exact h
    | cons v r ih =>
      intro s hv h
      refine ih _ (fun x hx => hv x (List.mem_cons_of_mem _ hx)) ?_
      unfold stepV2
      split
      · exact h
      · rename_i hp
        have h1 := (hv v List.mem_cons_self).a
        have h2 := (hv v List.mem_cons_self).b
        simp only [Byte] at h1 h2
        have e1 := Int.emod_nonneg v.a (show (n : Int) ≠ 0 by omega)
        have e2 := Int.emod_lt_of_pos v.a (show (0 : Int) < n by omega)
        exact stepsOk_one h ⟨e1, e2⟩ (by simp only; omega) hp
  exact this l [] hl rfl

theorem stepsB_ok {b : Bath} (l : List B2) (hl : ∀ v ∈ l, v.Ok) : stepsOk b.plates.length 0 (stepsB b l) = true := by
  unfold stepsB
  split
  · rfl
  · exact stepsF_ok (by omega) _ (fun v hv => hl v (List.mem_of_mem_take hv))

theorem stepsB_len (b : Bath) (l : List B2) : (stepsB b l).length ≤ 5 := by
  unfold stepsB
  split
  · simp
  · have := stepsF_len b.plates.length (l.take 5)
    have h2 := List.length_take_le 5 l
    omega

def doneB (s : List Step) : Blk := .cells [.d (.bool (decide ((0 : Int) ∈ platesOf s))), .d (.bool (decide ((1 : Int) ∈ platesOf s))), .d (.bool (decide ((2 : Int) ∈ platesOf s))), .d (.bool (decide ((3 : Int) ∈ platesOf s))), .d (.bool (decide ((4 : Int) ∈ platesOf s)))]

theorem c59 (b : Bath) (l : List B2) (hb : b.plates.length ≤ 5) (hl : ∀ v ∈ l, v.Ok) : PC prog 59 [.d b.d, .d (.sl (l.map B2.d))] (.d (.sl ((stepsB b l).map Step.d))) := by
  refine PC.run (fun k => k == 9) tt_ok (fn := f59) (rs := [.tmp 4]) rfl rfl rfl rfl rfl rfl rfl ?_
  simp only [go_sem, Bath.d]
  refine ALoop.by (S := Nat) (fun i => [(7, .d (.int .i64 i)), (6, .ptr 2 0), (5, .ref 1 (stepsF b.plates.length (l.take i)).length 0 (stepsF b.plates.length (l.take i)).length), (2, .ptr 0 0), (1, .d (.sl (l.map B2.d)))])
    (fun i => [bthB b, .arr 2 false ((stepsF b.plates.length (l.take i)).map Step.d), doneB (stepsF b.plates.length (l.take i))]) (fun i => 5 - i) (fun i => i ≤ l.length ∧ i ≤ 5 ∧ (b.plates.length = 0 → i = 0)) 0 (Nat.zero_le _) (fun _ h => nomatch h) ⟨Nat.zero_le _, by omega, fun _ => rfl⟩ ?_ ?_
  · exact ForgetTo.same' (Nat.zero_le _) (by simp [EWe, Env.look, stepsF]) (by simp [bthB, doneB, stepsF, platesOf])
  rintro i ⟨hi, hi5, hi0⟩ hn
  have hsl := stepsF_len b.plates.length (l.take i)
  have hlen : (l.take i).length = i := by simp; omega
  rw [hlen] at hsl
  have FIN : stepsB b l = stepsF b.plates.length (l.take i) → ((stepsF b.plates.length (l.take i)).map Step.d).take (stepsF b.plates.length (l.take i)).length = (stepsB b l).map Step.d := fun h => by
    rw [h]; exact List.take_of_length_le (by simp)
  refine AWP.run (fun k => k == 9) tt_ok (fun _ h => nomatch h) (Nat.zero_le _) rfl ?_
  simp only [go_sem, bthB, doneB]
  refine Br_split (fun hd => ?_) (fun hd => ?_) <;> simp only [go_sem, hd]
  · have hlt : i < l.length := by simpa using hd
    refine Br_split (fun hd2 => ?_) (fun hd2 => ?_) <;> simp only [go_sem, hd, hd2]
    · have hlt2 : i < 5 := by simp only [decide_eq_true_eq] at hd2; omega
      refine Br_split (fun hd3 => ?_) (fun hd3 => ?_) <;> simp only [go_sem, hd, hd2, hd3]
      · have hn0 : 0 < b.plates.length := by simp only [decide_eq_true_eq] at hd3; omega
        have hv := hl _ (List.getElem_mem hlt)
        have hix : idx? (l.map B2.d) (i : Int) = some (l[i]).d := by simp [idx?, List.getElem?_eq_getElem hlt]
        have hst : stepsF b.plates.length (l.take (i + 1)) = stepV2 b.plates.length (stepsF b.plates.length (l.take i)) l[i] := by
          rw [stepsF, List.take_succ_eq_append_getElem hlt, List.foldl_append]; rfl
        generalize l[i] = v at hv hix hst
        have b1 := hv.a
        have b2 := hv.b
        have f1 := byte_conv b1
        have f2 := byte_conv b2
        simp only [Byte] at b1 b2
        have zn : (b.plates.length : Int) ≠ 0 := by omega
        have z24 : (24 : Int) ≠ 0 := by omega
        have n1 : v.a.tmod b.plates.length = v.a % b.plates.length := Int.tmod_eq_emod_of_nonneg b1.1
        have n2 : v.b.tmod 24 = v.b % 24 := Int.tmod_eq_emod_of_nonneg b2.1
        have e1 := Int.emod_nonneg v.a zn
        have e2 := Int.emod_lt_of_pos v.a (show (0 : Int) < b.plates.length by omega)
        have w1 : IntKind.i64.wrap (1 + v.b % 24) = 1 + v.b % 24 := w64 (by omega) (by omega)
        have hi1 : (stepsF b.plates.length (l.take i)).length + 1 ≤ 4294967296 := by omega
        have hnx : IntKind.i64.wrap ((i : Int) + 1) = ((i + 1 : Nat) : Int) := w64 (by omega) (by omega)
        unfold stepV2 at hst
        have hp : v.a % b.plates.length = 0 ∨ v.a % b.plates.length = 1 ∨ v.a % b.plates.length = 2 ∨ v.a % b.plates.length = 3 ∨ v.a % b.plates.length = 4 := by omega
        refine ADrw.treeG (fun k => k == 9) tt_ok (by kernel_rfl) (fun k => if k = 7 then some .L else some .S) (.ones [0, 1, 2, 3, 4, 5, 6, 7, 8, 9, 10] .done) (Nat.zero_le _) (fun _ h => nomatch h) rfl rfl (by kernel_rfl) ?_
        simp only [go_sem, hix, B2.d, f1, n1, remO_ne zn]
        generalize stepsF b.plates.length (l.take i) = st at hst hsl hi1 FIN
        rcases hp with hp | hp | hp | hp | hp
        all_goals
          rw [hp] at hst
          simp only [go_sem, hp]
          refine Br_split (fun h1 => ?_) (fun h1 => ?_) <;> simp only [go_sem, h1]
        all_goals
          simp only [Bool.not_eq_true', Bool.not_eq_false', decide_eq_true_eq, decide_eq_false_iff_not] at h1
        all_goals
          first
          | (rw [if_pos h1] at hst
             refine ⟨i + 1, ⟨hlt, hlt2, fun h => absurd h (by omega)⟩, by omega, ?_⟩
             exact ForgetTo.same' (Nat.zero_le _) (by simp [EWe, Env.look, hst, hnx]) (by simp [bthB, doneB, hst])
             done)
          | (rw [if_neg h1] at hst
             simp only [go_sem, hix, B2.d, f2, n2, remO_ne z24, w1]
             refine (c24 _ (1 + v.b % 24)).call rfl rfl rfl ?_
             simp only [go_sem, hi1, List.length_map, Step.d]
             refine ⟨i + 1, ⟨hlt, hlt2, fun h => absurd h (by omega)⟩, by omega, ?_⟩
             exact ForgetTo.same' (Nat.zero_le _) (by simp [EWe, Env.look, hst, hnx]) (by simp [bthB, doneB, hst, platesOf, Step.d])
             done)
      · have hn0 : b.plates.length = 0 := by simp only [decide_eq_false_iff_not] at hd3; omega
        have hi00 := hi0 hn0
        have hf := FIN (by rw [stepsB, if_pos hn0, hi00]; rfl)
        simp only [go_sem, hf, List.length_map]
    · have hie : i = 5 := by simp only [decide_eq_false_iff_not] at hd2; omega
      have hn0 : b.plates.length ≠ 0 := fun h => by have := hi0 h; omega
      have hf := FIN (by rw [stepsB, if_neg hn0, hie])
      simp only [go_sem, hf, List.length_map]
  · have hie : i = l.length := by simp at hd; omega
    have hf := FIN (by
      rw [stepsB]
      split
      · rename_i h0; rw [hi0 h0]; rfl
      · rw [hie, List.take_length, List.take_of_length_le (by omega)])
    simp only [go_sem, hf, List.length_map]
end Go.Aw
end

section
set_option maxRecDepth 100000
namespace Go.Aw
open Go Go.Proofs.Try

theorem stepsOk_ones {np : Nat} : ∀ {d : Nat} {l : List Step}, stepsOk np d l = true → stepsOk np d (ones (platesOf l)) = true
  | d, [], _ => rfl
  | d, x :: r, h => by
    simp only [stepsOk] at h
    split at h
    · cases h
    · rename_i hb
      have hb' : stepBad np d ⟨x.plate, 1⟩ = false := by
        have w3 : within 1 24 [(1 : Int)] = true := by decide
        simp only [stepBad, Bool.not_eq_true, Bool.or_eq_false_iff] at hb
        simp only [stepBad, w3, hb.1.1, hb.2]
        rfl
      have : ones (platesOf (x :: r)) = ⟨x.plate, 1⟩ :: ones (platesOf r) := rfl
      rw [this]
      simp only [stepsOk]
      rw [hb', if_neg (by simp)]
      exact stepsOk_ones h

theorem comesR_get (b : Bath) (rusts : List Int) : ∀ (l : List Step) (str : Int) (i : Nat) (h : i < l.length), (comesR b rusts l str).1[i]? = some (trueHow b rusts (comesR b rusts (l.take i) str).2 l[i])
  | [], _, i, h => by simp at h
  | s :: r, str, 0, _ => by simp [comesR]
  | s :: r, str, i + 1, h => by
    simp only [comesR, List.getElem?_cons_succ, List.take_succ_cons, List.getElem_cons_succ]
    exact comesR_get b rusts r _ i (by simpa using h)

theorem Vat.rust_in {x : Vat} (hx : x.Ok) {q : Nat} (hq : q < x.bath.plates.length) : (x.bath.pl q).rust.lo ≤ x.rusts.getD q 0 ∧ x.rusts.getD q 0 ≤ (x.bath.pl q).rust.hi := by
  have hq' : q < (x.plates.take 4).length := by simpa [Vat.bath] using hq
  have hm := hx.p _ (List.mem_of_mem_take (List.getElem_mem hq'))
  have e1 : x.bath.pl q = plateOf (x.plates.take 4)[q] := by
    simp only [Bath.pl, Int.toNat_natCast, Vat.bath, List.getD_eq_getElem?_getD, List.getElem?_map, List.getElem?_eq_getElem hq', Option.map_some, Option.getD_some]
  have e2 : x.rusts.getD q 0 = ((x.plates.take 4)[q]).a := by
    simp only [Vat.rusts, List.getD_eq_getElem?_getD, List.getElem?_map, List.getElem?_eq_getElem hq', Option.map_some, Option.getD_some]
  rw [e1, e2]
  have b1 := hm.a
  have b2 := hm.b
  simp only [Byte] at b1 b2
  simp only [plateOf]
  omega

theorem Vat.str_in {x : Vat} (hx : x.Ok) : x.bath.str.lo ≤ x.str ∧ x.str ≤ x.bath.str.hi := by
  have h2 := hx.s.b
  have h3 := hx.s.c
  simp only [Byte] at h2 h3
  have hz : x.s.b % 6 + 1 ≠ 0 := by omega
  have := Int.emod_nonneg x.s.c hz
  have := Int.emod_lt_of_pos x.s.c (show 0 < x.s.b % 6 + 1 by omega)
  simp only [Vat.bath, Vat.str]
  omega

theorem howP_thin {p q : Plate} (h : p.thin = q.thin) (r l : Int) : howP p r l = howP q r l := by simp only [howP, h]

/-- What is true is one of the ways. -/
theorem true_in {b : Bath} (hok : b.Ok) (before : List Int) (s : Step) (rusts : List Int) (str : Int) (hs : b.str.lo ≤ str ∧ str ≤ b.str.hi) (hp : 0 ≤ s.plate) (hr : (b.pl s.plate).rust.lo ≤ rusts.getD s.plate.toNat 0 ∧ rusts.getD s.plate.toNat 0 ≤ (b.pl s.plate).rust.hi) :
    trueHow b rusts (weakF b before str) s ∈ waysL b s (fellF b before) := by
  rw [ways_eq hok]
  have hin := howP_in ⟨⟨0, 0⟩, 0, (b.pl s.plate).thin⟩ (rusts.getD s.plate.toNat 0) (weakF b before str * s.hours)
  simp only [waysR, List.mem_filter]
  refine ⟨by simp only [trueHow, List.mem_cons]; omega, ?_⟩
  simp only [strW, List.any_eq_true, List.mem_range]
  refine ⟨(str - b.str.lo).toNat, by simp only [nS]; omega, ?_⟩
  rw [show b.str.lo + ((str - b.str.lo).toNat : Int) = str by omega]
  simp only [rowW, List.any_eq_true, List.mem_range, decide_eq_true_eq]
  refine ⟨(rusts.getD s.plate.toNat 0 - (b.pl s.plate).rust.lo).toNat, by simp only [nR]; omega, ?_⟩
  rw [show (b.pl s.plate).rust.lo + ((rusts.getD s.plate.toNat 0 - (b.pl s.plate).rust.lo).toNat : Int) = rusts.getD s.plate.toNat 0 by omega]
  exact howP_thin rfl _ _

theorem waysL_asc (b : Bath) (s : Step) (fell : Int) : (waysL b s fell).Pairwise (· < ·) := by
  unfold waysL
  exact List.Pairwise.filter _ (by simp)

theorem waysL_in {b : Bath} {s : Step} {fell h : Int} (hh : h ∈ waysL b s fell) : 1 ≤ h ∧ h ≤ 3 := by
  simp only [waysL, List.mem_filter, List.mem_cons, List.not_mem_nil, or_false] at hh
  omega

theorem waysL_len (b : Bath) (s : Step) (fell : Int) : (waysL b s fell).length ≤ 3 := by
  have := List.length_filter_le (fun h => (canM b s fell (nStr b)).contains h) ([1, 2, 3] : List Int)
  simpa [waysL] using this

theorem c10 {x : Vat} (hx : x.Ok) (l : List B2) (hl : ∀ v ∈ l, v.Ok) : PC prog 10 [.d x.d, .d (.sl (l.map B2.d))] (.d (.bool true)) := by
  have hok := Vat.bathOk hx
  obtain ⟨g1, g2⟩ := Vat.str_in hx
  have hri := fun q hq => Vat.rust_in hx (q := q) hq
  have hso := stepsB_ok (b := x.bath) l hl
  have hsl := stepsB_len x.bath l
  have hrl : x.rusts.length = x.bath.plates.length := by simp [Vat.rusts, Vat.bath]
  have hrb : ∀ r ∈ x.rusts, 0 ≤ r ∧ r ≤ 600 := fun r hr => by
    obtain ⟨v, hv, rfl⟩ := List.mem_map.1 hr
    have := (hx.p v (List.mem_of_mem_take hv)).a
    simp only [Byte] at this
    omega
  obtain ⟨s1, s2, s3, hb5, _⟩ := id hok
  refine PC.run (fun k => k == 35) tt_ok (fn := f10) (rs := [.tmp 4]) rfl rfl rfl rfl rfl rfl rfl ?_
  simp only [go_sem, Vat.d]
  refine (c58 hx).call rfl rfl rfl ?_
  simp only [go_sem]
  generalize x.bath = b at *
  generalize x.str = str at *
  generalize x.rusts = rusts at *
  simp only [go_sem, Bath.d]
  refine (c59 b l hb5 hl).call rfl rfl rfl ?_
  simp only [go_sem]
  generalize stepsB b l = all at *
  have hmem := stepsOk_mem hso
  have hpl : (platesOf all).length = all.length := by simp [platesOf]
  have hd0 : ∀ {α : Type} [DecidableEq α] (l : α), decide (l = l) = true := fun l => by simp
  refine ALoop.by (S := Nat) (fun i => [(10, .d (.int .i64 i)), (9, .ref 2 i 0 i), (8, .d (.sl (all.map Step.d))), (7, .d (.sl (rusts.map (.int .i64)))), (6, .d (.int .i64 str)), (5, .ptr 1 0)])
    (fun i => [.cells [.d (.int .u8 x.s.a), .d (.int .u8 x.s.b), .d (.int .u8 x.s.c), .d (.sl (x.plates.map B4.d))], bthB b, .arr 1 false ((platesOf (all.take i)).map (.int .i64))]) (fun i => all.length - i) (fun i => i ≤ all.length) 0 (Nat.zero_le _) (fun _ h => nomatch h) (Nat.zero_le _) ?_ ?_
  · exact ForgetTo.same' (Nat.zero_le _) (by simp [EWe, Env.look]) (by simp [bthB, platesOf])
  rintro i hi hn
  refine AWP.run (fun k => k == 35) tt_ok (fun _ h => nomatch h) (Nat.zero_le _) rfl ?_
  simp only [go_sem, bthB]
  refine Br_split (fun hd => ?_) (fun hd => ?_) <;> simp only [go_sem, hd]
  · have hlt : i < all.length := by simpa using hd
    have hix : idx? (all.map Step.d) (i : Int) = some (all[i]).d := by simp [idx?, List.getElem?_eq_getElem hlt]
    have hst : (platesOf (all.take (i + 1))).map (D.int .i64) = (platesOf (all.take i)).map (D.int .i64) ++ [.int .i64 all[i].plate] := by
      rw [List.take_add_one, List.getElem?_eq_getElem hlt]; simp only [platesOf, List.map_append, Option.toList_some, List.map_cons, List.map_nil]
    have hln : ((platesOf (all.take i)).map (D.int .i64)).length = i := by simp [platesOf]; omega
    have hln2 : (platesOf (all.take i)).length = i := by simp [platesOf]; omega
    have hi1 : i + 1 ≤ 4294967296 := by omega
    generalize all[i] = y at hix hst
    simp only [go_sem, hix, hln, hln2, hi1, Step.d]
    refine ⟨i + 1, hlt, by omega, ?_⟩
    exact ForgetTo.same' (Nat.zero_le _) (by simp [EWe, Env.look, w64 (n := (i : Int) + 1) (by omega) (by omega)]) (by rw [hst])
  have hie : i = all.length := by simp at hd; omega
  subst hie
  rw [List.take_length]
  have hst2 := stepsOk_ones hso
  have hc0 : checkP b = 0 := checkP_iff.2 hok
  have hsp : strengthsP b (platesOf all) = (strengthsL b (platesOf all) (all.length + 1), 0) := by simp only [strengthsP, hc0, if_true, hst2, hpl]
  have hop : outP b all = (outL b all all.length, 0) := by simp only [outP, hc0, if_true, hso]
  have htk : ((platesOf all).map (D.int .i64)).take all.length = (platesOf all).map (D.int .i64) := List.take_of_length_le (by simp [hpl])
  have hszs := sized_steps all
  have hle : all.length ≤ 4294967296 := by omega
  refine (c60 b (by omega)).call rfl rfl rfl ?_
  simp only [go_sem, Bath.d]
  refine DCall_sound (PC.callF 2 (c20 b (platesOf all) (by omega) (by omega)) rfl rfl (by simp [frzVs, frzV, dz, Bath.d, htk, hpl]) rfl rfl ?_)
  rw [hsp]
  simp only [go_sem, Bath.d]
  refine (c60 b (by omega)).call rfl rfl rfl ?_
  simp only [go_sem, Bath.d, hszs, hle, List.length_map, List.nil_append, Nat.zero_add]
  refine (c28 b all (by omega) (by omega)).call rfl rfl rfl ?_
  have hw : IntKind.i64.wrap ((all.length : Int) + 1) = ((all.length + 1 : Nat) : Int) := by rw [w64 (by omega) (by omega)]; omega
  rw [hop]
  simp only [go_sem, strengthsL_len, outL_len, List.length_map, hw, hd0]
  have hmt : ∀ i, ∀ x ∈ all.take i, (0 ≤ x.plate ∧ x.plate < b.plates.length) ∧ 1 ≤ x.hours ∧ x.hours ≤ 24 := fun i y hy => hmem y (List.mem_of_mem_take hy)
  have c0 : ∀ i : Nat, 0 ≤ i := fun i => Nat.zero_le _
  have hlen1 : (all.map Step.d).length = all.length := by simp
  have CC := fun (i : Nat) (st : Int) (h0 : 0 ≤ st) (h4 : st ≤ 40) => c61 hok (all.take i) st rusts (by simp; omega) ⟨h0, h4⟩ hrl hrb (hmt i)
  refine ALoop.by (S := Nat) (fun i => [(15, .d (.int .i64 i)), (13, .d (.sl ((outL b all all.length).map intsD))), (11, .d (.sl ((strengthsL b (platesOf all) (all.length + 1)).map Sp.d))), (8, .d (.sl (all.map Step.d))), (7, .d (.sl (rusts.map (.int .i64)))), (6, .d (.int .i64 str)), (5, .ptr 1 0)])
    (fun i => [.cells [.d (.int .u8 x.s.a), .d (.int .u8 x.s.b), .d (.int .u8 x.s.c), .d (.sl (x.plates.map B4.d))], bthB b]) (fun i => all.length + 1 - i) (fun i => i ≤ all.length + 1) 0 (Nat.zero_le _) (fun _ h => nomatch h) (Nat.zero_le _) ?_ ?_
  · refine ForgetTo.drop (H0 := [_, _]) (Y := [_]) (Nat.zero_le _) rfl (by simp [BBs, BB, VBs, VB, bthB]) ?_
    simp [EWp, Env.look, pubV]
  · rintro i hi hn2
    refine AWP.run (fun k => k == 35) tt_ok (fun _ h => nomatch h) (Nat.zero_le _) rfl ?_
    simp only [go_sem, bthB]
    refine Br_split (fun he => ?_) (fun he => ?_) <;> simp only [go_sem, he]
    · have hle2 : i ≤ all.length := by simp only [decide_eq_true_eq] at he; omega
      have hpt : platesOf (all.take i) = (platesOf all).take i := by simp [platesOf, List.map_take]
      have hix : idx? ((strengthsL b (platesOf all) (all.length + 1)).map Sp.d) (i : Int) = some (aftS (fellF b ((platesOf all).take i)) b.str).d := by
        rw [idx_nat, List.getElem?_map, strengthsL, List.getElem?_map, List.getElem?_range (by omega)]; rfl
      have hwk := fun st (h0 : (0 : Int) ≤ st) => show (comesR b rusts (all.take i) st).2 = aft (fellF b ((platesOf all).take i)) st by rw [comesR_weak, hpt, weak_aft hok _ _ h0]
      have k1 := CC i str (by omega) (by omega)
      have k2 := CC i b.str.lo (by omega) (by omega)
      have k3 := CC i b.str.hi (by omega) (by omega)
      rw [hwk _ (by omega)] at k1 k2 k3
      generalize fellF b ((platesOf all).take i) = F at hix k1 k2 k3
      have hin : (decide (aft F str ≥ (aftS F b.str).lo) && decide (aft F str ≤ (aftS F b.str).hi)) = true := by
        rw [Bool.and_eq_true, decide_eq_true_eq, decide_eq_true_eq]
        simp only [aftS, aft]
        omega
      refine ADrw.treeG (fun k => k == 35) tt_ok (by kernel_rfl) (fun k => if k = 0 then some .L else some .S) (.ones [0, 1, 2, 3, 4, 5, 6, 7, 8, 9, 10, 11] .done) (Nat.zero_le _) (fun _ h => nomatch h) rfl rfl (by kernel_rfl) ?_
      simp only [go_sem, c0, hle2, Int.natCast_nonneg, Int.toNat_natCast, hszs, hlen1, if_true, true_and, and_self, and_true, List.drop_zero]
      refine k1.callS (by simp [Bath.d, dz, List.map_take]) rfl rfl rfl rfl rfl ?_
      simp only [go_sem]
      refine ADrw.treeG (fun k => k == 35) tt_ok (by kernel_rfl) (fun k => if k = 0 ∨ k = 6 then some .L else some .S) (.ones [0, 1, 2, 3, 4, 5, 6, 7, 8, 9, 10, 11, 12, 13] .done) (Nat.zero_le _) (fun _ h => nomatch h) rfl rfl (by kernel_rfl) ?_
      simp only [go_sem, c0, hle2, Int.natCast_nonneg, Int.toNat_natCast, hszs, hlen1, if_true, true_and, and_self, and_true, List.drop_zero]
      refine k2.callS (by simp [Bath.d, dz, List.map_take]) rfl rfl rfl rfl rfl ?_
      simp only [go_sem]
      refine ADrw.treeG (fun k => k == 35) tt_ok (by kernel_rfl) (fun k => if k = 0 ∨ k = 6 then some .L else some .S) (.ones [0, 1, 2, 3, 4, 5, 6, 7, 8, 9, 10, 11, 12, 13] .done) (Nat.zero_le _) (fun _ h => nomatch h) rfl rfl (by kernel_rfl) ?_
      simp only [go_sem, c0, hle2, Int.natCast_nonneg, Int.toNat_natCast, hszs, hlen1, if_true, true_and, and_self, and_true, List.drop_zero]
      refine k3.callS (by simp [Bath.d, dz, List.map_take]) rfl rfl rfl rfl rfl ?_
      simp only [go_sem]
      refine ADrw.treeG (fun k => k == 35) tt_ok (by kernel_rfl) (fun _ => some .S) (.ones [0, 1, 2, 3, 4, 5, 6, 7, 8, 9, 10, 11, 12, 13, 14, 15, 16] .done) (Nat.zero_le _) (fun _ h => nomatch h) rfl rfl (by kernel_rfl) ?_
      simp only [go_sem, hix, Sp.d]
      refine (c62 (aft F str) (aftS F b.str)).callS rfl rfl rfl rfl rfl rfl ?_
      rw [hin]
      simp only [go_sem, hix, Sp.d]
      refine (c26 (aft F b.str.lo) (aft F b.str.hi)).callS rfl rfl rfl rfl rfl rfl ?_
      simp only [go_sem, hix, Sp.d, aftS, hd0]
      refine ⟨i + 1, by omega, by omega, ?_⟩
      exact ForgetTo.same' (Nat.zero_le _) (by simp [EWe, Env.look, aftS, w64 (n := (i : Int) + 1) (by omega) (by omega)]) rfl
    · refine (c61 hok all str rusts (by omega) (by omega) hrl hrb hmem).call rfl rfl rfl ?_
      have hcg := comesR_get b rusts all str
      have hcl := comesR_len b rusts all str
      simp only [go_sem]
      refine ALoop.by (S := Nat) (fun i => [(24, .d (.int .i64 i)), (22, .d (.sl ((comesR b rusts all str).1.map (.int .i64)))), (13, .d (.sl ((outL b all all.length).map intsD))), (8, .d (.sl (all.map Step.d)))])
        (fun i => []) (fun i => all.length - i) (fun i => i ≤ all.length) 0 (Nat.zero_le _) (fun _ h => nomatch h) (Nat.zero_le _) ?_ ?_
      · refine ForgetTo.drop (H0 := []) (Y := [_, _]) (Nat.zero_le _) rfl (by simp [BBs]) ?_
        simp [EWp, Env.look, pubV]
      rintro j hj hn3
      refine AWP.run (fun k => k == 35) tt_ok (fun _ h => nomatch h) (Nat.zero_le _) rfl ?_
      simp only [go_sem]
      refine Br_split (fun hf => ?_) (fun hf => ?_) <;> simp only [go_sem, hf]
      · have hlt : j < all.length := by simpa using hf
        have hgx : all[j]? = some all[j] := List.getElem?_eq_getElem hlt
        have hgd : all.getD j ⟨0, 0⟩ = all[j] := by rw [List.getD_eq_getElem?_getD, hgx]; rfl
        have hio : idx? ((outL b all all.length).map intsD) (j : Int) = some (intsD (waysL b all[j] (fellF b ((platesOf all).take j)))) := by
          rw [idx_nat, List.getElem?_map, outL, List.getElem?_map, List.getElem?_range hlt]; simp only [Option.map_some, hgd]
        have hit : idx? ((comesR b rusts all str).1.map (D.int .i64)) (j : Int) = some (.int .i64 (trueHow b rusts (comesR b rusts (all.take j) str).2 all[j])) := by
          rw [idx_nat, List.getElem?_map, hcg j hlt]; rfl
        obtain ⟨m1, m2⟩ := hmem _ (List.getElem_mem hlt)
        have hti := true_in hok ((platesOf all).take j) all[j] rusts str ⟨g1, g2⟩ m1.1 (by
          have := hri all[j].plate.toNat (by omega)
          rw [show ((all[j].plate.toNat : Nat) : Int) = all[j].plate by omega] at this
          exact this)
        rw [comesR_weak, show platesOf (all.take j) = (platesOf all).take j by simp [platesOf, List.map_take]] at hit
        generalize trueHow b rusts (weakF b ((platesOf all).take j) str) all[j] = tr at hit hti
        have hasc := waysL_asc b all[j] (fellF b ((platesOf all).take j))
        have hinn : ∀ h ∈ waysL b all[j] (fellF b ((platesOf all).take j)), 1 ≤ h ∧ h ≤ 3 := fun h hh => waysL_in hh
        have hwl := waysL_len b all[j] (fellF b ((platesOf all).take j))
        generalize waysL b all[j] (fellF b ((platesOf all).take j)) = W at hio hti hasc hinn hwl
        refine ADrw.treeG (fun k => k == 35) tt_ok (by kernel_rfl) (fun _ => some .S) (.ones [0, 1, 2, 3, 4, 5, 6, 7, 8, 9] .done) (Nat.zero_le _) (fun _ h => nomatch h) rfl rfl (by kernel_rfl) ?_
        simp only [go_sem, hio, hit, intsD]
        refine (c63 W tr (by omega)).callS rfl rfl rfl rfl rfl rfl ?_
        rw [show decide (tr ∈ W) = true by simpa using hti]
        simp only [go_sem, hio]
        refine ALoop.by (S := Nat) (fun k => [(25, .d (.int .i64 k)), (24, .d (.int .i64 j)), (22, .d (.sl ((comesR b rusts all str).1.map (.int .i64)))), (13, .d (.sl ((outL b all all.length).map intsD))), (8, .d (.sl (all.map Step.d)))])
          (fun k => []) (fun k => W.length - k) (fun k => k ≤ W.length) 0 (Nat.zero_le _) (fun _ h => nomatch h) (Nat.zero_le _) ?_ ?_
        · exact ForgetTo.same' (Nat.zero_le _) (by simp [EWe, Env.look]) rfl
        rintro k hk hnk
        refine AWP.run (fun k => k == 35) tt_ok (fun _ h => nomatch h) (Nat.zero_le _) rfl ?_
        simp only [go_sem, hio, intsD]
        refine Br_split (fun hg => ?_) (fun hg => ?_) <;> simp only [go_sem, hg]
        · have hkl : k < W.length := by simpa using hg
          have hwk : idx? (W.map (D.int .i64)) (k : Int) = some (.int .i64 W[k]) := by simp [idx?, List.getElem?_eq_getElem hkl]
          obtain ⟨n1, n2⟩ := hinn _ (List.getElem_mem hkl)
          have d1 : decide (W[k] < 1) = false := by simp; omega
          have d2 : decide (3 < W[k]) = false := by simp; omega
          have hnx : IntKind.i64.wrap ((k : Int) + 1) = ((k + 1 : Nat) : Int) := w64 (by omega) (by omega)
          refine ADrw.treeG (fun k => k == 35) tt_ok (by kernel_rfl) (fun _ => some .S) (.ones [0, 1, 2, 3, 4, 5, 6, 7, 8, 9, 10, 11, 12, 13, 14, 15, 16, 17, 18, 19, 20, 21, 22, 23, 24, 25, 26, 27, 28, 29, 30, 31, 32, 33, 34, 35, 36, 37, 38, 39] .done) (Nat.zero_le _) (fun _ h => nomatch h) rfl rfl (by kernel_rfl) ?_
          simp only [go_sem, hio, intsD, hwk, d1, d2]
          refine Br_split (fun hp => ?_) (fun hp => ?_) <;> simp only [go_sem, hp, hio, intsD, hwk]
          · have hk0 : 0 < k := by simp only [decide_eq_true_eq] at hp; omega
            have hkm : IntKind.i64.wrap ((k : Int) - 1) = ((k - 1 : Nat) : Int) := by rw [w64 (by omega) (by omega)]; omega
            have hwm : idx? (W.map (D.int .i64)) ((k - 1 : Nat) : Int) = some (.int .i64 W[k - 1]) := by simp [idx?, List.getElem?_eq_getElem (show k - 1 < W.length by omega)]
            have hlt3 : W[k - 1] < W[k] := List.pairwise_iff_getElem.1 hasc (k - 1) k (by omega) hkl (by omega)
            have d3 : decide (W[k] ≤ W[k - 1]) = false := by simp; omega
            simp only [go_sem, hp, hio, intsD, hwk, hkm, hwm, d3]
            refine ⟨k + 1, hkl, by omega, ?_⟩
            exact ForgetTo.same' (Nat.zero_le _) (by simp [EWe, Env.look, hnx]) rfl
          · refine ⟨k + 1, hkl, by omega, ?_⟩
            exact ForgetTo.same' (Nat.zero_le _) (by simp [EWe, Env.look, hnx]) rfl
        · refine ⟨j + 1, hlt, by omega, ?_⟩
          exact ForgetTo.same' (Nat.zero_le _) (by simp [EWe, Env.look, w64 (n := (j : Int) + 1) (by omega) (by omega)]) rfl
      · refine c17.call rfl rfl rfl ?_
        simp only [go_sem]
end Go.Aw
end

section
set_option maxRecDepth 100000
namespace Go.Aw
open Go Go.Proofs

theorem has_b2 {f : Nat} {y : D} (h : HasT Try.prog (f + 3) 119 y) : ∃ s : B2, y = s.d ∧ s.Ok := by
  unfold HasT at h
  rw [Try.underlying119] at h
  obtain ⟨l, rfl, h⟩ := h
  simp only [HasN] at h
  obtain ⟨y1, r1, rfl, h1, y2, r2, rfl, h2, rfl⟩ := h
  obtain ⟨n1, rfl, b1⟩ := has_u8 h1
  obtain ⟨n2, rfl, b2⟩ := has_u8 h2
  exact ⟨⟨n1, n2⟩, rfl, ⟨b1, b2⟩⟩

theorem has_b2s {f : Nat} {y : D} (h : HasT Try.prog (f + 4) 101 y) : ∃ l : List B2, y = .sl (l.map B2.d) ∧ ∀ p ∈ l, p.Ok := by
  unfold HasT at h
  rw [Try.underlying101] at h
  obtain ⟨l, rfl, _, hl⟩ := h
  obtain ⟨ss, rfl⟩ := has_list (enc := fun n : {n : B2 // n.Ok} => n.1.d) (fun y hy => by obtain ⟨n, rfl, hn⟩ := has_b2 hy; exact ⟨⟨n, hn⟩, rfl⟩) l hl
  refine ⟨ss.map Subtype.val, by simp, fun n hn => ?_⟩
  obtain ⟨x, _, rfl⟩ := List.mem_map.1 hn
  exact x.2

theorem has_b4s {f : Nat} {y : D} (h : HasT Try.prog (f + 4) 98 y) : ∃ l : List B4, y = .sl (l.map B4.d) ∧ ∀ p ∈ l, p.Ok := by
  unfold HasT at h
  rw [Try.underlying98] at h
  obtain ⟨l, rfl, _, hl⟩ := h
  obtain ⟨ss, rfl⟩ := has_list (enc := fun n : {n : B4 // n.Ok} => n.1.d) (fun y hy => by obtain ⟨n, rfl, hn⟩ := has_b4 hy; exact ⟨⟨n, hn⟩, rfl⟩) l hl
  refine ⟨ss.map Subtype.val, by simp, fun n hn => ?_⟩
  obtain ⟨x, _, rfl⟩ := List.mem_map.1 hn
  exact x.2

theorem has_vat {f : Nat} {y : D} (h : HasT Try.prog (f + 5) 100 y) : ∃ x : Vat, y = x.d ∧ x.Ok := by
  unfold HasT at h
  rw [Try.underlying100] at h
  obtain ⟨l, rfl, h⟩ := h
  simp only [HasFs] at h
  obtain ⟨y1, r1, rfl, h1, y2, r2, rfl, h2, rfl⟩ := h
  obtain ⟨s, rfl, hs⟩ := has_b3 h1
  obtain ⟨p, rfl, hp⟩ := has_b4s h2
  exact ⟨⟨s, p⟩, rfl, ⟨hs, hp⟩⟩
end Go.Aw
end

section
set_option maxRecDepth 100000
namespace Go.Aw
open Go Go.Proofs.Try

def extR (b : Bath) (most : Bool) : List Int := b.plates.map fun p => if most = true then p.rust.hi else p.rust.lo

theorem c65 (b : Bath) (most : Bool) (hb : b.plates.length ≤ 1000) : PC prog 65 [.d b.d, .d (.bool most)] (.d (.sl ((extR b most).map (.int .i64)))) := by
  refine PC.run (fun k => k == 8) tt_ok (fn := f65) (rs := [.tmp 4]) rfl rfl rfl rfl rfl rfl rfl ?_
  simp only [go_sem, Bath.d]
  refine ALoop.by (S := Nat) (fun i => [(6, .d (.int .i64 i)), (5, .ref 1 i 0 i), (2, .ptr 0 0), (1, .d (.bool most))]) (fun i => [bthB b, .arr 1 false (((b.plates.take i).map fun p => if most = true then p.rust.hi else p.rust.lo).map (.int .i64))]) (fun i => b.plates.length - i) (fun i => i ≤ b.plates.length) 0 (by simp) (fun _ h => nomatch h) (Nat.zero_le _) ?_ ?_
  · exact ForgetTo.same' (by simp) (by simp [EWe, Env.look]) (by simp [bthB])
  rintro i hi hn
  refine AWP.run (fun k => k == 8) tt_ok (fun _ h => nomatch h) (by simp) rfl ?_
  simp only [go_sem, bthB]
  refine Br_split (fun hd => ?_) (fun hd => ?_) <;> simp only [go_sem, hd]
  · have hlt : i < b.plates.length := by simpa using hd
    have hix : idx? (b.plates.map Plate.d) (i : Int) = some (b.plates[i]).d := by simp [idx?, List.getElem?_eq_getElem hlt]
    have hst : (b.plates.take (i + 1)) = b.plates.take i ++ [b.plates[i]] := List.take_succ_eq_append_getElem hlt
    have hln : (b.plates.take i).length = i := by simp; omega
    have hi1 : i + 1 ≤ 4294967296 := by omega
    generalize b.plates[i] = x at hix hst
    simp only [go_sem, hix, Plate.d]
    refine Br_split (fun hm => ?_) (fun hm => ?_) <;> simp only [go_sem, hix, Plate.d, hm, List.length_map, hln, hi1]
    · refine ⟨i + 1, hlt, by omega, ?_⟩
      exact ForgetTo.same' (by simp) (by simp [EWe, Env.look, w64 (n := (i : Int) + 1) (by omega) (by omega)]) (by rw [hst]; simp)
    · refine ⟨i + 1, hlt, by omega, ?_⟩
      exact ForgetTo.same' (by simp) (by simp [EWe, Env.look, w64 (n := (i : Int) + 1) (by omega) (by omega)]) (by rw [hst]; simp)
  · have hie : i = b.plates.length := by simp at hd; omega
    subst hie
    rw [List.take_length]
    have htk : ((b.plates.map fun p => if most = true then p.rust.hi else p.rust.lo).map (D.int .i64)).take b.plates.length = (extR b most).map (D.int .i64) := List.take_of_length_le (by simp)
    simp only [go_sem, htk, List.length_map]

/-- For which hours the plate surely comes out good. -/
theorem hoursW_iff {b : Bath} (hok : b.Ok) (before : List Int) (q : Int) {h : Int} (hh : 1 ≤ h ∧ h ≤ 24) :
    ((hoursW b q (fellF b before)).2 = true ∧ (hoursW b q (fellF b before)).1.lo ≤ h ∧ h ≤ (hoursW b q (fellF b before)).1.hi) ↔ (b.pl q).rust.hi ≤ (aftS (fellF b before) b.str).lo * h ∧ (aftS (fellF b before) b.str).hi * h ≤ (b.pl q).rust.lo + (b.pl q).thin := by
  obtain ⟨s1, s2, s3, _, _⟩ := id hok
  have hp := hok.pl q
  simp only [Plate.Ok] at hp
  have hA : 0 ≤ (aftS (fellF b before) b.str).lo ∧ (aftS (fellF b before) b.str).lo ≤ (aftS (fellF b before) b.str).hi := by simp only [aftS, aft]; omega
  have hlo : 0 < (aftS (fellF b before) b.str).lo → ((b.pl q).rust.hi ≤ (aftS (fellF b before) b.str).lo * h ↔ ((b.pl q).rust.hi + (aftS (fellF b before) b.str).lo - 1).tdiv (aftS (fellF b before) b.str).lo ≤ h) := fun hA0 => by
    rw [Int.tdiv_eq_ediv_of_nonneg (by omega)]
    have := Int.ediv_lt_iff_lt_mul (a := (b.pl q).rust.hi + (aftS (fellF b before) b.str).lo - 1) (b := h + 1) hA0
    rw [Int.add_mul, Int.mul_comm h] at this
    omega
  have hhi : 0 < (aftS (fellF b before) b.str).hi → ((aftS (fellF b before) b.str).hi * h ≤ (b.pl q).rust.lo + (b.pl q).thin ↔ h ≤ ((b.pl q).rust.lo + (b.pl q).thin).tdiv (aftS (fellF b before) b.str).hi) := fun hB0 => by
    rw [Int.tdiv_eq_ediv_of_nonneg (by omega)]
    have := Int.le_ediv_iff_mul_le (a := h) (b := (b.pl q).rust.lo + (b.pl q).thin) hB0
    rw [Int.mul_comm h] at this
    omega
  have z1 : ¬ 0 < (aftS (fellF b before) b.str).lo → (aftS (fellF b before) b.str).lo * h = 0 := fun hn => by rw [show (aftS (fellF b before) b.str).lo = 0 by omega]; simp
  have z2 : ¬ 0 < (aftS (fellF b before) b.str).hi → (aftS (fellF b before) b.str).hi * h = 0 := fun hn => by rw [show (aftS (fellF b before) b.str).hi = 0 by omega]; simp
  by_cases h0 : (aftS (fellF b before) b.str).lo ≤ 0 ∧ 0 < (b.pl q).rust.hi
  · have e : hoursW b q (fellF b before) = (⟨0, 0⟩, false) := by simp only [hoursW, if_pos h0]
    rw [e]
    have := z1 (by omega)
    simp only [Bool.false_eq_true, false_and, false_iff]
    omega
  · have e : hoursW b q (fellF b before) = (⟨hourLo b (b.pl q) (fellF b before), hourHi b (b.pl q) (fellF b before)⟩, decide (hourLo b (b.pl q) (fellF b before) ≤ hourHi b (b.pl q) (fellF b before))) := by simp only [hoursW, if_neg h0]
    rw [e]
    simp only [decide_eq_true_eq]
    unfold hourLo hourHi
    by_cases hA0 : 0 < (aftS (fellF b before) b.str).lo
    · have hB0 : 0 < (aftS (fellF b before) b.str).hi := by omega
      have k1 := hlo hA0
      have k2 := hhi hB0
      rw [if_pos hA0, if_pos hB0]
      omega
    · have k1 := z1 hA0
      rw [if_neg hA0]
      by_cases hB0 : 0 < (aftS (fellF b before) b.str).hi
      · have k2 := hhi hB0
        rw [if_pos hB0]
        omega
      · have k2 := z2 hB0
        rw [if_neg hB0]
        omega

/-- Good in a truth and in both worst ones. -/
def goodB (b : Bath) (rusts : List Int) (str : Int) (before : List Step) (p h : Int) : Bool :=
  decide (trueHow b rusts (weakF b (platesOf before) str) ⟨p, h⟩ = 2) && decide (trueHow b (extR b true) (weakF b (platesOf before) b.str.lo) ⟨p, h⟩ = 2) && decide (trueHow b (extR b false) (weakF b (platesOf before) b.str.hi) ⟨p, h⟩ = 2)

theorem extR_get {b : Bath} {q : Nat} (hq : q < b.plates.length) (m : Bool) : (extR b m).getD q 0 = if m = true then (b.pl q).rust.hi else (b.pl q).rust.lo := by
  simp only [extR, Bath.pl, Int.toNat_natCast, List.getD_eq_getElem?_getD, List.getElem?_map, List.getElem?_eq_getElem hq, Option.map_some, Option.getD_some]

theorem goodB_iff {b : Bath} (hok : b.Ok) {rusts : List Int} {str : Int} (before : List Step) {p h : Int} (hp : 0 ≤ p ∧ p < b.plates.length) (hs : b.str.lo ≤ str ∧ str ≤ b.str.hi) (hr : (b.pl p).rust.lo ≤ rusts.getD p.toNat 0 ∧ rusts.getD p.toNat 0 ≤ (b.pl p).rust.hi) (hh : 1 ≤ h ∧ h ≤ 24) :
    goodB b rusts str before p h = true ↔ ((hoursW b p (fellF b (platesOf before))).2 = true ∧ (hoursW b p (fellF b (platesOf before))).1.lo ≤ h ∧ h ≤ (hoursW b p (fellF b (platesOf before))).1.hi) := by
  rw [hoursW_iff hok (platesOf before) p hh]
  obtain ⟨s1, s2, s3, _, _⟩ := id hok
  have hpl := hok.pl p
  simp only [Plate.Ok] at hpl
  obtain ⟨q, rfl⟩ : ∃ q : Nat, p = q := ⟨p.toNat, by omega⟩
  have e1 := extR_get (b := b) (q := q) (by omega) true
  have e2 := extR_get (b := b) (q := q) (by omega) false
  simp only [if_true, Bool.false_eq_true, if_false] at e1 e2
  have hF := fellF_nn hok (platesOf before)
  simp only [goodB, Bool.and_eq_true, decide_eq_true_eq]
  simp only [trueHow, Int.toNat_natCast, e1, e2, aftS] at hr ⊢
  rw [weak_aft hok _ _ (show 0 ≤ str by omega), weak_aft hok _ _ (show 0 ≤ b.str.lo by omega), weak_aft hok _ _ (show 0 ≤ b.str.hi by omega)]
  have t : ∀ r l : Int, howP ⟨⟨0, 0⟩, 0, (b.pl q).thin⟩ r l = 2 ↔ r ≤ l ∧ l ≤ r + (b.pl q).thin := fun r l => howP_two
  rw [t, t, t]
  generalize fellF b (platesOf before) = F at hF
  have m1 : aft F b.str.lo * h ≤ aft F str * h := Int.mul_le_mul_of_nonneg_right (by simp only [aft]; omega) (by omega)
  have m2 : aft F str * h ≤ aft F b.str.hi * h := Int.mul_le_mul_of_nonneg_right (by simp only [aft]; omega) (by omega)
  generalize aft F b.str.lo * h = X at m1
  generalize aft F str * h = Y at m1 m2
  generalize aft F b.str.hi * h = Z at m2
  omega

theorem stepsOk_filter {np : Nat} (f : Step → Bool) : ∀ {d d' : Nat} {l : List Step}, (∀ q, d'.testBit q = true → d.testBit q = true) → stepsOk np d l = true → stepsOk np d' (l.filter f) = true
  | d, d', [], _, _ => rfl
  | d, d', x :: r, hd, h => by
    simp only [stepsOk] at h
    split at h
    · cases h
    · rename_i hb
      have hor : ∀ q, (d' ||| 2 ^ x.plate.toNat).testBit q = true → (d ||| 2 ^ x.plate.toNat).testBit q = true := fun q hq => by
        rw [Nat.testBit_or, Bool.or_eq_true] at hq ⊢
        exact hq.imp_left (hd q)
      rw [List.filter_cons]
      split
      · simp only [stepsOk]
        have hb' : stepBad np d' x = false := by
          simp only [stepBad, Bool.not_eq_true, Bool.or_eq_false_iff] at hb ⊢
          refine ⟨hb.1, ?_⟩
          cases hq : d'.testBit x.plate.toNat with
          | false => rfl
          | true => rw [hd _ hq] at hb; exact absurd hb.2 (by simp)
        rw [hb', if_neg (by simp)]
        exact stepsOk_filter f hor h
      · refine stepsOk_filter f (fun q hq => ?_) h
        rw [Nat.testBit_or, hd q hq]; rfl
end Go.Aw
end

section
set_option maxRecDepth 100000
namespace Go.Aw
open Go Go.Proofs.Try

def othersOf (p : Int) (l : List Step) : List Step := l.filter fun s => decide (s.plate ≠ p)

/-- The heap of the law. -/
def hL (x : Vat) (b : Bath) (str : Int) (rusts : List Int) (p : Int) (all : List Step) : Heap :=
  [.cells [.d (.int .u8 x.s.a), .d (.int .u8 x.s.b), .d (.int .u8 x.s.c), .d (.sl (x.plates.map B4.d))], bthB b, .cells [.d (.int .i64 str)], .cells [.d (.sl (rusts.map (.int .i64)))],
    .arr 2 false (all.map Step.d), .cells [.d (.int .i64 p)], .cells [.ref 4 all.length 0 all.length]]

theorem c64 {x : Vat} {b : Bath} (hok : b.Ok) {str : Int} (hs : b.str.lo ≤ str ∧ str ≤ b.str.hi) {rusts : List Int} (hrl : rusts.length = b.plates.length) (hrb : ∀ r ∈ rusts, 0 ≤ r ∧ r ≤ 600) {p : Int} (hp : 0 ≤ p ∧ p < b.plates.length) {all : List Step} (hal : all.length ≤ 5)
    (hm : ∀ x ∈ all, (0 ≤ x.plate ∧ x.plate < b.plates.length) ∧ 1 ≤ x.hours ∧ x.hours ≤ 24) (w : Sp) {h : Int} (hh : 1 ≤ h ∧ h ≤ 24) {Q : V → Heap → Prop} (hq : Q (.d (.bool (goodB b rusts str all p h))) (hL x b str rusts p all ++ [.cells [.d (.int .i64 w.lo), .d (.int .i64 w.hi)]])) :
    ACalls prog 64 [.d (.int .i64 h), .ptr 6 0, .ptr 5 0, .ptr 1 0, .ptr 2 0, .ptr 3 0] (hL x b str rusts p all ++ [.cells [.d (.int .i64 w.lo), .d (.int .i64 w.hi)]]) Q := by
  obtain ⟨s1, s2, s3, hb5, _⟩ := id hok
  have hsz := sized_steps all
  have hle : all.length + 1 ≤ 4294967296 := by omega
  have hle2 : all.length ≤ 4294967296 := by omega
  have htk : (all.map Step.d).take all.length = all.map Step.d := List.take_of_length_le (by simp)
  have hmm : ∀ y ∈ all ++ [Step.mk p h], (0 ≤ y.plate ∧ y.plate < b.plates.length) ∧ 1 ≤ y.hours ∧ y.hours ≤ 24 := fun y hy => by
    rcases List.mem_append.1 hy with hy | hy
    · exact hm y hy
    · rw [List.mem_singleton.1 hy]; exact ⟨hp, hh⟩
  have hel : ∀ m, (extR b m).length = b.plates.length := fun m => by simp [extR]
  have heb : ∀ m, ∀ r ∈ extR b m, 0 ≤ r ∧ r ≤ 600 := fun m r hr => by
    obtain ⟨q, hq, rfl⟩ := List.mem_map.1 hr
    have := hok.2.2.2.2 q hq
    simp only [Plate.Ok] at this
    split <;> omega
  have hmap : (all ++ [Step.mk p h]).map Step.d = all.map Step.d ++ [.agg [.int .i64 p, .int .i64 h]] := by simp [Step.d]
  have hdr : ∀ (rs : List Int) (st : Int), idx? ((comesR b rs (all ++ [Step.mk p h]) st).1.map (D.int .i64)) (all.length : Int) = some (.int .i64 (trueHow b rs (weakF b (platesOf all) st) ⟨p, h⟩)) := fun rs st => by
    rw [comesR_append, comesR_weak, idx_nat, List.map_append, List.getElem?_append_right (by rw [List.length_map, comesR_len]; exact Nat.le_refl _), List.length_map, comesR_len, Nat.sub_self]
    rfl
  refine ACalls.of_body tt_ok (fn := f64) (c := bodyOf f64) rfl rfl rfl (of_decide_eq_true rfl) ?_
  change AWP prog f64.ntmps _ none (bodyOf f64) _ _ (FnPost Tt [.tmp 7] 8 Q)
  refine AWP.stepN 2 [(8, .d (.sl ((all ++ [Step.mk p h]).map Step.d))), (5, .ptr 3 0), (4, .ptr 2 0), (3, .ptr 1 0), (1, .ptr 6 0)] (hL x b str rusts p all ++ [.cells [.d (.int .i64 w.lo), .d (.int .i64 w.hi)]]) (fun k => k == 18) tt_ok (fun _ h => nomatch h) (Nat.le_refl _) rfl ?_ ?_
  · simp only [go_sem, hL, bthB]
    refine ADrw.treeG (fun k => k == 18) tt_ok (by kernel_rfl) (fun k => if k = 1 ∨ k = 3 then some .L else if k = 2 ∨ k = 7 then some .W else some .S) (.ones [0, 1, 4] (.two 2 (.ones [3, 5, 6, 7, 8] .done) 3 (.ones [2, 5, 6, 7, 8] .done))) (by simp) (fun _ h => nomatch h) rfl rfl (by kernel_rfl) ?_
    simp only [go_sem, hsz, hle, hle2, htk, List.length_map, List.nil_append, Nat.zero_add]
    have htk2 : (all.map Step.d ++ [D.agg [.int .i64 p, .int .i64 h]]).take (all.length + 1) = all.map Step.d ++ [D.agg [.int .i64 p, .int .i64 h]] := List.take_of_length_le (by simp)
    refine ⟨?_, ?_⟩
    all_goals
      refine (c24 p h).callS rfl rfl rfl rfl rfl rfl ?_
      simp only [go_sem, hle, Step.d]
      have hls : (all.map Step.d ++ [D.agg [.int .i64 p, .int .i64 h]]).length = all.length + 1 := by simp
      rw [hmap]
      refine ⟨Nat.le_refl _, by simp, .inr (by simp [BBs, BB, VBs, VB]), rfl, ?_⟩
      simp [EW, VW, Env.look, pubV, htk2]
  · refine AWP.runS (fun _ => false) tt_ok (fun _ h => nomatch h) (Nat.le_refl _) rfl ?_
    simp only [go_sem, hL, bthB]
    have hl6 : (all ++ [Step.mk p h]).length ≤ 1000 := by simp; omega
    refine (c61 hok (all ++ [Step.mk p h]) str rusts hl6 (by omega) hrl hrb hmm).call rfl rfl rfl ?_
    simp only [go_sem]
    refine ADrw.treeG (fun _ => false) tt_ok (by kernel_rfl) (fun k => if k = 0 ∨ k = 4 ∨ k = 5 then some .L else some .S) (.ones [0, 1, 2, 3, 4, 5, 6, 7, 8, 9, 10, 11, 12] .done) (Nat.le_refl _) (fun _ h => nomatch h) rfl rfl (by kernel_rfl) ?_
    simp only [go_sem]
    refine (c65 b true (by omega)).callS rfl rfl rfl rfl rfl rfl ?_
    simp only [go_sem]
    refine (c61 hok (all ++ [Step.mk p h]) b.str.lo (extR b true) hl6 (by omega) (hel true) (heb true) hmm).callS rfl rfl rfl rfl rfl rfl ?_
    simp only [go_sem]
    refine ADrw.treeG (fun _ => false) tt_ok (by kernel_rfl) (fun k => if k = 0 ∨ k = 4 ∨ k = 5 then some .L else some .S) (.ones [0, 1, 2, 3, 4, 5, 6, 7, 8, 9, 10, 11, 12] .done) (Nat.le_refl _) (fun _ h => nomatch h) rfl rfl (by kernel_rfl) ?_
    simp only [go_sem]
    refine (c65 b false (by omega)).callS rfl rfl rfl rfl rfl rfl ?_
    simp only [go_sem]
    refine (c61 hok (all ++ [Step.mk p h]) b.str.hi (extR b false) hl6 (by omega) (hel false) (heb false) hmm).callS rfl rfl rfl rfl rfl rfl ?_
    simp only [hL, bthB] at hq
    simp only [goodB] at hq
    have hd1 := hdr rusts str
    have hd2 := hdr (extR b true) b.str.lo
    have hd3 := hdr (extR b false) b.str.hi
    generalize trueHow b rusts (weakF b (platesOf all) str) ⟨p, h⟩ = a1 at hq hd1
    generalize trueHow b (extR b true) (weakF b (platesOf all) b.str.lo) ⟨p, h⟩ = a2 at hq hd2
    generalize trueHow b (extR b false) (weakF b (platesOf all) b.str.hi) ⟨p, h⟩ = a3 at hq hd3
    simp only [go_sem, hd1]
    refine Br_split (fun h1 => ?_) (fun h1 => ?_) <;> simp only [go_sem, h1, hd1, hd2]
    · refine Br_split (fun h2 => ?_) (fun h2 => ?_) <;> simp only [go_sem, h1, h2, hd1, hd2, hd3]
      · rw [h1, h2] at hq
        exact hq
      · rw [h1, h2] at hq
        exact hq
    · rw [h1] at hq
      exact hq

theorem othersOf_no (p : Int) (l : List Step) : p ∉ platesOf (othersOf p l) := by
  intro h
  simp only [platesOf, othersOf, List.mem_map, List.mem_filter, decide_eq_true_eq] at h
  obtain ⟨s, ⟨_, h1⟩, h2⟩ := h
  exact h1 h2

theorem c11 {x : Vat} (hx : x.Ok) (l : List B2) (hl : ∀ v ∈ l, v.Ok) (pb : Int) (hpb : Byte pb) : PC prog 11 [.d x.d, .d (.sl (l.map B2.d)), .d (.int .u8 pb)] (.d (.bool true)) := by
  have hok := Vat.bathOk hx
  obtain ⟨g1, g2⟩ := Vat.str_in hx
  have hri := fun q hq => Vat.rust_in hx (q := q) hq
  have hso := stepsB_ok (b := x.bath) l hl
  have hsl := stepsB_len x.bath l
  have hrl : x.rusts.length = x.bath.plates.length := by simp [Vat.rusts, Vat.bath]
  have hrb : ∀ r ∈ x.rusts, 0 ≤ r ∧ r ≤ 600 := fun r hr => by
    obtain ⟨v, hv, rfl⟩ := List.mem_map.1 hr
    have := (hx.p v (List.mem_of_mem_take hv)).a
    simp only [Byte] at this
    omega
  obtain ⟨s1, s2, s3, hb5, _⟩ := id hok
  have hd0 : ∀ {α : Type} [DecidableEq α] (l : α), decide (l = l) = true := fun l => by simp
  have ep := byte_conv hpb
  simp only [Byte] at hpb
  refine PC.run (fun k => k == 35) tt_ok (fn := f11) (rs := [.tmp 6]) rfl rfl rfl rfl rfl rfl rfl ?_
  simp only [go_sem, Vat.d]
  refine (c58 hx).call rfl rfl rfl ?_
  simp only [go_sem]
  generalize x.bath = b at *
  generalize x.str = str at *
  generalize x.rusts = rusts at *
  simp only [go_sem, Bath.d]
  refine Br_split (fun h0 => ?_) (fun h0 => ?_) <;> simp only [go_sem, h0]
  · refine c17.call rfl rfl rfl ?_
    simp only [go_sem]
  have hn0 : 0 < b.plates.length := by
    rcases Nat.eq_zero_or_pos b.plates.length with h | h
    · simp [h] at h0
    · exact h
  have zn : (b.plates.length : Int) ≠ 0 := by omega
  have mp : pb.tmod b.plates.length = pb % b.plates.length := Int.tmod_eq_emod_of_nonneg hpb.1
  have hp : 0 ≤ pb % b.plates.length ∧ pb % b.plates.length < b.plates.length := ⟨Int.emod_nonneg _ zn, Int.emod_lt_of_pos _ (by omega)⟩
  simp only [go_sem, ep, mp, remO_ne zn]
  generalize pb % b.plates.length = p at hp
  refine (c59 b l hb5 hl).call rfl rfl rfl ?_
  simp only [go_sem]
  generalize stepsB b l = steps at hso hsl
  have hf1 : ∀ i, othersOf p (steps.take i) = (steps.take i).filter fun s => decide (s.plate ≠ p) := fun i => rfl
  refine ALoop.by (S := Nat) (fun i => [(40, .d (.int .i64 i)), (39, .d (.int .i64 steps.length)), (38, .d (.sl (steps.map Step.d))), (11, .ptr 6 0), (10, .ptr 5 0), (9, .ptr 3 0), (8, .ptr 2 0), (7, .ptr 1 0)])
    (fun i => hL x b str rusts p (othersOf p (steps.take i))) (fun i => steps.length - i) (fun i => i ≤ steps.length) 0 (Nat.zero_le _) (fun _ h => nomatch h) (Nat.zero_le _) ?_ ?_
  · exact ForgetTo.same' (Nat.zero_le _) (by simp [EWe, Env.look]) (by simp [hL, bthB, othersOf])
  rintro i hi hn
  refine AWP.run (fun k => k == 35) tt_ok (fun _ h => nomatch h) (Nat.zero_le _) rfl ?_
  simp only [go_sem, hL, bthB]
  refine Br_split (fun hd => ?_) (fun hd => ?_) <;> simp only [go_sem, hd]
  · have hlt : i < steps.length := by simpa using hd
    have hix : idx? (steps.map Step.d) (i : Int) = some (steps[i]).d := by simp [idx?, List.getElem?_eq_getElem hlt]
    have hst : othersOf p (steps.take (i + 1)) = othersOf p (steps.take i) ++ (if decide (steps[i].plate ≠ p) = true then [steps[i]] else []) := by
      rw [List.take_succ_eq_append_getElem hlt]
      simp only [othersOf, List.filter_append, List.filter_cons, List.filter_nil]
    have hol : (othersOf p (steps.take i)).length ≤ i := by
      have h1 := List.length_filter_le (fun s : Step => decide (s.plate ≠ p)) (steps.take i)
      have h2 : (steps.take i).length = i := by simp; omega
      rw [← hf1] at h1
      omega
    have hi1 : (othersOf p (steps.take i)).length + 1 ≤ 4294967296 := by omega
    have hnx : IntKind.i64.wrap ((i : Int) + 1) = ((i + 1 : Nat) : Int) := w64 (by omega) (by omega)
    generalize steps[i] = s at hix hst
    generalize othersOf p (steps.take i) = o at hst hol hi1
    simp only [go_sem, hix, Step.d]
    refine Br_split (fun h1 => ?_) (fun h1 => ?_) <;> simp only [go_sem, h1, hi1]
    · have h1' : s.plate ≠ p := by simpa using h1
      rw [if_pos (by simpa using h1')] at hst
      refine ⟨i + 1, hlt, by omega, ?_⟩
      refine ForgetTo.drop (H0 := [_, _, _, _, _, _, _]) (Y := [_]) (Nat.zero_le _) ?_ (by simp [BBs, BB, VBs, VB]) ?_
      · rw [hst]; simp [hL, bthB, Step.d]
      · simp [EWp, Env.look, pubV, hL, hnx]
    · have h1' : s.plate = p := by simpa using h1
      rw [if_neg (by simpa using h1'), List.append_nil] at hst
      refine ⟨i + 1, hlt, by omega, ?_⟩
      refine ForgetTo.drop (H0 := [_, _, _, _, _, _, _]) (Y := [_]) (Nat.zero_le _) ?_ (by simp [BBs, BB, VBs, VB]) ?_
      · rw [hst] <;> simp [hL, bthB]
      · simp [EWp, Env.look, pubV, hL, hnx]
  have hie : i = steps.length := by simp at hd; omega
  subst hie
  rw [List.take_length]
  have hmem : ∀ y ∈ othersOf p steps, (0 ≤ y.plate ∧ y.plate < b.plates.length) ∧ 1 ≤ y.hours ∧ y.hours ≤ 24 := fun y hy => stepsOk_mem hso y (List.mem_filter.1 hy).1
  have hol : (othersOf p steps).length ≤ 5 := by
    have h1 := List.length_filter_le (fun s : Step => decide (s.plate ≠ p)) steps
    simp only [othersOf]
    omega
  have hok2 : stepsOk b.plates.length 0 (othersOf p steps) = true := stepsOk_filter _ (fun q h => h) hso
  have hsm := stepsOk_more hok2 p
  rw [show decide (p ∈ platesOf (othersOf p steps)) = false by simpa using othersOf_no p steps, show within 0 ((b.plates.length : Int) - 1) [p] = true from within_one.2 (by omega)] at hsm
  generalize othersOf p steps = all at *
  have hc0 : checkP b = 0 := checkP_iff.2 hok
  have hsp : hoursP b all p = if (hoursW b p (fellF b (platesOf all))).2 = true then ((hoursW b p (fellF b (platesOf all))).1, 0) else (⟨0, 0⟩, 9) := by simp [hoursP, hc0, hok2, hsm]
  have hgi := fun h hh => goodB_iff hok (rusts := rusts) (str := str) all (p := p) (h := h) hp ⟨g1, g2⟩ (by
    have := hri p.toNat (by omega)
    rw [show ((p.toNat : Nat) : Int) = p by omega] at this
    exact this) hh
  have hlo := fun h => hoursW_lo (p := p) (fell := fellF b (platesOf all)) hok h
  have hhi : (hoursW b p (fellF b (platesOf all))).2 = true → (hoursW b p (fellF b (platesOf all))).1.lo ≤ (hoursW b p (fellF b (platesOf all))).1.hi ∧ (hoursW b p (fellF b (platesOf all))).1.hi ≤ 24 := fun h => by
    unfold hoursW at h ⊢
    split
    · rename_i hc; rw [if_pos hc] at h; cases h
    · rename_i hc
      rw [if_neg hc] at h
      simp only [decide_eq_true_eq] at h
      refine ⟨h, ?_⟩
      simp only
      unfold hourHi
      split <;> omega
  have htk : (all.map Step.d).take all.length = all.map Step.d := List.take_of_length_le (by simp)
  have hsz := sized_steps all
  have hle : all.length ≤ 4294967296 := by omega
  refine ADrw.treeG (fun k => k == 35) tt_ok (by kernel_rfl) (fun k => if k = 0 ∨ k = 3 ∨ k = 4 ∨ k = 5 then some .L else if k = 11 then some .W else if k = 10 then some .A else some .S) (.ones [0, 1, 2, 3, 4, 5, 6, 7, 8, 9, 10, 11, 12] .done) (Nat.zero_le _) (fun _ h => nomatch h) rfl rfl (by kernel_rfl) ?_
  simp only [go_sem]
  refine (c60 b (by omega)).callS rfl rfl rfl rfl rfl rfl ?_
  simp only [go_sem, htk, hsz, hle, List.nil_append, Nat.zero_add]
  refine (c33 b all p (by omega) (by omega)).callS rfl rfl rfl rfl rfl rfl ?_
  rw [hsp]
  -- the closure, hour by hour
  have hCL := fun (w : Sp) (h : Int) (hh : 1 ≤ h ∧ h ≤ 24) Q hq => c64 (x := x) hok ⟨g1, g2⟩ hrl hrb hp hol hmem w hh (Q := Q) hq
  generalize hW : hoursW b p (fellF b (platesOf all)) = W at hgi hlo hhi
  obtain ⟨w, ok⟩ := W
  simp only at hgi hlo hhi
  cases ok with
  | true =>
    obtain ⟨k1, k2⟩ := hlo rfl
    obtain ⟨k3, k4⟩ := hhi rfl
    have d1 : decide (w.lo < 1) = false := by simp; omega
    have d2 : decide (24 < w.hi) = false := by simp; omega
    have d3 : decide (w.hi < w.lo) = false := by simp; omega
    simp only [go_sem, Sp.d, if_true]
    refine ADrw.treeG (fun k => k == 35) tt_ok (by kernel_rfl) (fun k => if k = 6 ∨ k = 16 ∨ k = 20 ∨ k = 25 ∨ k = 27 then some .L else some .S) (.ones [0, 1, 2, 3, 4, 5, 6, 7, 8, 9, 10, 11, 12, 13, 14, 15, 16, 17, 18, 19, 20, 21, 22, 23, 24, 25, 26, 27, 28, 29, 30, 31] .done) (Nat.zero_le _) (fun _ h => nomatch h) rfl rfl (by kernel_rfl) ?_
    simp only [go_sem, d1, d2, d3]
    refine ALoop.by (S := Nat) (fun h => [(17, .d (.int .i64 h)), (16, .fn (.func 64) [] [.ptr 6 0, .ptr 5 0, .ptr 1 0, .ptr 2 0, .ptr 3 0]), (15, .d (.int .i64 0)), (14, .ptr 7 0)])
      (fun _ => hL x b str rusts p all ++ [.cells [.d (.int .i64 w.lo), .d (.int .i64 w.hi)]]) (fun h => 25 - h) (fun h => 1 ≤ h ∧ h ≤ 25) 1 (Nat.zero_le _) (fun _ h => nomatch h) ⟨Nat.le_refl _, by omega⟩ ?_ ?_
    · refine ForgetTo.same' (Nat.zero_le _) (by simp [EWe, Env.look]) (by simp [hL, bthB])
    rintro h ⟨h1, h2⟩ hn
    refine AWP.run (fun k => k == 35) tt_ok (fun _ h => nomatch h) (Nat.zero_le _) rfl ?_
    simp only [go_sem, hL, bthB]
    refine Br_split (fun hd => ?_) (fun hd => ?_) <;> simp only [go_sem, hd]
    · have hh : 1 ≤ (h : Int) ∧ (h : Int) ≤ 24 := by simp at hd; omega
      have hg := hgi h hh
      have hnx : IntKind.i64.wrap ((h : Int) + 1) = ((h + 1 : Nat) : Int) := w64 (by omega) (by omega)
      refine ACallV.of rfl (hCL w h hh _ ?_)
      generalize goodB b rusts str all p h = g at hg
      simp only [go_sem, hL, bthB]
      refine (c62 h w).call rfl rfl rfl ?_
      have hgv : g = (decide ((h : Int) ≥ w.lo) && decide ((h : Int) ≤ w.hi)) := by rw [Bool.eq_iff_iff]; simpa using hg
      rw [hgv]
      generalize (decide ((h : Int) ≥ w.lo) && decide ((h : Int) ≤ w.hi)) = g
      have hgg : (!g == g) = false := by cases g <;> rfl
      simp only [go_sem, hgg]
      refine ⟨h + 1, ⟨by omega, by omega⟩, by omega, ?_⟩
      exact ForgetTo.same' (Nat.zero_le _) (by simp [EWe, Env.look, hnx]) (by simp [hL, bthB])
    · refine c17.call rfl rfl rfl ?_
      simp only [go_sem]
  | false =>
    simp only [go_sem, Sp.d, if_false, Bool.false_eq_true]
    refine ADrw.treeG (fun k => k == 35) tt_ok (by kernel_rfl) (fun k => if k = 6 ∨ k = 16 ∨ k = 20 ∨ k = 25 ∨ k = 27 then some .L else some .S) (.ones [0, 1, 2, 3, 4, 5, 6, 7, 8, 9, 10, 11, 12, 13, 14, 15, 16, 17, 18, 19, 20, 21, 22, 23, 24, 25, 26, 27, 28, 29, 30, 31] .done) (Nat.zero_le _) (fun _ h => nomatch h) rfl rfl (by kernel_rfl) ?_
    simp only [go_sem]
    refine (c26 0 0).callS rfl rfl rfl rfl rfl rfl ?_
    simp only [go_sem, Sp.d]
    refine ALoop.by (S := Nat) (fun h => [(17, .d (.int .i64 h)), (16, .fn (.func 64) [] [.ptr 6 0, .ptr 5 0, .ptr 1 0, .ptr 2 0, .ptr 3 0]), (15, .d (.int .i64 9)), (14, .ptr 7 0)])
      (fun _ => hL x b str rusts p all ++ [.cells [.d (.int .i64 (⟨0, 0⟩ : Sp).lo), .d (.int .i64 (⟨0, 0⟩ : Sp).hi)]]) (fun h => 25 - h) (fun h => 1 ≤ h ∧ h ≤ 25) 1 (Nat.zero_le _) (fun _ h => nomatch h) ⟨Nat.le_refl _, by omega⟩ ?_ ?_
    · refine ForgetTo.same' (Nat.zero_le _) (by simp [EWe, Env.look]) (by simp [hL, bthB])
    rintro h ⟨h1, h2⟩ hn
    refine AWP.run (fun k => k == 35) tt_ok (fun _ h => nomatch h) (Nat.zero_le _) rfl ?_
    simp only [go_sem, hL, bthB]
    refine Br_split (fun hd => ?_) (fun hd => ?_) <;> simp only [go_sem, hd]
    · have hh : 1 ≤ (h : Int) ∧ (h : Int) ≤ 24 := by simp at hd; omega
      have hg := hgi h hh
      have hnx : IntKind.i64.wrap ((h : Int) + 1) = ((h + 1 : Nat) : Int) := w64 (by omega) (by omega)
      refine ACallV.of rfl (hCL (⟨0, 0⟩ : Sp) h hh _ ?_)
      generalize goodB b rusts str all p h = g at hg
      simp only [go_sem, hL, bthB]
      have hgv : g = false := by cases g <;> simp at hg ⊢
      subst hgv
      simp only [go_sem]
      refine ⟨h + 1, ⟨by omega, by omega⟩, by omega, ?_⟩
      exact ForgetTo.same' (Nat.zero_le _) (by simp [EWe, Env.look, hnx]) (by simp [hL, bthB])
    · refine c17.call rfl rfl rfl ?_
      simp only [go_sem]
end Go.Aw
end

section
set_option maxRecDepth 100000
namespace Go.Aw
open Go Go.Proofs.Try

def acidB (v : B4) : Acid := ⟨⟨v.a % 36, v.a % 36 + v.b % 5⟩, 1 + v.c % 200⟩
def trueB (v : B4) : Int := (v.a % 36 + v.e % (v.b % 5 + 1)) * (1 + v.c % 200)

theorem acidB_ok {v : B4} (h : v.Ok) : (acidB v).Ok := by
  obtain ⟨h1, h2, h3, h4⟩ := h
  simp only [Byte] at h1 h2 h3 h4
  simp only [Acid.Ok, acidB]
  omega

theorem fit_iff {m : Mixed} {want : Sp} {n : Int} (h : 1 ≤ m.oz + n) : fitR m want n = true ↔ want.lo * (m.oz + n) ≤ m.lo ∧ m.hi ≤ want.hi * (m.oz + n) := by
  simp only [fitR, Mixed.with, Bool.and_eq_true, decide_eq_true_eq, ge_iff_le]
  rw [Int.le_ediv_iff_mul_le (by omega)]
  have h2 := Int.ediv_lt_iff_lt_mul (a := m.hi + (m.oz + n) - 1) (b := want.hi + 1) (c := m.oz + n) (by omega)
  rw [Int.add_mul] at h2
  constructor
  · rintro ⟨a, b⟩
    refine ⟨a, ?_⟩
    have := h2.1 (Int.lt_add_one_iff.2 (of_decide_eq_true b))
    rw [Int.one_mul] at this
    omega
  · rintro ⟨a, b⟩
    refine ⟨a, ?_⟩
    exact decide_eq_true (Int.lt_add_one_iff.1 (h2.2 (by rw [Int.one_mul]; omega)))

theorem fit_conv {m : Mixed} {want : Sp} (hw : 0 ≤ want.lo ∧ 0 ≤ want.hi) (ho : 1 ≤ m.oz) {x y z : Int} (hx : 0 ≤ x) (hxy : x ≤ y) (hyz : y ≤ z) (h1 : fitR m want x = true) (h2 : fitR m want z = true) : fitR m want y = true := by
  rw [fit_iff (by omega)] at h1 h2 ⊢
  have a1 := Int.mul_le_mul_of_nonneg_left (a := m.oz + y) (b := m.oz + z) (c := want.lo) (by omega) hw.1
  have a2 := Int.mul_le_mul_of_nonneg_left (a := m.oz + x) (b := m.oz + y) (c := want.hi) (by omega) hw.2
  omega

theorem water_fits {m : Mixed} {want : Sp} (hw : 0 ≤ want.lo ∧ 0 ≤ want.hi) (ho : 1 ≤ m.oz) : ∀ k : Nat, k ≤ 501 → ∀ n : Int, 0 ≤ n → n < k → (fitR m want n = true ↔ (waterUp m want k).2 = 0 ∧ (waterUp m want k).1.lo ≤ n ∧ n ≤ (waterUp m want k).1.hi)
  | 0, _, n, h1, h2 => by omega
  | k + 1, hk, n, h1, h2 => by
    have ih := water_fits hw ho k (by omega)
    have e1 : waterUp m want (k + 1) = waterStep m want (waterUp m want k) k := by rw [waterUp, List.range_succ, List.foldl_append]; rfl
    have e2 : (waterUp m want k).2 = 0 → 0 ≤ (waterUp m want k).1.lo ∧ (waterUp m want k).1.lo ≤ (waterUp m want k).1.hi ∧ (waterUp m want k).1.hi < k := fun h => by
      rcases water_eq m want k (by omega) with ⟨e1, _⟩ | ⟨a, b, e1, _, e3, e4, e5⟩
      · rw [e1] at h; exact absurd h (by simp)
      · rw [e1]; exact ⟨e3, e4, e5⟩
    rw [e1]
    generalize waterUp m want k = s at ih e2
    simp only [waterStep, fit_eq]
    by_cases hf : fitR m want k = true
    · rw [if_pos hf]
      by_cases hs : s.2 = 0
      · rw [if_pos hs]
        obtain ⟨g1, g2, g3⟩ := e2 hs
        simp only [true_and]
        by_cases hn : n = k
        · subst hn
          simp only [hf, true_iff]
          omega
        · have := ih n h1 (by omega)
          constructor
          · intro h
            have := this.1 h
            omega
          · rintro ⟨q1, q2⟩
            by_cases hq : n ≤ s.1.hi
            · exact this.2 ⟨hs, q1, hq⟩
            · exact fit_conv hw ho g1 q1 (by omega) ((ih s.1.lo g1 (by omega)).2 ⟨hs, Int.le_refl _, g2⟩) hf
      · rw [if_neg hs]
        simp only [true_and]
        by_cases hn : n = k
        · subst hn
          simp only [hf, true_iff]
          omega
        · have := ih n h1 (by omega)
          constructor
          · intro h
            exact absurd (this.1 h).1 hs
          · omega
    · rw [if_neg hf]
      by_cases hn : n = k
      · subst hn
        constructor
        · intro h; exact absurd h hf
        · rintro ⟨q1, q2, q3⟩
          have := e2 q1
          omega
      · exact ih n h1 (by omega)

theorem mixAll_water : ∀ (ws : List Acid) (m : Mixed), (∀ a ∈ ws, a.str = ⟨0, 0⟩) → ws.foldl Mixed.add m = ⟨m.lo, m.hi, m.oz + (ws.map Acid.oz).sum⟩
  | [], m, _ => by simp
  | a :: r, m, h => by
    have h1 := h a List.mem_cons_self
    rw [List.foldl_cons, mixAll_water r _ (fun x hx => h x (List.mem_cons_of_mem _ hx))]
    simp [Mixed.add, h1]
    omega

/-- The true strength, and the ends. -/
theorem mix_true : ∀ (l : List B4) (m : Mixed) (s : Int), (∀ v ∈ l, v.Ok) → m.lo ≤ s ∧ s ≤ m.hi → ((l.map acidB).foldl Mixed.add m).lo ≤ s + (l.map trueB).sum ∧ s + (l.map trueB).sum ≤ ((l.map acidB).foldl Mixed.add m).hi
  | [], m, s, _, h => by simpa using h
  | v :: r, m, s, hl, h => by
    have hv := hl v List.mem_cons_self
    have h1 := mix_true r (m.add (acidB v)) (s + trueB v) (fun x hx => hl x (List.mem_cons_of_mem _ hx)) (by
      obtain ⟨h1, h2, h3, h4⟩ := hv
      simp only [Byte] at h1 h2 h3 h4
      simp only [Mixed.add, acidB, trueB]
      have e : 0 ≤ v.e % (v.b % 5 + 1) ∧ v.e % (v.b % 5 + 1) < v.b % 5 + 1 := ⟨Int.emod_nonneg _ (by omega), Int.emod_lt_of_pos _ (by omega)⟩
      have p1 := Int.mul_le_mul_of_nonneg_right (a := v.a % 36) (b := v.a % 36 + v.e % (v.b % 5 + 1)) (c := 1 + v.c % 200) (by omega) (by omega)
      have p2 := Int.mul_le_mul_of_nonneg_right (a := v.a % 36 + v.e % (v.b % 5 + 1)) (b := v.a % 36 + v.b % 5) (c := 1 + v.c % 200) (by omega) (by omega)
      omega)
    simp only [List.map_cons, List.foldl_cons, List.sum_cons]
    omega

def hM (v : B2) (acids : List Acid) : Heap := [.cells [.d (.int .u8 v.a), .d (.int .u8 v.b)], .arr 3 false (acids.map Acid.d), .cells [.ref 1 acids.length 0 acids.length]]

theorem c68 (v : B2) {acids : List Acid} (h0 : acidsP acids = 0) (h2 : acids.length ≤ 2) (mx want wat : Sp) (n : Int) (hn : 0 ≤ n ∧ n ≤ 500) {Q : V → Heap → Prop}
    (hq : Q (.d (.bool (fitR (mixAll acids) want n))) (hM v acids ++ [.cells [.d (.int .i64 mx.lo), .d (.int .i64 mx.hi)], .cells [.d (.int .i64 want.lo), .d (.int .i64 want.hi)], .cells [.d (.int .i64 wat.lo), .d (.int .i64 wat.hi)]])) :
    ACalls prog 68 [.d (.int .i64 n), .ptr 2 0, .ptr 4 0] (hM v acids ++ [.cells [.d (.int .i64 mx.lo), .d (.int .i64 mx.hi)], .cells [.d (.int .i64 want.lo), .d (.int .i64 want.hi)], .cells [.d (.int .i64 wat.lo), .d (.int .i64 wat.hi)]]) Q := by
  obtain ⟨k1, k2, k3⟩ := acids_ok h0
  have hsz := sized_acids acids
  have hle2 : acids.length ≤ 4294967296 := by omega
  have htk : (acids.map Acid.d).take acids.length = acids.map Acid.d := List.take_of_length_le (by simp)
  refine ACalls.run (fun k => k == 9) tt_ok (fn := f68) (rs := [.tmp 4]) rfl rfl rfl rfl rfl rfl rfl ?_
  simp only [go_sem, hM, hsz, hle2, htk, List.nil_append, Nat.zero_add]
  refine ALoop.by (S := List Acid × Int) (fun s => [(6, .d (.int .i64 s.2)), (5, .ref 6 (acids.length + s.1.length) 0 (acids.length + s.1.length)), (2, .ptr 4 0)])
    (fun s => hM v acids ++ [.cells [.d (.int .i64 mx.lo), .d (.int .i64 mx.hi)], .cells [.d (.int .i64 want.lo), .d (.int .i64 want.hi)], .cells [.d (.int .i64 wat.lo), .d (.int .i64 wat.hi)], .arr 3 false ((acids ++ s.1).map Acid.d)])
    (fun s => 3 - s.1.length) (fun s => s.1.length ≤ 3 ∧ (∀ a ∈ s.1, a.str = ⟨0, 0⟩ ∧ a.Ok) ∧ (s.1.map Acid.oz).sum = n - max s.2 0 ∧ s.2 = n - 200 * s.1.length) ([], n) (by simp [hM]) (fun _ h => nomatch h) (by simp; omega) ?_ ?_
  · exact ForgetTo.same' (by simp) (by simp [EWe, Env.look]) (by simp [hM])
  rintro ⟨ws, left⟩ ⟨g1, g2, g3, g4⟩ hn2
  simp only at g1 g2 g3 g4
  refine AWP.run (fun _ => false) tt_ok (fun _ h => nomatch h) (by simp [hM]) rfl ?_
  simp only [go_sem, hM]
  have fin : (left ≤ 0 ∨ acids.length + ws.length ≥ 5) → left ≤ 0 := fun h => by
    have : acids.length + ws.length ≥ 5 → left ≤ 0 := fun h => by omega
    omega
  refine Br_split (fun hd => ?_) (fun hd => ?_) <;> simp only [go_sem, hd]
  · have hd' : 0 < left := by simpa using hd
    have hw2 : ws.length < 3 := by omega
    have hnx : IntKind.i64.wrap (left - 200) = left - 200 := w64 (by omega) (by omega)
    have hlt : decide (((acids.length + ws.length : Nat) : Int) < 5) = true := by simp; omega
    have hle3 : acids.length + ws.length + 1 ≤ 4294967296 := by omega
    have hln : (acids ++ ws).length = acids.length + ws.length := by simp
    simp only [go_sem, hd, hlt, hle3, hln, List.length_map, hnx]
    refine ⟨(ws ++ [⟨⟨0, 0⟩, min left 200⟩], left - 200), ⟨by simp; omega, ?_, ?_, ?_⟩, by simp; omega, ?_⟩
    · intro a ha
      rcases List.mem_append.1 ha with ha | ha
      · exact g2 a ha
      · rw [List.mem_singleton.1 ha]
        exact ⟨rfl, by simp only [Acid.Ok]; omega⟩
    · rw [List.map_append, List.sum_append, g3]
      simp
      omega
    · simp
      omega
    · refine ForgetTo.same' (by simp) ?_ ?_
      · simp [EWe, Env.look, Nat.add_assoc]
      · simp [Acid.d]
  have hd' : left ≤ 0 := by simpa using hd
  simp only [hM] at hq
  have hsum : (ws.map Acid.oz).sum = n := by omega
  have hok : ∀ a ∈ acids ++ ws, a.Ok := fun a ha => by
    rcases List.mem_append.1 ha with ha | ha
    · exact k3 a ha
    · exact (g2 a ha).2
  have ha0 : acidsP (acids ++ ws) = 0 := by
    have h1 : ¬ (acids ++ ws).length > 5 := by simp; omega
    have h2' : ¬ (acids ++ ws).length = 0 := by rw [List.length_append]; omega
    have h3 : (acids ++ ws).any badAcid = false := List.any_eq_false.2 fun a ha => by simpa using (badAcid_iff a).2 (hok a ha)
    simp only [acidsP, if_neg h1, if_neg h2', h3, Bool.false_eq_true, if_false]
  have hmx : mixV (acids ++ ws) = (mixAll acids).with n := by
    rw [mixV, if_pos ha0, mixAll, List.foldl_append, mixAll_water ws _ (fun a ha => (g2 a ha).1), hsum]
    simp [Mixed.with, mixAll]
  have htk2 : ((acids ++ ws).map Acid.d).take (acids.length + ws.length) = (acids ++ ws).map Acid.d := List.take_of_length_le (by simp)
  have htk3 := htk2
  rw [List.map_append] at htk3
  refine (c43 (acids ++ ws) (by simp; omega)).callL rfl (by simp [pubVs, pubV, dz, htk3]) rfl ?_
  rw [hmx, ha0]
  have hf : fitR (mixAll acids) want n = (decide (((mixAll acids).with n).lo ≥ want.lo) && decide (((mixAll acids).with n).hi ≤ want.hi)) := rfl
  rw [hf] at hq
  generalize (mixAll acids).with n = s at hq
  simp only [go_sem, Sp.d]
  refine Br_split (fun h1 => ?_) (fun h1 => ?_) <;> simp only [go_sem, h1]
  · rw [show decide (s.lo ≥ want.lo) = true from h1, Bool.true_and] at hq
    exact hq
  · rw [show decide (s.lo ≥ want.lo) = false from h1, Bool.false_and] at hq
    exact hq
end Go.Aw
end

section
set_option maxRecDepth 100000
namespace Go.Aw
open Go Go.Proofs.Try

theorem stepsOk_nodup {np : Nat} : ∀ {l : List Step} {d : Nat}, stepsOk np d l = true → (platesOf l).Nodup ∧ ∀ s ∈ l, d.testBit s.plate.toNat = false
  | [], _, _ => ⟨List.nodup_nil, fun _ h => by cases h⟩
  | x :: r, d, h => by
    simp only [stepsOk] at h
    split at h
    · cases h
    · rename_i hb
      simp only [stepBad, Bool.not_eq_true, Bool.or_eq_false_iff, Bool.not_eq_false'] at hb
      obtain ⟨⟨h1, _⟩, h3⟩ := hb
      rw [within_one] at h1
      obtain ⟨k1, k2⟩ := stepsOk_nodup h
      have hmem := stepsOk_mem h
      refine ⟨List.nodup_cons.2 ⟨fun hx => ?_, k1⟩, fun s hs => ?_⟩
      · obtain ⟨s, hs, e⟩ := List.mem_map.1 hx
        have := k2 s hs
        rw [Nat.testBit_or, e, Nat.testBit_two_pow_self, Bool.or_true] at this
        cases this
      · rcases List.mem_cons.1 hs with rfl | hs
        · exact h3
        · have := k2 s hs
          rw [Nat.testBit_or, Bool.or_eq_false_iff] at this
          exact this.1

theorem narrow_iff {p : Plate} (hp : p.Ok) {how loses : Int} (hh : 1 ≤ how ∧ how ≤ 3) (r : Sp) (x : Int) : ((narrow p how loses r).lo ≤ x ∧ x ≤ (narrow p how loses r).hi) ↔ (r.lo ≤ x ∧ x ≤ r.hi) ∧ howP p x loses = how := by
  simp only [Plate.Ok] at hp
  unfold narrow howP
  split
  · simp only; split
    · omega
    · split <;> omega
  · split
    · simp only; split
      · omega
      · split <;> omega
    · simp only; split
      · omega
      · split <;> omega

/-- What is left of the rust of a plate. -/
def effR (b : Bath) (str : Int) (w : Nat) (p : Int) : List Seen → Nat → Int → Sp → Sp
  | [], _, _, a => a
  | s :: r, i, fell, a => if s.step.plate = p then (if w.testBit i = true then a else narrow (b.pl p) s.how (aft fell str * s.step.hours) a) else effR b str w p r (i + 1) (fell + (b.pl s.step.plate).takes) a

def platesS (l : List Seen) : List Int := platesOf (l.map Seen.step)

theorem platesS_cons (s : Seen) (r : List Seen) : platesS (s :: r) = s.step.plate :: platesS r := rfl

theorem effR_not (b : Bath) (str : Int) (w : Nat) {p : Int} : ∀ (l : List Seen) (i : Nat) (fell : Int) (a : Sp), p ∉ platesS l → effR b str w p l i fell a = a
  | [], _, _, _, _ => rfl
  | s :: r, i, fell, a, h => by
    rw [platesS_cons, List.mem_cons, not_or] at h
    rw [effR, if_neg (fun e => h.1 e.symm), effR_not b str w r _ _ _ h.2]

theorem nowL_set {b : Bath} {l : List Sp} {q : Int} {x : Sp} (hq : 0 ≤ q ∧ q.toNat < l.length) (p : Nat) : nowL b (l.set q.toNat x) p = if q = p then x else nowL b l p := by
  unfold nowL
  rw [Int.toNat_natCast, List.getD_eq_getElem?_getD, List.getD_eq_getElem?_getD]
  split
  · rename_i h
    subst h
    rw [Int.toNat_natCast, List.getElem?_set_self (by omega)]
    rfl
  · rw [List.getElem?_set_ne (by omega)]

theorem rustsR_spec (b : Bath) (str : Int) (w : Nat) : ∀ (l : List Seen) (i : Nat) (fell : Int) (acc : List Sp), acc.length = b.plates.length → (platesS l).Nodup → (∀ s ∈ l, 0 ≤ s.step.plate ∧ s.step.plate < b.plates.length) → (∀ p : Nat, p < b.plates.length → (nowL b acc p).lo ≤ (nowL b acc p).hi) →
    (∀ r, rustsR b str w l i fell acc = some r → ∀ p : Nat, p < b.plates.length → nowL b r p = effR b str w p l i fell (nowL b acc p) ∧ (nowL b r p).lo ≤ (nowL b r p).hi) ∧
    (rustsR b str w l i fell acc = none → ∃ p : Nat, p < b.plates.length ∧ (effR b str w p l i fell (nowL b acc p)).hi < (effR b str w p l i fell (nowL b acc p)).lo)
  | [], i, fell, acc, _, _, _, h => ⟨fun r hr p hp => by
      simp only [rustsR, Option.some.injEq] at hr
      subst hr
      exact ⟨rfl, h p hp⟩, fun hr => by simp [rustsR] at hr⟩
  | s :: r, i, fell, acc, hl, hd, hm, h => by
    rw [platesS_cons, List.nodup_cons] at hd
    have hms := hm s List.mem_cons_self
    have hmr := fun x hx => hm x (List.mem_cons_of_mem s hx)
    by_cases hw : w.testBit i = true
    · have ih := rustsR_spec b str w r (i + 1) (fell + (b.pl s.step.plate).takes) acc hl hd.2 hmr h
      have e : ∀ p : Nat, effR b str w p (s :: r) i fell (nowL b acc p) = effR b str w p r (i + 1) (fell + (b.pl s.step.plate).takes) (nowL b acc p) := fun p => by
        by_cases hp : s.step.plate = p
        · rw [effR, if_pos hp, if_pos hw, effR_not b str w r _ _ _ (by rw [← hp]; exact hd.1)]
        · rw [effR, if_neg hp]
      simp only [rustsR, if_pos hw, e]
      exact ih
    · simp only [rustsR, if_neg hw]
      have hp0 : s.step.plate = ((s.step.plate.toNat : Nat) : Int) := by omega
      have hpl : s.step.plate.toNat < b.plates.length := by omega
      have he0 : effR b str w s.step.plate (s :: r) i fell (nowL b acc s.step.plate) = narrow (b.pl s.step.plate) s.how (aft fell str * s.step.hours) (nowL b acc s.step.plate) := by
        rw [effR, if_pos rfl, if_neg hw]
      generalize hN : narrow (b.pl s.step.plate) s.how (aft fell str * s.step.hours) (nowL b acc s.step.plate) = N at he0
      by_cases hn : N.lo > N.hi
      · rw [if_pos hn]
        refine ⟨fun r hr => (by cases hr), fun _ => ⟨s.step.plate.toNat, hpl, ?_⟩⟩
        rw [← hp0, he0]
        exact hn
      · rw [if_neg hn]
        have hset := fun p : Nat => nowL_set (b := b) (l := acc) (q := s.step.plate) (x := N) ⟨hms.1, by omega⟩ p
        have ih := rustsR_spec b str w r (i + 1) (fell + (b.pl s.step.plate).takes) (acc.set s.step.plate.toNat N) (by rw [List.length_set]; exact hl) hd.2 hmr (fun p hp => by
          rw [hset]
          split
          · omega
          · exact h p hp)
        have e : ∀ p : Nat, effR b str w p (s :: r) i fell (nowL b acc p) = effR b str w p r (i + 1) (fell + (b.pl s.step.plate).takes) (nowL b (acc.set s.step.plate.toNat N) p) := fun p => by
          rw [hset]
          by_cases hp : s.step.plate = p
          · rw [if_pos hp, effR_not b str w r _ _ _ (by rw [← hp]; exact hd.1), ← hp, he0]
          · rw [if_neg hp, effR, if_neg hp]
        simp only [e]
        exact ih

theorem effR_iff {b : Bath} (hok : b.Ok) (str : Int) (w : Nat) (p x : Int) : ∀ (l : List Seen) (i : Nat) (fell : Int) (a : Sp), (platesS l).Nodup → (∀ s ∈ l, 1 ≤ s.how ∧ s.how ≤ 3) →
    (((effR b str w p l i fell a).lo ≤ x ∧ x ≤ (effR b str w p l i fell a).hi) ↔ (a.lo ≤ x ∧ x ≤ a.hi) ∧ ∀ j s, l[j]? = some s → s.step.plate = p → w.testBit (i + j) = false → howP (b.pl p) x (aft (fell + fellF b ((platesS l).take j)) str * s.step.hours) = s.how)
  | [], i, fell, a, _, _ => by simp [effR]
  | s :: r, i, fell, a, hd, hh => by
    rw [platesS_cons] at hd ⊢
    rw [List.nodup_cons] at hd
    by_cases hp : s.step.plate = p
    · have hno : ∀ (j : Nat) (t : Seen), (s :: r)[j]? = some t → t.step.plate = p → j = 0 := fun j t h1 h2 => by
        cases j with
        | zero => rfl
        | succ j =>
          rw [List.getElem?_cons_succ] at h1
          exact absurd (List.mem_map.2 ⟨t.step, List.mem_map.2 ⟨t, List.mem_of_getElem? h1, rfl⟩, h2.trans hp.symm⟩) hd.1
      rw [effR, if_pos hp]
      by_cases hw : w.testBit i = true
      · rw [if_pos hw]
        refine ⟨fun h => ⟨h, fun j t h1 h2 h3 => ?_⟩, fun h => h.1⟩
        have := hno j t h1 h2
        subst this
        rw [Nat.add_zero, hw] at h3
        cases h3
      · rw [if_neg hw, narrow_iff (hok.pl p) (hh s List.mem_cons_self)]
        refine ⟨fun h => ⟨h.1, fun j t h1 h2 h3 => ?_⟩, fun h => ⟨h.1, ?_⟩⟩
        · have := hno j t h1 h2
          subst this
          simp only [List.getElem?_cons_zero, Option.some.injEq] at h1
          subst h1
          simpa [fellF] using h.2
        · have := h.2 0 s rfl hp (by simpa using hw)
          simpa [fellF] using this
    · rw [effR, if_neg hp, effR_iff hok str w p x r (i + 1) (fell + (b.pl s.step.plate).takes) a hd.2 (fun t ht => hh t (List.mem_cons_of_mem _ ht))]
      have hf : ∀ j, fell + fellF b ((s.step.plate :: platesS r).take (j + 1)) = fell + (b.pl s.step.plate).takes + fellF b ((platesS r).take j) := fun j => by
        simp only [List.take_succ_cons, fellF, List.map_cons, List.sum_cons]
        omega
      refine and_congr_right fun _ => ⟨fun h j t h1 h2 h3 => ?_, fun h j t h1 h2 h3 => ?_⟩
      · cases j with
        | zero =>
          simp only [List.getElem?_cons_zero, Option.some.injEq] at h1
          subst h1
          exact absurd h2 hp
        | succ j =>
          rw [hf]
          exact h j t h1 h2 (by rw [← h3]; congr 1; omega)
      · have := h (j + 1) t h1 h2 (by rw [← h3]; congr 1; omega)
        rwa [hf] at this
end Go.Aw
end

section
set_option maxRecDepth 100000
namespace Go.Aw
open Go Go.Proofs.Try

def seen0 : Seen := ⟨⟨0, 0⟩, 0⟩

/-- Is all seen of a plate so, if it has so much rust? -/
def okQ (b : Bath) (str : Int) (w : Nat) (l : List Seen) (p x : Int) : Nat → Bool
  | 0 => true
  | i + 1 => if (l.getD i seen0).step.plate = p ∧ w.testBit i = false then decide (howP (b.pl p) x (weakF b ((platesS l).take i) str * (l.getD i seen0).step.hours) = (l.getD i seen0).how) else okQ b str w l p x i

theorem okQ_iff (b : Bath) (str : Int) (w : Nat) {l : List Seen} (hd : (platesS l).Nodup) (p x : Int) : ∀ i, i ≤ l.length →
    (okQ b str w l p x i = true ↔ ∀ j s, j < i → l[j]? = some s → s.step.plate = p → w.testBit j = false → howP (b.pl p) x (weakF b ((platesS l).take j) str * s.step.hours) = s.how)
  | 0, _ => by simp [okQ]
  | i + 1, hi => by
    have ih := okQ_iff b str w hd p x i (by omega)
    have hg : l[i]? = some (l.getD i seen0) := by rw [List.getD_eq_getElem?_getD, List.getElem?_eq_getElem (by omega)]; rfl
    have hpl : ∀ (j : Nat) (s : Seen), l[j]? = some s → (platesS l)[j]? = some s.step.plate := fun j s h => by simp [platesS, platesOf, h]
    rw [okQ]
    generalize l.getD i seen0 = t at hg
    by_cases hc : t.step.plate = p ∧ w.testBit i = false
    · rw [if_pos hc, decide_eq_true_eq]
      refine ⟨fun h j s h1 h2 h3 h4 => ?_, fun h => h i t (by omega) hg hc.1 hc.2⟩
      have hlt : i < (platesS l).length := by simp [platesS, platesOf]; omega
      have hij : i = j := (List.getElem?_inj hlt hd).1 (by rw [hpl i t hg, hpl j s h2, h3, hc.1])
      subst hij
      rw [hg] at h2
      cases h2
      exact h
    · rw [if_neg hc, ih]
      refine ⟨fun h j s h1 h2 h3 h4 => ?_, fun h j s h1 h2 h3 h4 => h j s (by omega) h2 h3 h4⟩
      by_cases hij : j = i
      · subst hij
        rw [hg] at h2
        cases h2
        exact absurd ⟨h3, h4⟩ hc
      · exact h j s (by omega) h2 h3 h4

/-- The least and the greatest. -/
def hullR (q : Int → Bool) (lo : Int) : Nat → Sp
  | 0 => ⟨601, -1⟩
  | k + 1 => if q (lo + k) = true then ⟨min (hullR q lo k).lo (lo + k), lo + k⟩ else hullR q lo k

theorem hull_spec (q : Int → Bool) (lo : Int) : ∀ k : Nat, lo + k ≤ 601 →
    (hullR q lo k = ⟨601, -1⟩ ∧ ∀ x, lo ≤ x → x < lo + k → q x = false) ∨
    (q (hullR q lo k).lo = true ∧ q (hullR q lo k).hi = true ∧ lo ≤ (hullR q lo k).lo ∧ (hullR q lo k).lo ≤ (hullR q lo k).hi ∧ (hullR q lo k).hi < lo + k ∧ ∀ x, lo ≤ x → x < lo + k → q x = true → (hullR q lo k).lo ≤ x ∧ x ≤ (hullR q lo k).hi)
  | 0, _ => .inl ⟨rfl, fun x h1 h2 => by omega⟩
  | k + 1, hk => by
    rw [hullR]
    by_cases hq : q (lo + k) = true
    · rw [if_pos hq]
      right
      rcases hull_spec q lo k (by omega) with ⟨e, h⟩ | ⟨h1, h2, h3, h4, h5, h6⟩
      · rw [e]
        simp only
        rw [show min 601 (lo + (k : Int)) = lo + k by omega]
        refine ⟨hq, hq, by omega, by omega, by omega, fun x a1 a2 a3 => ?_⟩
        by_cases hx : x < lo + k
        · rw [h x a1 hx] at a3; cases a3
        · omega
      · simp only
        rw [show min (hullR q lo k).lo (lo + (k : Int)) = (hullR q lo k).lo by omega]
        refine ⟨h1, hq, by omega, by omega, by omega, fun x a1 a2 a3 => ?_⟩
        by_cases hx : x < lo + k
        · have := h6 x a1 hx a3; omega
        · omega
    · rw [if_neg hq]
      have hq' : q (lo + k) = false := by simpa using hq
      rcases hull_spec q lo k (by omega) with ⟨e, h⟩ | ⟨h1, h2, h3, h4, h5, h6⟩
      · refine .inl ⟨e, fun x a1 a2 => ?_⟩
        by_cases hx : x < lo + k
        · exact h x a1 hx
        · rw [show x = lo + k by omega]; exact hq'
      · refine .inr ⟨h1, h2, h3, h4, by omega, fun x a1 a2 a3 => ?_⟩
        by_cases hx : x < lo + k
        · exact h6 x a1 hx a3
        · rw [show x = lo + k by omega, hq'] at a3; cases a3

theorem hull_eq {q : Int → Bool} {lo : Int} {k : Nat} (hk : lo + k ≤ 601) (e : Sp) (h : ∀ x, (e.lo ≤ x ∧ x ≤ e.hi) ↔ (lo ≤ x ∧ x < lo + k) ∧ q x = true) : hullR q lo k = if e.lo ≤ e.hi then e else ⟨601, -1⟩ := by
  rcases hull_spec q lo k hk with ⟨e1, h1⟩ | ⟨h1, h2, h3, h4, h5, h6⟩
  · rw [e1, if_neg]
    intro he
    have := (h e.lo).1 ⟨Int.le_refl _, he⟩
    rw [h1 e.lo this.1.1 this.1.2] at this
    cases this.2
  · have a1 := (h (hullR q lo k).lo).2 ⟨by omega, h1⟩
    have a2 := (h (hullR q lo k).hi).2 ⟨by omega, h2⟩
    have a3 := (h e.lo).1 (by omega)
    have a4 := (h e.hi).1 (by omega)
    have a5 := h6 e.lo a3.1.1 a3.1.2 a3.2
    have a6 := h6 e.hi a4.1.1 a4.1.2 a4.2
    rw [if_pos (by omega)]
    generalize hullR q lo k = s at *
    obtain ⟨s1, s2⟩ := s
    obtain ⟨e1, e2⟩ := e
    simp only at *
    congr 1 <;> omega

def spanQ (b : Bath) (str : Int) (w : Nat) (l : List Seen) (p : Int) : Sp := hullR (fun x => okQ b str w l p x l.length) (b.pl p).rust.lo (nR (b.pl p))

def rustsQ (b : Bath) (str : Int) (w : Nat) (l : List Seen) : Nat → Option (List Sp)
  | 0 => some []
  | p + 1 => (rustsQ b str w l p).bind fun o => if (spanQ b str w l p).hi < 0 then none else some (o ++ [spanQ b str w l p])

theorem spanQ_eq {b : Bath} (hok : b.Ok) {str : Int} (hs : 0 ≤ str) (w : Nat) {l : List Seen} (hd : (platesS l).Nodup) (hh : ∀ s ∈ l, 1 ≤ s.how ∧ s.how ≤ 3) (p : Int) :
    spanQ b str w l p = if (effR b str w p l 0 0 (b.pl p).rust).lo ≤ (effR b str w p l 0 0 (b.pl p).rust).hi then effR b str w p l 0 0 (b.pl p).rust else ⟨601, -1⟩ := by
  have hp := hok.pl p
  simp only [Plate.Ok] at hp
  have hn : (b.pl p).rust.lo + (nR (b.pl p) : Int) = (b.pl p).rust.hi + 1 := by simp only [nR]; omega
  refine hull_eq (by omega) _ fun x => ?_
  rw [effR_iff hok str w p x l 0 0 _ hd hh, okQ_iff b str w hd p x l.length (Nat.le_refl _), hn]
  refine and_congr (by omega) ⟨fun h j s h0 h1 h2 h3 => ?_, fun h j s h1 h2 h3 => ?_⟩
  · have := h j s h1 h2 (by simpa using h3)
    rwa [Int.zero_add, ← weak_aft hok _ _ hs] at this
  · have := h j s (by have := List.getElem?_eq_some_iff.1 h1; exact this.1) h1 h2 (by simpa using h3)
    rwa [Int.zero_add, ← weak_aft hok _ _ hs]

theorem rustsQ_eq {b : Bath} (hok : b.Ok) {str : Int} (hs : 0 ≤ str) (w : Nat) {l : List Seen} (hd : (platesS l).Nodup) (hh : ∀ s ∈ l, 1 ≤ s.how ∧ s.how ≤ 3) (hm : ∀ s ∈ l, 0 ≤ s.step.plate ∧ s.step.plate < b.plates.length) :
    rustsQ b str w l b.plates.length = rustsP ⟨b, l, w⟩ str := by
  have hr0 : ∀ p : Nat, p < b.plates.length → nowL b (b.plates.map Plate.rust) p = (b.pl p).rust := fun p hp => by
    simp [nowL, Bath.pl, List.getD_eq_getElem?_getD, List.getElem?_eq_getElem hp]
  have hsp := rustsR_spec b str w l 0 0 (b.plates.map Plate.rust) (by simp) hd hm (fun p hp => by
    rw [hr0 p hp]
    have := hok.pl p
    simp only [Plate.Ok] at this
    omega)
  have hq := fun p => spanQ_eq hok hs w hd hh p
  unfold rustsP
  simp only
  cases hR : rustsR b str w l 0 0 (b.plates.map Plate.rust) with
  | some r =>
    have h1 := hsp.1 r hR
    have hlen : r.length = b.plates.length := by rw [rustsR_len _ _ _ _ _ _ _ _ hR, List.length_map]
    have : ∀ p : Nat, p ≤ b.plates.length → rustsQ b str w l p = some (r.take p) := fun p => by
      induction p with
      | zero => intro _; rfl
      | succ p ih =>
        intro hp
        obtain ⟨k1, k2⟩ := h1 p (by omega)
        rw [hr0 p (by omega)] at k1
        have hsq : spanQ b str w l p = nowL b r p := by rw [hq, ← k1, if_pos k2]
        have hge : 0 ≤ (nowL b r p).hi := by
          have := (effR_iff hok str w p (nowL b r p).hi l 0 0 (b.pl p).rust hd hh).1 (by rw [← k1]; omega)
          have := hok.pl p
          simp only [Plate.Ok] at this
          omega
        rw [rustsQ, ih (by omega), Option.bind_some, hsq, if_neg (by omega), List.take_succ_eq_append_getElem (by omega)]
        simp [nowL, List.getD_eq_getElem?_getD, List.getElem?_eq_getElem (show p < r.length by omega)]
    rw [this _ (Nat.le_refl _), ← hlen, List.take_length]
  | none =>
    obtain ⟨p, hp, h1⟩ := hsp.2 hR
    rw [hr0 p hp] at h1
    have hsq : spanQ b str w l p = ⟨601, -1⟩ := by rw [hq, if_neg (by omega)]
    have : ∀ k : Nat, rustsQ b str w l (p + 1 + k) = none := fun k => by
      induction k with
      | zero =>
        rw [Nat.add_zero, rustsQ, hsq]
        cases rustsQ b str w l p <;> rfl
      | succ k ih => rw [← Nat.add_assoc, rustsQ, ih]; rfl
    have := this (b.plates.length - (p + 1))
    rwa [show p + 1 + (b.plates.length - (p + 1)) = b.plates.length by omega] at this
end Go.Aw
end

section
set_option maxRecDepth 100000
namespace Go.Aw
open Go Go.Proofs.Try

theorem c97 (l : List Seen) (hl : l.length ≤ 1000) : PC prog 97 [.d (.sl (l.map Seen.d))] (.d (.sl ((l.map Seen.step).map Step.d))) := by
  refine PC.run (fun k => k == 5) tt_ok (fn := f97) (rs := [.tmp 2]) rfl rfl rfl rfl rfl rfl rfl ?_
  simp only [go_sem]
  refine ALoop.by (S := Nat) (fun i => [(4, .d (.int .i64 i)), (3, .ref 0 i 0 i), (0, .d (.sl (l.map Seen.d)))]) (fun i => [.arr 2 false (((l.take i).map Seen.step).map Step.d)]) (fun i => l.length - i) (fun i => i ≤ l.length) 0 (by simp) (fun _ h => nomatch h) (Nat.zero_le _) ?_ ?_
  · exact ForgetTo.same' (by simp) (by simp [EWe, Env.look]) (by simp)
  rintro i hi hn
  refine AWP.run (fun k => k == 5) tt_ok (fun _ h => nomatch h) (by simp) rfl ?_
  simp only [go_sem]
  refine Br_split (fun hd => ?_) (fun hd => ?_) <;> simp only [go_sem, hd]
  · have hlt : i < l.length := by simpa using hd
    have hix : idx? (l.map Seen.d) (i : Int) = some (l[i]).d := by simp [idx?, List.getElem?_eq_getElem hlt]
    have hst : ((l.take (i + 1)).map Seen.step).map Step.d = ((l.take i).map Seen.step).map Step.d ++ [l[i].step.d] := by
      rw [List.take_add_one, List.getElem?_eq_getElem hlt]; simp only [List.map_append, Option.toList_some, List.map_cons, List.map_nil]
    have hln : (l.take i).length = i := by simp; omega
    have hi1 : i + 1 ≤ 4294967296 := by omega
    generalize l[i] = x at hix hst
    simp only [go_sem, hix, hln, hi1, Seen.d]
    refine ⟨i + 1, hlt, by omega, ?_⟩
    exact ForgetTo.same' (by simp) (by simp [EWe, Env.look, w64 (n := (i : Int) + 1) (by omega) (by omega)]) (by rw [hst]; simp [Step.d])
  · have hie : i = l.length := by simp at hd; omega
    subst hie
    rw [List.take_length]
    have e : List.take l.length (List.map (Step.d ∘ Seen.step) l) = (l.map Seen.step).map Step.d := by rw [List.take_of_length_le (by simp), List.map_map]
    simp only [go_sem, e]
    simp [List.map_map]
    exact List.take_of_length_le (by simp)

theorem c51 (b : Bath) (l : List Seen) (hb : b.plates.length ≤ 62) (hl : l.length ≤ 1000) : PC prog 51 [.d b.d, .d (.sl (l.map Seen.d))] (.d (.bool (!l.any badHow && stepsOk b.plates.length 0 (l.map Seen.step)))) := by
  refine PC.run (fun _ => false) tt_ok (fn := f51) (rs := [.tmp 4]) rfl rfl rfl rfl rfl rfl rfl ?_
  simp only [go_sem, Bath.d]
  refine ALoop.by (S := Nat) (fun i => [(5, .d (.int .i64 i)), (2, .ptr 0 0), (1, .d (.sl (l.map Seen.d)))]) (fun i => [bthB b]) (fun i => l.length - i) (fun i => i ≤ l.length ∧ (l.take i).any badHow = false) 0 (by simp) (fun _ h => nomatch h) ⟨Nat.zero_le _, rfl⟩ ?_ ?_
  · exact ForgetTo.same' (by simp) (by simp [EWe, Env.look]) (by simp [bthB])
  rintro i ⟨hi, hx⟩ hn
  refine AWP.run (fun _ => false) tt_ok (fun _ h => nomatch h) (by simp) rfl ?_
  simp only [go_sem, bthB]
  refine Br_split (fun hd => ?_) (fun hd => ?_) <;> simp only [go_sem, hd]
  · have hlt : i < l.length := by simpa using hd
    have hix : idx? (l.map Seen.d) (i : Int) = some (l[i]).d := by simp [idx?, List.getElem?_eq_getElem hlt]
    have hst : (l.take (i + 1)).any badHow = badHow l[i] := by
      rw [List.take_add_one, List.getElem?_eq_getElem hlt, List.any_append, hx]; simp
    have hmem : badHow l[i] = true → l.any badHow = true := fun h => List.any_eq_true.2 ⟨_, List.getElem_mem hlt, h⟩
    generalize l[i] = a at hix hst hmem
    simp only [go_sem, hix, Seen.d]
    refine (c34 a.how 1 3).call rfl rfl rfl ?_
    have hbh : badHow a = !(decide (a.how ≥ 1) && decide (a.how ≤ 3)) := by
      rw [Bool.eq_iff_iff]
      simp only [badHow, Bool.or_eq_true, decide_eq_true_eq, Bool.not_eq_true', Bool.and_eq_false_iff, decide_eq_false_iff_not]
      omega
    rw [hbh] at hst hmem
    generalize (decide (a.how ≥ 1) && decide (a.how ≤ 3)) = g at hst hmem
    simp only [go_sem, hd, hix, Seen.d]
    refine Br_split (fun g1 => ?_) (fun g1 => ?_) <;> simp only [go_sem, hd, g1, hix]
    · rw [hmem (by simpa using g1)]
      simp
    · refine ⟨i + 1, ⟨hlt, by rw [hst]; simpa using g1⟩, by omega, ?_⟩
      exact ForgetTo.same' (by simp) (by simp [EWe, Env.look, w64 (n := (i : Int) + 1) (by omega) (by omega)]) rfl
  · have hie : i = l.length := by simp at hd; omega
    subst hie
    rw [List.take_length] at hx
    refine ADrw.treeG (fun _ => false) tt_ok (by kernel_rfl) (fun k => if k = 0 then some .L else some .S) (.ones [0, 1, 2, 3, 4] .done) (Nat.zero_le _) (fun _ h => nomatch h) rfl rfl (by kernel_rfl) ?_
    simp only [go_sem]
    refine (c97 l hl).callS rfl rfl rfl rfl rfl rfl ?_
    simp only [go_sem]
    refine (c25 b (l.map Seen.step) hb (by simp; omega)).callS rfl rfl rfl rfl rfl rfl ?_
    simp only [go_sem, hx, Bool.not_false, Bool.true_and]

def qB (b : Bath) (str : Int) (w : Nat) (l : List Seen) : Heap := match rustsQ b str w l b.plates.length with
  | none => []
  | some r => [bthB b, .arr 2 false (r.map Sp.d)]

def qV (b : Bath) (str : Int) (w : Nat) (l : List Seen) : V := match rustsQ b str w l b.plates.length with
  | none => .tup [.slx (some true) [], .d (.bool false)]
  | some _ => .tup [.ref 1 b.plates.length 0 b.plates.length, .d (.bool true)]

theorem rustsQ_len {b : Bath} {str : Int} {w : Nat} {l : List Seen} : ∀ {p : Nat} {r : List Sp}, rustsQ b str w l p = some r → r.length = p
  | 0, r, h => by simp only [rustsQ, Option.some.injEq] at h; subst h; rfl
  | p + 1, r, h => by
    rw [rustsQ] at h
    cases e : rustsQ b str w l p with
    | none => rw [e] at h; cases h
    | some o =>
      rw [e, Option.bind_some] at h
      split at h
      · cases h
      · simp only [Option.some.injEq] at h
        subst h
        simp [rustsQ_len e]

theorem rustsQ_none {b : Bath} {str : Int} {w : Nat} {l : List Seen} {p : Nat} (h : rustsQ b str w l p = none) : ∀ k, rustsQ b str w l (p + k) = none
  | 0 => h
  | k + 1 => by rw [← Nat.add_assoc, rustsQ, rustsQ_none h k]; rfl

theorem r98 {b : Bath} (hok : b.Ok) {str : Int} (hs : 0 ≤ str ∧ str ≤ 40) (w : Nat) (but : List Int) (hbl : but.length ≤ 1000) (l : List Seen) (hl : l.length ≤ 1000) (hbw : ∀ i : Nat, i < l.length → decide ((i : Int) ∈ but) = w.testBit i)
    (hm : ∀ s ∈ l, (0 ≤ s.step.plate ∧ s.step.plate < b.plates.length) ∧ 1 ≤ s.step.hours ∧ s.step.hours ≤ 24) :
    PCr prog 98 [.d b.d, .d (.sl (l.map Seen.d)), .d (.sl (but.map (.int .i64))), .d (.int .i64 str)] (qB b str w l) (qV b str w l) := by
  refine PCr.of_body tt_ok (fn := f98) (rs := [.tmp 8, .tmp 9]) (qB b str w l).length rfl rfl rfl rfl rfl rfl ?_
  refine AWP.run (fun k => k == 17) tt_ok (fun _ h => nomatch h) (Nat.zero_le _) rfl ?_
  obtain ⟨s1, s2, s3, hb5, _⟩ := id hok
  have hpm : ∀ p ∈ platesS l, 0 ≤ p ∧ p < b.plates.length := fun p hp => by
    obtain ⟨s, hs, rfl⟩ := List.mem_map.1 hp
    obtain ⟨t, ht, rfl⟩ := List.mem_map.1 hs
    exact (hm t ht).1
  simp only [go_sem, Bath.d]
  refine (c97 l hl).call rfl rfl rfl ?_
  simp only [go_sem]
  refine (c32 (l.map Seen.step) (by simp; omega)).call rfl rfl rfl ?_
  simp only [go_sem]
  have hpsl : (platesS l).length = l.length := by simp [platesS, platesOf]
  have hr0 := fun p : Nat => show platesOf (l.map Seen.step) = platesS l from rfl
  rw [hr0 0]
  refine ALoop.by (S := Nat × List Sp) (fun s => [(12, .d (.int .i64 s.1)), (11, .d (.sl ((platesS l).map (.int .i64)))), (10, .ref 1 s.1 0 s.1), (4, .ptr 0 0), (3, .d (.int .i64 str)), (2, .d (.sl (but.map (.int .i64)))), (1, .d (.sl (l.map Seen.d)))])
    (fun s => [bthB b, .arr 2 false (s.2.map Sp.d)]) (fun s => b.plates.length - s.1) (fun s => s.1 ≤ b.plates.length ∧ rustsQ b str w l s.1 = some s.2) (0, []) (Nat.zero_le _) (fun _ h => nomatch h) ⟨Nat.zero_le _, rfl⟩ ?_ ?_
  · exact ForgetTo.same' (Nat.zero_le _) (by simp [EWe, Env.look]) (by simp [bthB])
  rintro ⟨p, o⟩ ⟨hp, ho⟩ hn
  simp only at hp ho
  refine AWP.run (fun k => k == 17) tt_ok (fun _ h => nomatch h) (Nat.zero_le _) rfl ?_
  have hol := rustsQ_len ho
  simp only [go_sem, bthB]
  refine Br_split (fun hd => ?_) (fun hd => ?_) <;> simp only [go_sem, hd]
  rotate_left
  · have hie : p = b.plates.length := by simp at hd; omega
    subst hie
    have e1 : qB b str w l = [bthB b, .arr 2 false (o.map Sp.d)] := by simp only [qB, ho]
    have e2 : qV b str w l = .tup [.ref 1 b.plates.length 0 b.plates.length, .d (.bool true)] := by simp only [qV, ho]
    rw [e1, e2]
    simp only [go_sem, bthB]
  have hlt : p < b.plates.length := by simpa using hd
  have hat := Bath.at (b := b) (p := (p : Int)) (by omega)
  have hpl := hok.pl p
  have hsq : spanQ b str w l p = hullR (fun x => okQ b str w l p x l.length) (b.pl p).rust.lo (nR (b.pl p)) := rfl
  have hnx : IntKind.i64.wrap ((p : Int) + 1) = ((p + 1 : Nat) : Int) := w64 (by omega) (by omega)
  have hsucc : rustsQ b str w l (p + 1) = if (spanQ b str w l p).hi < 0 then none else some (o ++ [spanQ b str w l p]) := by rw [rustsQ, ho]; rfl
  have hokq : ∀ x i, okQ b str w l p x (i + 1) = if (l.getD i seen0).step.plate = p ∧ w.testBit i = false then decide (howP (b.pl p) x (weakF b ((platesS l).take i) str * (l.getD i seen0).step.hours) = (l.getD i seen0).how) else okQ b str w l p x i := fun x i => rfl
  simp only [go_sem, hat, Plate.d]
  have hbd := hpl
  simp only [Plate.Ok] at hbd
  have hnr : (b.pl p).rust.lo + (nR (b.pl p) : Int) = (b.pl p).rust.hi + 1 := by simp only [nR]; omega
  refine ALoop.by (S := Nat) (fun k => [(14, .d (.int .i64 ((b.pl p).rust.lo + k))), (13, .ptr 2 0), (12, .d (.int .i64 p)), (11, .d (.sl ((platesS l).map (.int .i64)))), (10, .ref 1 p 0 p), (4, .ptr 0 0), (3, .d (.int .i64 str)), (2, .d (.sl (but.map (.int .i64)))), (1, .d (.sl (l.map Seen.d)))])
    (fun k => [bthB b, .arr 2 false (o.map Sp.d), .cells [.d (.int .i64 (hullR (fun x => okQ b str w l p x l.length) (b.pl p).rust.lo k).lo), .d (.int .i64 (hullR (fun x => okQ b str w l p x l.length) (b.pl p).rust.lo k).hi)]])
    (fun k => nR (b.pl p) - k) (fun k => k ≤ nR (b.pl p)) 0 (Nat.zero_le _) (fun _ h => nomatch h) (Nat.zero_le _) ?_ ?_
  · exact ForgetTo.same' (Nat.zero_le _) (by simp [EWe, Env.look]) (by simp [bthB, hullR])
  rintro k hk hn2
  refine AWP.run (fun k => k == 17) tt_ok (fun _ h => nomatch h) (Nat.zero_le _) rfl ?_
  simp only [go_sem, bthB, hat, Plate.d]
  refine Br_split (fun he => ?_) (fun he => ?_) <;> simp only [go_sem, he, hat, Plate.d]
  rotate_left
  · have hke : k = nR (b.pl p) := by simp only [decide_eq_false_iff_not] at he; omega
    subst hke
    rw [← hsq]
    generalize spanQ b str w l p = sp at hsucc
    simp only [go_sem]
    refine Br_split (fun hf => ?_) (fun hf => ?_) <;> simp only [go_sem, hf]
    · have hf' : sp.hi < 0 := by simpa using hf
      rw [if_pos hf'] at hsucc
      have hno : rustsQ b str w l b.plates.length = none := by
        have := rustsQ_none hsucc (b.plates.length - (p + 1))
        rwa [show p + 1 + (b.plates.length - (p + 1)) = b.plates.length by omega] at this
      have e1 : qB b str w l = [] := by simp only [qB, hno]
      have e2 : qV b str w l = .tup [.slx (some true) [], .d (.bool false)] := by simp only [qV, hno]
      rw [e1, e2]
      simp only [go_sem]
    · have hf' : ¬ sp.hi < 0 := by simpa using hf
      rw [if_neg hf'] at hsucc
      have hi1 : p ≤ 4294967295 := by omega
      simp only [go_sem, hnx, hol, hi1]
      refine ⟨(p + 1, o ++ [sp]), ⟨hlt, hsucc⟩, by simp only; omega, ?_⟩
      refine ForgetTo.drop (H0 := [_, _]) (Y := [_]) (Nat.zero_le _) ?_ (by simp [BBs, BB, VBs, VB]) ?_
      · simp [bthB, Sp.d]
      · simp [EWp, Env.look, pubV]
  have hkl : k < nR (b.pl p) := by simp only [decide_eq_true_eq] at he; omega
  have hhs : hullR (fun x => okQ b str w l p x l.length) (b.pl p).rust.lo (k + 1) = if okQ b str w l p ((b.pl p).rust.lo + k) l.length = true then ⟨min (hullR (fun x => okQ b str w l p x l.length) (b.pl p).rust.lo k).lo ((b.pl p).rust.lo + k), (b.pl p).rust.lo + k⟩ else hullR (fun x => okQ b str w l p x l.length) (b.pl p).rust.lo k := rfl
  generalize hullR (fun x => okQ b str w l p x l.length) (b.pl p).rust.lo k = h0 at hhs
  have hxn : IntKind.i64.wrap ((b.pl p).rust.lo + (k : Int) + 1) = (b.pl p).rust.lo + ((k + 1 : Nat) : Int) := by rw [w64 (by omega) (by omega)]; omega
  have hxb : 0 ≤ (b.pl p).rust.lo + (k : Int) ∧ (b.pl p).rust.lo + (k : Int) ≤ 600 := by omega
  generalize hx : (b.pl p).rust.lo + (k : Int) = x at hhs hxn hxb
  refine ALoop.by (S := Nat) (fun i => [(16, .d (.int .i64 i)), (15, .d (.bool (okQ b str w l p x i))), (14, .d (.int .i64 x)), (13, .ptr 2 0), (12, .d (.int .i64 p)), (11, .d (.sl ((platesS l).map (.int .i64)))), (10, .ref 1 p 0 p), (4, .ptr 0 0), (3, .d (.int .i64 str)), (2, .d (.sl (but.map (.int .i64)))), (1, .d (.sl (l.map Seen.d)))])
    (fun _ => [bthB b, .arr 2 false (o.map Sp.d), .cells [.d (.int .i64 h0.lo), .d (.int .i64 h0.hi)]])
    (fun i => l.length - i) (fun i => i ≤ l.length) 0 (Nat.zero_le _) (fun _ h => nomatch h) (Nat.zero_le _) ?_ ?_
  · exact ForgetTo.same' (Nat.zero_le _) (by simp [EWe, Env.look, okQ]) (by simp [bthB])
  rintro i hi hn3
  have hokx := hokq x i
  refine AWP.run (fun k => k == 17) tt_ok (fun _ h => nomatch h) (Nat.zero_le _) rfl ?_
  simp only [go_sem, bthB]
  refine Br_split (fun hg => ?_) (fun hg => ?_) <;> simp only [go_sem, hg]
  · have hlt2 : i < l.length := by simpa using hg
    have hgd : l.getD i seen0 = l[i] := by rw [List.getD_eq_getElem?_getD, List.getElem?_eq_getElem hlt2]; rfl
    have hix : idx? (l.map Seen.d) (i : Int) = some (l[i]).d := by simp [idx?, List.getElem?_eq_getElem hlt2]
    have hmi := hm _ (List.getElem_mem hlt2)
    have hin : IntKind.i64.wrap ((i : Int) + 1) = ((i + 1 : Nat) : Int) := w64 (by omega) (by omega)
    have hbi := hbw i hlt2
    rw [hgd] at hokx
    generalize l[i] = s at hix hmi hokx
    simp only [go_sem, hix, Seen.d]
    refine Br_split (fun h1 => ?_) (fun h1 => ?_) <;> simp only [go_sem, h1]
    · have h1' : s.step.plate = p := by simpa using h1
      refine (c35 but i (by omega)).call rfl rfl rfl ?_
      rw [hbi]
      simp only [go_sem]
      refine Br_split (fun h2 => ?_) (fun h2 => ?_) <;> simp only [go_sem, h2]
      · have h2' : w.testBit i = false := by simpa using h2
        rw [if_pos ⟨h1', h2'⟩] at hokx
        have hsz1 : sized 1 ((platesS l).map (D.int .i64)) = true := by simp [sized, dcells]
        have hlen1 : ((platesS l).map (D.int .i64)).length = l.length := by simp [hpsl]
        have c0 : 0 ≤ i := Nat.zero_le _
        have c1 : (0 : Int) ≤ (i : Int) := by omega
        have hle2 : i ≤ l.length := by omega
        have hwb := weakF_bnd hok ((platesS l).take i) str hs.1 hs.2
        refine ADrw.treeG (fun k => k == 17) tt_ok (by kernel_rfl) (fun k => if k = 1 ∨ k = 6 then some .L else some .S) (.ones [0, 1, 2, 3, 4, 5, 6, 7, 8, 9, 10, 11, 12, 13, 14, 15, 16, 17, 18, 19, 20, 21, 22, 23, 24, 25] .done) (Nat.zero_le _) (fun _ h => nomatch h) rfl rfl (by kernel_rfl) ?_
        simp only [go_sem, hat, Plate.d, hix, Seen.d, c1, c0, hle2, Int.toNat_natCast, hsz1, hlen1, if_true, Nat.zero_le, true_and, and_self, and_true, List.drop_zero]
        refine (c27 hok ((platesS l).take i) str (by simp; omega) hs (fun q hq => hpm q (List.mem_of_mem_take hq))).callS (by simp [Bath.d, dz, List.map_take]) rfl rfl rfl rfl rfl ?_
        simp only [go_sem, hat, Plate.d, hix, Seen.d]
        refine (c80 (b.pl p) x (weakF b ((platesS l).take i) str) s.step.hours hpl hxb hwb (by omega)).callS rfl rfl rfl rfl rfl rfl ?_
        simp only [go_sem, hix, Seen.d]
        refine ⟨i + 1, hlt2, by omega, ?_⟩
        exact ForgetTo.same' (Nat.zero_le _) (by simp [EWe, Env.look, hin, hokx]) rfl
      · rw [if_neg (by rintro ⟨_, h⟩; rw [h] at h2; simp at h2)] at hokx
        refine ⟨i + 1, hlt2, by omega, ?_⟩
        exact ForgetTo.same' (Nat.zero_le _) (by simp [EWe, Env.look, hin, hokx]) rfl
    · rw [if_neg (by rintro ⟨h, _⟩; simp [h] at h1)] at hokx
      refine ⟨i + 1, hlt2, by omega, ?_⟩
      exact ForgetTo.same' (Nat.zero_le _) (by simp [EWe, Env.look, hin, hokx]) rfl
  · have hie : i = l.length := by simp at hg; omega
    subst hie
    refine Br_split (fun h1 => ?_) (fun h1 => ?_) <;> simp only [go_sem, h1]
    · rw [if_pos h1] at hhs
      refine ⟨k + 1, hkl, by omega, ?_⟩
      exact ForgetTo.same' (Nat.zero_le _) (by simp [EWe, Env.look, hxn]) (by rw [hhs])
    · rw [if_neg (by rw [h1]; simp)] at hhs
      refine ⟨k + 1, hkl, by omega, ?_⟩
      exact ForgetTo.same' (Nat.zero_le _) (by simp [EWe, Env.look, hxn]) (by rw [hhs])

theorem c98 {b : Bath} (hok : b.Ok) {str : Int} (hs : 0 ≤ str ∧ str ≤ 40) (w : Nat) (but : List Int) (hbl : but.length ≤ 1000) (l : List Seen) (hl : l.length ≤ 1000) (hbw : ∀ i : Nat, i < l.length → decide ((i : Int) ∈ but) = w.testBit i)
    (hm : ∀ s ∈ l, (0 ≤ s.step.plate ∧ s.step.plate < b.plates.length) ∧ 1 ≤ s.step.hours ∧ s.step.hours ≤ 24) :
    PC prog 98 [.d b.d, .d (.sl (l.map Seen.d)), .d (.sl (but.map (.int .i64))), .d (.int .i64 str)] (match rustsQ b str w l b.plates.length with | none => .tup [.slx (some true) [], .d (.bool false)] | some r => .tup [.d (.sl (r.map Sp.d)), .d (.bool true)]) := by
  refine PC.of_r (r98 hok hs w but hbl l hl hbw hm) ?_
  cases h : rustsQ b str w l b.plates.length with
  | none => simp only [qB, qV, h]; rfl
  | some r =>
    have hl := rustsQ_len h
    have htk : (r.map Sp.d).take b.plates.length = r.map Sp.d := List.take_of_length_le (by simp [hl])
    simp [qB, qV, h, pubV, pubVs, hl, htk]
end Go.Aw
end

section
set_option maxRecDepth 100000
namespace Go.Aw
open Go Go.Proofs.Try

def stQ (b : Bath) (w : Nat) (l : List Seen) (i : Nat) : Option (Nat × Nat × List Sp) :=
  ((List.range i).filterMap fun j : Nat => (rustsQ b (b.str.lo + j) w l b.plates.length).map fun r => (j, r)).foldl wasS none

theorem stQ_none {b : Bath} {w : Nat} {l : List Seen} {i : Nat} (h : rustsQ b (b.str.lo + i) w l b.plates.length = none) : stQ b w l (i + 1) = stQ b w l i := by
  rw [stQ, List.range_succ, List.filterMap_append, List.foldl_append]
  simp [h, stQ]

theorem stQ_some {b : Bath} {w : Nat} {l : List Seen} {i : Nat} {r : List Sp} (h : rustsQ b (b.str.lo + i) w l b.plates.length = some r) : stQ b w l (i + 1) = wasS (stQ b w l i) (i, r) := by
  rw [stQ, List.range_succ, List.filterMap_append, List.foldl_append]
  simp [h, stQ]

theorem stQ_bnd {b : Bath} {w : Nat} {l : List Seen} : ∀ {i : Nat} {k h : Nat} {r : List Sp}, stQ b w l i = some (k, h, r) → r.length = b.plates.length ∧ k ≤ h ∧ h < i
  | 0, k, h, r, e => by simp [stQ] at e
  | i + 1, k, h, r, e => by
    cases hr : rustsQ b (b.str.lo + i) w l b.plates.length with
    | none =>
      rw [stQ_none hr] at e
      have := stQ_bnd e
      omega
    | some now =>
      rw [stQ_some hr] at e
      have hn := rustsQ_len hr
      cases hs : stQ b w l i with
      | none =>
        rw [hs] at e
        simp only [wasS, Option.some.injEq, Prod.mk.injEq] at e
        obtain ⟨rfl, rfl, rfl⟩ := e
        exact ⟨hn, Nat.le_refl _, by omega⟩
      | some p =>
        obtain ⟨k', h', r'⟩ := p
        rw [hs] at e
        simp only [wasS, Option.some.injEq, Prod.mk.injEq] at e
        obtain ⟨rfl, rfl, rfl⟩ := e
        obtain ⟨a1, a2, a3⟩ := stQ_bnd hs
        exact ⟨by simp [a1, hn], by omega, by omega⟩

def rowQ (b : Bath) : V := if b.plates.length = 0 then .d (.sl []) else .ref 3 b.plates.length 0 b.plates.length

def rowsQ (b : Bath) (r : List Sp) : Blk := if b.plates.length = 0 then .arr 2 true [] else .arr 2 false (r.map Sp.d)

def hQ (b : Bath) : Option (Nat × Nat × List Sp) → Heap
  | none => [bthB b, .cells [.d (.int .i64 0), .d (.int .i64 0)], .cells [.d (.int .i64 41), .d (.int .i64 (-1))], .arr 2 true []]
  | some (k, h, r) => [bthB b, .cells [.d (.int .i64 0), .d (.int .i64 0)], .cells [.d (.int .i64 (b.str.lo + k)), .d (.int .i64 (b.str.lo + h))], rowsQ b r]

def eQ (b : Bath) (l : List Seen) (but : List Int) (i : Nat) : Option (Nat × Nat × List Sp) → Env
  | none => [(12, .d (.int .i64 (b.str.lo + i))), (11, .d (.bool false)), (10, .slx (some false) []), (9, .ptr 2 0), (6, .ptr 1 0), (3, .ptr 0 0), (2, .d (.sl (but.map (.int .i64)))), (1, .d (.sl (l.map Seen.d)))]
  | some _ => [(12, .d (.int .i64 (b.str.lo + i))), (11, .d (.bool true)), (10, rowQ b), (9, .ptr 2 0), (6, .ptr 1 0), (3, .ptr 0 0), (2, .d (.sl (but.map (.int .i64)))), (1, .d (.sl (l.map Seen.d)))]

def wasQ (b : Bath) (w : Nat) (l : List Seen) : V := match stQ b w l (nS b) with
  | none => .tup [.d (Sp.mk 41 (-1)).d, .slx (some false) [], .d (.bool false)]
  | some (k, h, r) => .tup [.d (Sp.mk (b.str.lo + k) (b.str.lo + h)).d, .d (.sl (r.map Sp.d)), .d (.bool true)]

theorem c52 {b : Bath} (hok : b.Ok) (w : Nat) (but : List Int) (hbl : but.length ≤ 1000) (l : List Seen) (hl : l.length ≤ 1000) (hbw : ∀ i : Nat, i < l.length → decide ((i : Int) ∈ but) = w.testBit i)
    (hm : ∀ s ∈ l, (0 ≤ s.step.plate ∧ s.step.plate < b.plates.length) ∧ 1 ≤ s.step.hours ∧ s.step.hours ≤ 24) :
    PC prog 52 [.d b.d, .d (.sl (l.map Seen.d)), .d (.sl (but.map (.int .i64)))] (wasQ b w l) := by
  obtain ⟨s1, s2, s3, hb5, _⟩ := id hok
  have hns : b.str.lo + (nS b : Int) = b.str.hi + 1 := by simp only [nS]; omega
  refine PC.run (fun _ => false) tt_ok (fn := f52) (rs := [.cell 6 23, .tmp 7, .tmp 8]) rfl rfl rfl rfl rfl rfl rfl ?_
  simp only [go_sem, Bath.d]
  change AWP _ _ _ _ _ _ _ _
  refine AWP.newrow 2 (Nat.zero_le _) ?_
  refine ALoop.by (S := Nat) (fun i => eQ b l but i (stQ b w l i)) (fun i => hQ b (stQ b w l i)) (fun i => nS b - i) (fun i => i ≤ nS b) 0 (Nat.zero_le _) (fun _ h => nomatch h) (Nat.zero_le _) ?_ ?_
  · exact ForgetTo.same' (Nat.zero_le _) (by simp [EWe, Env.look, stQ, eQ]) (by simp [hQ, stQ, bthB])
  rintro i hi hn
  refine AWP.run (fun _ => false) tt_ok (fun _ h => nomatch h) (Nat.zero_le _) rfl ?_
  by_cases he : i = nS b
  · subst he
    have d1 : decide (b.str.lo + (nS b : Int) ≤ b.str.hi) = false := by simp; omega
    cases hst : stQ b w l (nS b) with
    | none =>
      have hwq : wasQ b w l = .tup [.d (Sp.mk 41 (-1)).d, .slx (some false) [], .d (.bool false)] := by simp only [wasQ, hst]
      rw [hwq]
      simp only [go_sem, hQ, eQ, bthB, d1, Sp.d]
    | some p =>
      obtain ⟨k, h, r⟩ := p
      have hwq : wasQ b w l = .tup [.d (Sp.mk (b.str.lo + k) (b.str.lo + h)).d, .d (.sl (r.map Sp.d)), .d (.bool true)] := by simp only [wasQ, hst]
      obtain ⟨a1, a2, a3⟩ := stQ_bnd hst
      rw [hwq]
      by_cases hn0 : b.plates.length = 0
      · have hr : r = [] := List.length_eq_zero_iff.1 (by omega)
        subst hr
        simp only [go_sem, hQ, eQ, rowQ, rowsQ, if_pos hn0, bthB, d1, Sp.d]
      · have htk : (r.map Sp.d).take b.plates.length = r.map Sp.d := List.take_of_length_le (by simp [a1])
        simp only [go_sem, hQ, eQ, rowQ, rowsQ, if_neg hn0, bthB, d1, Sp.d, a1, htk, if_true]
  have hlt : i < nS b := by omega
  have d1 : decide (b.str.lo + (i : Int) ≤ b.str.hi) = true := by simp; omega
  have hnx : IntKind.i64.wrap (b.str.lo + (i : Int) + 1) = b.str.lo + ((i + 1 : Nat) : Int) := by rw [w64 (by omega) (by omega)]; omega
  have hnp : ∀ p : Nat, p < 10 → IntKind.i64.wrap ((p : Int) + 1) = ((p + 1 : Nat) : Int) := fun p hp => w64 (by omega) (by omega)
  have hstr : 0 ≤ b.str.lo + (i : Int) ∧ b.str.lo + (i : Int) ≤ 40 := by omega
  have hc := c98 hok hstr w but hbl l hl hbw hm
  have hr98 := r98 hok hstr w but hbl l hl hbw hm
  cases hR : rustsQ b (b.str.lo + i) w l b.plates.length with
  | none =>
    have hnxt := stQ_none hR
    rw [hR] at hc
    simp only at hc
    cases hst : stQ b w l i with
    | none =>
      rw [hst] at hnxt
      simp only [go_sem, hQ, eQ, bthB, d1]
      refine hc.call rfl rfl rfl ?_
      simp only [go_sem, hnx]
      refine ⟨i + 1, hlt, by omega, ?_⟩
      rw [hnxt]
      exact ForgetTo.same' (Nat.zero_le _) (by simp [EWe, Env.look, eQ]) (by simp [hQ, bthB])
    | some p =>
      obtain ⟨k, h, r⟩ := p
      rw [hst] at hnxt
      simp only [go_sem, hQ, eQ, bthB, d1]
      refine hc.call rfl rfl rfl ?_
      simp only [go_sem, hnx]
      refine ⟨i + 1, hlt, by omega, ?_⟩
      rw [hnxt]
      exact ForgetTo.same' (Nat.zero_le _) (by simp [EWe, Env.look, eQ]) (by simp [hQ, bthB])
  | some now =>
    have hnxt := stQ_some hR
    have hnl := rustsQ_len hR
    rw [hR] at hc
    simp only at hc
    by_cases hn0 : b.plates.length = 0
    · have hnow : now = [] := List.length_eq_zero_iff.1 (by omega)
      subst hnow
      have hrq : ∀ r, rowsQ b r = .arr 2 true [] := fun r => by simp only [rowsQ, if_pos hn0]
      have hrw : rowQ b = .d (.sl []) := by simp only [rowQ, if_pos hn0]
      cases hst : stQ b w l i with
      | none =>
        rw [hst] at hnxt
        have m1 : min 41 (b.str.lo + (i : Int)) = b.str.lo + i := by omega
        simp only [go_sem, hQ, eQ, bthB, d1]
        refine hc.call rfl rfl rfl ?_
        simp only [go_sem, m1, List.map_nil, List.length_nil]
        refine ALoop.by (S := Nat) (fun p => [(15, .d (.int .i64 p)), (13, .d (.sl [])), (12, .d (.int .i64 (b.str.lo + i))), (11, .d (.bool true)), (10, .d (.sl [])), (9, .ptr 2 0), (6, .ptr 1 0), (3, .ptr 0 0), (2, .d (.sl (but.map (.int .i64)))), (1, .d (.sl (l.map Seen.d)))])
          (fun _ => hQ b (some (i, i, []))) (fun p => 0) (fun p => True) 0 (Nat.zero_le _) (fun _ h => nomatch h) trivial ?_ ?_
        · exact ForgetTo.same' (Nat.zero_le _) (by simp [EWe, Env.look]) (by simp [hQ, bthB, hrq])
        rintro p hp hn2
        have hd : decide ((p : Int) < 0) = false := by simp
        refine AWP.run (fun _ => false) tt_ok (fun _ h => nomatch h) (Nat.zero_le _) rfl ?_
        simp only [go_sem, List.length_nil, hd, hnx, Int.ofNat_zero, hQ, bthB]
        refine ⟨i + 1, hlt, by omega, ?_⟩
        rw [hnxt]
        exact ForgetTo.same' (Nat.zero_le _) (by simp [EWe, Env.look, eQ, wasS, hrw]) (by simp [hQ, bthB, wasS, hrq])
      | some q =>
        obtain ⟨k, h, r⟩ := q
        rw [hst] at hnxt
        obtain ⟨a1, a2, a3⟩ := stQ_bnd hst
        have hr : r = [] := List.length_eq_zero_iff.1 (by omega)
        subst hr
        have m1 : min (b.str.lo + (k : Int)) (b.str.lo + (i : Int)) = b.str.lo + k := by omega
        simp only [go_sem, hQ, eQ, bthB, d1]
        refine hc.call rfl rfl rfl ?_
        simp only [go_sem, m1, List.map_nil, List.length_nil]
        refine ALoop.by (S := Nat) (fun p => [(15, .d (.int .i64 p)), (13, .d (.sl [])), (12, .d (.int .i64 (b.str.lo + i))), (11, .d (.bool true)), (10, .d (.sl [])), (9, .ptr 2 0), (6, .ptr 1 0), (3, .ptr 0 0), (2, .d (.sl (but.map (.int .i64)))), (1, .d (.sl (l.map Seen.d)))])
          (fun _ => hQ b (some (k, i, []))) (fun p => 0) (fun p => True) 0 (Nat.zero_le _) (fun _ h => nomatch h) trivial ?_ ?_
        · exact ForgetTo.same' (Nat.zero_le _) (by simp [EWe, Env.look, hrw]) (by simp [hQ, bthB, hrq])
        rintro p hp hn2
        have hd : decide ((p : Int) < 0) = false := by simp
        refine AWP.run (fun _ => false) tt_ok (fun _ h => nomatch h) (Nat.zero_le _) rfl ?_
        simp only [go_sem, List.length_nil, hd, hnx, Int.ofNat_zero, hQ, bthB]
        refine ⟨i + 1, hlt, by omega, ?_⟩
        rw [hnxt]
        exact ForgetTo.same' (Nat.zero_le _) (by simp [EWe, Env.look, eQ, wasS, hrw]) (by simp [hQ, bthB, wasS, hrq])
    · have hrq : ∀ r, rowsQ b r = .arr 2 false (r.map Sp.d) := fun r => by simp only [rowsQ, if_neg hn0]
      have hrw : rowQ b = .ref 3 b.plates.length 0 b.plates.length := by simp only [rowQ, if_neg hn0]
      cases hst : stQ b w l i with
      | none =>
        rw [hst] at hnxt
        have m1 : min 41 (b.str.lo + (i : Int)) = b.str.lo + i := by omega
        have hB : qB b (b.str.lo + i) w l = [bthB b] ++ [.arr 2 false (now.map Sp.d)] := by simp only [qB, hR]; rfl
        have hV : qV b (b.str.lo + i) w l = .tup [.ref 1 b.plates.length 0 b.plates.length, .d (.bool true)] := by simp only [qV, hR]
        rw [hB, hV] at hr98
        simp only [go_sem, hQ, eQ, bthB, d1]
        refine PCr.into (R := 3) hr98 rfl (by intro e; apply hn0; rw [← hnl]; simpa using e) rfl rfl rfl ?_
        simp only [go_sem, m1, hnl, List.length_map]
        refine ALoop.by (S := Nat) (fun p => [(15, .d (.int .i64 p)), (13, .ref 3 b.plates.length 0 b.plates.length), (12, .d (.int .i64 (b.str.lo + i))), (11, .d (.bool true)), (10, .ref 3 b.plates.length 0 b.plates.length), (9, .ptr 2 0), (6, .ptr 1 0), (3, .ptr 0 0), (2, .d (.sl (but.map (.int .i64)))), (1, .d (.sl (l.map Seen.d)))])
          (fun _ => hQ b (some (i, i, now))) (fun p => b.plates.length - p) (fun p => p ≤ b.plates.length) 0 (Nat.zero_le _) (fun _ h => nomatch h) (Nat.zero_le _) ?_ ?_
        · exact ForgetTo.same' (Nat.zero_le _) (by simp [EWe, Env.look]) (by simp [hQ, bthB, hrq])
        rintro p hp hn2
        refine AWP.run (fun _ => false) tt_ok (fun _ h => nomatch h) (Nat.zero_le _) rfl ?_
        simp only [go_sem, hQ, bthB, hrq, List.length_map, hnl]
        refine Br_split (fun hd => ?_) (fun hd => ?_) <;> simp only [go_sem, hd]
        · have hpl : p < b.plates.length := by simpa using hd
          have hge : (now.map Sp.d)[p]? = some (now[p]).d := by rw [List.getElem?_map, List.getElem?_eq_getElem (by omega)]; rfl
          have hse : (now.map Sp.d).set p (now[p]).d = now.map Sp.d := by
            rw [← List.map_set]; congr 1; exact List.set_getElem_self _
          generalize now[p] = a at hge hse
          have c1 : (0 : Int) ≤ (p : Int) := by omega
          have c2 : (p : Int) < (b.plates.length : Int) := by omega
          have hse' : (now.map Sp.d).set p (.agg [.int .i64 a.lo, .int .i64 a.hi]) = now.map Sp.d := hse
          have m2 : min a.lo a.lo = a.lo := by omega
          have m3 : max a.hi a.hi = a.hi := by omega
          refine ADrw.treeG (fun _ => false) tt_ok (by kernel_rfl) (fun k => if k = 4 ∨ k = 6 ∨ k = 9 ∨ k = 11 ∨ k = 15 ∨ k = 17 ∨ k = 20 ∨ k = 22 ∨ k = 25 then some .L else if k = 26 then some .W else some .S) (.ones [0, 1, 2, 3, 4, 5, 6, 7, 8, 9, 10, 11, 12, 13, 14, 15, 16, 17, 18, 19, 20, 21, 22, 23, 24, 25, 26] .done) (Nat.zero_le _) (fun _ h => nomatch h) rfl rfl (by kernel_rfl) ?_
          simp only [go_sem, hrq, hge, List.length_map, hnl, c1, c2, Int.toNat_natCast, Sp.d, m2, m3, hse', hnp p (by omega)]
          refine ⟨p + 1, hpl, by omega, ?_⟩
          exact ForgetTo.same' (Nat.zero_le _) (by simp [EWe, Env.look]) (by simp [hQ, bthB, hrq])
        · refine ⟨i + 1, hlt, by omega, ?_⟩
          rw [hnxt]
          simp only [hnx]
          exact ForgetTo.same' (Nat.zero_le _) (by simp [EWe, Env.look, eQ, wasS, hrw]) (by simp [hQ, bthB, wasS, hrq])
      | some q =>
        obtain ⟨k, h, r⟩ := q
        rw [hst] at hnxt
        obtain ⟨a1, a2, a3⟩ := stQ_bnd hst
        have hlr : now.length = r.length := by omega
        have m1 : min (b.str.lo + (k : Int)) (b.str.lo + (i : Int)) = b.str.lo + k := by omega
        simp only [go_sem, hQ, eQ, bthB, d1]
        refine hc.call rfl rfl rfl ?_
        simp only [go_sem, m1]
        refine ALoop.by (S := Nat) (fun p => [(15, .d (.int .i64 p)), (13, .d (.sl (now.map Sp.d))), (12, .d (.int .i64 (b.str.lo + i))), (11, .d (.bool true)), (10, .ref 3 b.plates.length 0 b.plates.length), (9, .ptr 2 0), (6, .ptr 1 0), (3, .ptr 0 0), (2, .d (.sl (but.map (.int .i64)))), (1, .d (.sl (l.map Seen.d)))])
          (fun p => hQ b (some (k, i, mixR r now p))) (fun p => b.plates.length - p) (fun p => p ≤ b.plates.length) 0 (Nat.zero_le _) (fun _ h => nomatch h) (Nat.zero_le _) ?_ ?_
        · exact ForgetTo.same' (Nat.zero_le _) (by simp [EWe, Env.look, hrw]) (by simp [hQ, bthB, hrq, mixR_zero])
        rintro p hp hn2
        refine AWP.run (fun _ => false) tt_ok (fun _ h => nomatch h) (Nat.zero_le _) rfl ?_
        simp only [go_sem, hQ, bthB, hnl, List.length_map]
        refine Br_split (fun hd => ?_) (fun hd => ?_) <;> simp only [go_sem, hd]
        · have hpl : p < b.plates.length := by simpa using hd
          have hge : idx? (now.map Sp.d) (p : Int) = some (now[p]).d := by rw [idx_nat, List.getElem?_map, List.getElem?_eq_getElem (by omega)]; rfl
          have hgf : ((mixR r now p).map Sp.d)[p]? = some (r[p]).d := by rw [List.getElem?_map, mixR_get hlr (by omega)]; rfl
          have hml : (mixR r now p).length = b.plates.length := by rw [mixR_len hlr (by omega)]; exact a1
          have hse : ((mixR r now p).map Sp.d).set p (both r[p] now[p]).d = (mixR r now (p + 1)).map Sp.d := by rw [← List.map_set, mixR_set hlr (by omega)]
          generalize now[p] = a at hge hse
          generalize r[p] = a2 at hgf hse
          have c1 : (0 : Int) ≤ (p : Int) := by omega
          have c2 : (p : Int) < (b.plates.length : Int) := by omega
          have hse' : ((mixR r now p).map Sp.d).set p (.agg [.int .i64 (min a2.lo a.lo), .int .i64 (max a2.hi a.hi)]) = (mixR r now (p + 1)).map Sp.d := hse
          refine ADrw.treeG (fun _ => false) tt_ok (by kernel_rfl) (fun k => if k = 4 ∨ k = 6 ∨ k = 9 ∨ k = 11 ∨ k = 15 ∨ k = 17 ∨ k = 20 ∨ k = 22 ∨ k = 25 then some .L else if k = 26 then some .W else some .S) (.ones [0, 1, 2, 3, 4, 5, 6, 7, 8, 9, 10, 11, 12, 13, 14, 15, 16, 17, 18, 19, 20, 21, 22, 23, 24, 25, 26] .done) (Nat.zero_le _) (fun _ h => nomatch h) rfl rfl (by kernel_rfl) ?_
          simp only [go_sem, hrq, hge, hgf, List.length_map, hml, c1, c2, Int.toNat_natCast, Sp.d, hse', hnp p (by omega)]
          refine ⟨p + 1, hpl, by omega, ?_⟩
          exact ForgetTo.same' (Nat.zero_le _) (by simp [EWe, Env.look]) (by simp [hQ, bthB, hrq])
        · have hpe : p = b.plates.length := by simp at hd; omega
          have hme : mixR r now p = List.zipWith both r now := by rw [hpe, ← a1, mixR_end hlr]
          rw [hme]
          refine ⟨i + 1, hlt, by omega, ?_⟩
          rw [hnxt]
          simp only [hnx]
          exact ForgetTo.same' (Nat.zero_le _) (by simp [EWe, Env.look, eQ, wasS, hrw]) (by simp [hQ, bthB, wasS, hrq])
end Go.Aw
end

section
set_option maxRecDepth 100000
namespace Go.Aw
open Go Go.Proofs.Try

def bitsL (set : Nat) : List Nat := (List.range 5).filter fun i => set.testBit i

def lessL : List Nat → List Nat → Bool
  | x :: r, y :: s => if x ≠ y then decide (x < y) else lessL r s
  | _, _ => false

def lessN (a b : List Nat) : Bool := if a.length ≠ b.length then decide (a.length < b.length) else lessL a b

theorem lessL_trans : ∀ {a b c : List Nat}, lessL a b = true → lessL b c = true → a.length = b.length → b.length = c.length → lessL a c = true
  | [], b, c, h, _, _, _ => by simp [lessL] at h
  | x :: r, [], c, h, _, _, _ => by simp [lessL] at h
  | x :: r, y :: s, [], _, h, _, _ => by simp [lessL] at h
  | x :: r, y :: s, z :: t, h1, h2, h3, h4 => by
    simp only [lessL] at h1 h2 ⊢
    simp only [List.length_cons] at h3 h4
    by_cases e1 : x = y
    · subst e1
      simp only [ne_eq, not_true_eq_false, if_false] at h1
      by_cases e2 : x = z
      · subst e2
        simp only [ne_eq, not_true_eq_false, if_false] at h2 ⊢
        exact lessL_trans h1 h2 (by omega) (by omega)
      · simp only [ne_eq, e2, not_false_eq_true, if_true] at h2 ⊢
        exact h2
    · simp only [ne_eq, e1, not_false_eq_true, if_true, decide_eq_true_eq] at h1
      by_cases e2 : y = z
      · subst e2
        simp only [ne_eq, e1, not_false_eq_true, if_true, decide_eq_true_eq]
        exact h1
      · simp only [ne_eq, e2, not_false_eq_true, if_true, decide_eq_true_eq] at h2
        rw [if_pos (show x ≠ z by omega)]
        exact decide_eq_true (by omega)

theorem lessN_trans {a b c : List Nat} (h1 : lessN a b = true) (h2 : lessN b c = true) : lessN a c = true := by
  unfold lessN at *
  by_cases e1 : a.length = b.length
  · by_cases e2 : b.length = c.length
    · rw [if_neg (by omega)] at h1 h2
      rw [if_neg (by omega)]
      exact lessL_trans h1 h2 e1 e2
    · rw [if_pos e2, decide_eq_true_eq] at h2
      rw [if_pos (by omega), decide_eq_true_eq]
      omega
  · rw [if_pos e1, decide_eq_true_eq] at h1
    by_cases e2 : b.length = c.length
    · rw [if_pos (by omega), decide_eq_true_eq]; omega
    · rw [if_pos e2, decide_eq_true_eq] at h2
      rw [if_pos (by omega), decide_eq_true_eq]
      omega

theorem lessL_irr : ∀ a : List Nat, lessL a a = false
  | [] => rfl
  | x :: r => by simp [lessL, lessL_irr r]

theorem lessN_irr (a : List Nat) : lessN a a = false := by simp [lessN, lessL_irr]

def wrongStep (ok : Nat → Bool) (s : Bool × List Nat) (set : Nat) : Bool × List Nat :=
  if s.1 = true ∧ lessN (bitsL set) s.2 = false then s else if ok set = true then (true, bitsL set) else s

def wrongR (ok : Nat → Bool) (k : Nat) : Bool × List Nat := (List.range k).foldl (wrongStep ok) (false, [])

theorem wrongR_succ (ok : Nat → Bool) (k : Nat) : wrongR ok (k + 1) = wrongStep ok (wrongR ok k) k := by
  rw [wrongR, List.range_succ, List.foldl_append]; rfl

theorem wrongR_spec (ok : Nat → Bool) : ∀ k, (wrongR ok k = (false, []) ∧ ∀ x, x < k → ok x = false) ∨ ((wrongR ok k).1 = true ∧ (∃ x, x < k ∧ ok x = true ∧ (wrongR ok k).2 = bitsL x) ∧ ∀ y, y < k → ok y = true → lessN (bitsL y) (wrongR ok k).2 = false)
  | 0 => .inl ⟨rfl, fun x h => absurd h (Nat.not_lt_zero x)⟩
  | k + 1 => by
    rw [wrongR_succ]
    rcases wrongR_spec ok k with ⟨e, h⟩ | ⟨h1, ⟨x, hx, hox, he⟩, h3⟩
    · rw [e]
      by_cases ho : ok k = true
      · right
        rw [wrongStep, if_neg (by simp), if_pos ho]
        refine ⟨rfl, ⟨k, by omega, ho, rfl⟩, fun y hy hoy => ?_⟩
        by_cases hyk : y = k
        · subst hyk; exact lessN_irr _
        · rw [h y (by omega)] at hoy; cases hoy
      · left
        rw [wrongStep, if_neg (by simp), if_neg ho]
        refine ⟨rfl, fun x hx => ?_⟩
        by_cases hyk : x = k
        · subst hyk; simpa using ho
        · exact h x (by omega)
    · right
      generalize wrongR ok k = s at *
      by_cases hl : lessN (bitsL k) s.2 = false
      · rw [wrongStep, if_pos ⟨h1, hl⟩]
        refine ⟨h1, ⟨x, by omega, hox, he⟩, fun y hy hoy => ?_⟩
        by_cases hyk : y = k
        · subst hyk; exact hl
        · exact h3 y (by omega) hoy
      · rw [wrongStep, if_neg (fun h => hl h.2)]
        by_cases ho : ok k = true
        · rw [if_pos ho]
          refine ⟨rfl, ⟨k, by omega, ho, rfl⟩, fun y hy hoy => ?_⟩
          by_cases hyk : y = k
          · subst hyk; exact lessN_irr _
          · have := h3 y (by omega) hoy
            cases hlt : lessN (bitsL y) (bitsL k) with
            | false => rfl
            | true => rw [lessN_trans hlt (by simpa using hl)] at this; cases this
        · rw [if_neg ho]
          refine ⟨h1, ⟨x, by omega, hox, he⟩, fun y hy hoy => ?_⟩
          by_cases hyk : y = k
          · subst hyk; exact absurd hoy ho
          · exact h3 y (by omega) hoy

def allSets (n : Nat) : List (List Nat × Nat) := (List.range (n + 1)).flatMap (setsP n)

theorem sets_facts : ∀ n, n < 6 → ((allSets n).all fun p => decide (p.1 = bitsL p.2) && decide (p.2 < 2 ^ n)) = true ∧ ((List.range (2 ^ n)).all fun s => (allSets n).any fun p => p.2 == s) = true ∧ (allSets n).Pairwise (fun p q => lessN p.1 q.1 = true) := by
  decide +kernel

theorem wrong_eq (ok : Nat → Bool) {n : Nat} (hn : n ≤ 5) : wrongR ok (2 ^ n) = match (allSets n).find? fun p => ok p.2 with | none => (false, []) | some p => (true, p.1) := by
  obtain ⟨f1, f2, f3⟩ := sets_facts n (by omega)
  have g1 : ∀ p ∈ allSets n, p.1 = bitsL p.2 ∧ p.2 < 2 ^ n := fun p hp => by
    have := List.all_eq_true.1 f1 p hp
    simpa using this
  have g2 : ∀ s, s < 2 ^ n → ∃ p ∈ allSets n, p.2 = s := fun s hs => by
    have := List.all_eq_true.1 f2 s (List.mem_range.2 hs)
    obtain ⟨p, hp, e⟩ := List.any_eq_true.1 this
    exact ⟨p, hp, by simpa using e⟩
  rcases wrongR_spec ok (2 ^ n) with ⟨e, h⟩ | ⟨h1, ⟨x, hx, hox, he⟩, h3⟩
  · have hno : (allSets n).find? (fun p => ok p.2) = none := List.find?_eq_none.2 fun p hp => by
      rw [h p.2 (g1 p hp).2]; simp
    rw [hno, e]
  · obtain ⟨q, hq, hqx⟩ := g2 x hx
    cases hf : (allSets n).find? (fun p => ok p.2) with
    | none =>
      have := List.find?_eq_none.1 hf q hq
      rw [hqx] at this
      exact absurd hox this
    | some p =>
      obtain ⟨hp1, l1, l2, hL, hbef⟩ := List.find?_eq_some_iff_append.1 hf
      have hpm : p ∈ allSets n := by rw [hL]; simp
      have hmin := h3 p.2 (g1 p hpm).2 hp1
      rw [← (g1 p hpm).1] at hmin
      have hm : (wrongR ok (2 ^ n)).2 = q.1 := by rw [he, (g1 q hq).1, hqx]
      have hpq : q = p := by
        rw [hL] at hq f3
        rcases List.mem_append.1 hq with hq | hq
        · have := hbef q hq
          rw [hqx, hox] at this
          cases this
        · rcases List.mem_cons.1 hq with hq | hq
          · exact hq
          · have := (List.pairwise_cons.1 (List.pairwise_append.1 f3).2.1).1 q hq
            rw [hm, this] at hmin
            cases hmin
      have e1 : wrongR ok (2 ^ n) = ((wrongR ok (2 ^ n)).1, (wrongR ok (2 ^ n)).2) := rfl
      rw [e1, h1, hm, hpq]

theorem natsD_ints (l : List Nat) : natsD l = (l.map fun n : Nat => (n : Int)).map (.int .i64) := by simp [natsD]

theorem bitsL_has {set i : Nat} (hi : i < 5) : decide ((i : Int) ∈ (bitsL set).map fun n : Nat => (n : Int)) = set.testBit i := by
  rw [Bool.eq_iff_iff, decide_eq_true_eq]
  simp only [bitsL, List.mem_map, List.mem_filter, List.mem_range]
  constructor
  · rintro ⟨a, ⟨_, h⟩, e⟩
    rwa [show i = a by omega]
  · intro h
    exact ⟨i, ⟨hi, h⟩, rfl⟩
end Go.Aw
end

section
set_option maxRecDepth 100000
namespace Go.Aw
open Go Go.Proofs.Try

theorem wu64 {n : Int} (h0 : 0 ≤ n) (h1 : n < 18446744073709551616) : IntKind.u64.wrap n = n := by
  simp [IntKind.wrap, IntKind.bits, IntKind.signed]
  omega

theorem bits_end : ∀ s, s < 32 → ∀ i, i < 6 → s >>> i = 0 → (List.range i).filter (fun j => s.testBit j) = bitsL s := by
  decide +kernel

theorem c88 (set : Nat) (hs : set < 32) : PC prog 88 [.d (.int .i64 set)] (.d (.sl (natsD (bitsL set)))) := by
  refine PC.run (fun k => k == 5) tt_ok (fn := f88) (rs := [.tmp 2]) rfl rfl rfl rfl rfl rfl rfl ?_
  simp only [go_sem]
  refine ALoop.by (S := Nat) (fun i => [(4, .d (.int .i64 i)), (3, .ref 0 ((List.range i).filter fun j => set.testBit j).length 0 ((List.range i).filter fun j => set.testBit j).length), (0, .d (.int .i64 set))]) (fun i => [.arr 1 false (natsD ((List.range i).filter fun j => set.testBit j))]) (fun i => 5 - i) (fun i => i ≤ 5) 0 (by simp) (fun _ h => nomatch h) (Nat.zero_le _) ?_ ?_
  · exact ForgetTo.same' (by simp) (by simp [EWe, Env.look]) (by simp [natsD])
  rintro i hi hn
  refine AWP.run (fun k => k == 5) tt_ok (fun _ h => nomatch h) (by simp) rfl ?_
  have hu : IntKind.u64.wrap (i : Int) = i := wu64 (by omega) (by omega)
  have hshr := shrN set (p := i) (by omega)
  have hand : andI .i64 ((set >>> i : Nat) : Int) 1 = ((set >>> i &&& 1 : Nat) : Int) := and1N (shr_lt (by omega))
  have hbit := bitN set i
  have hst : (List.range (i + 1)).filter (fun j => set.testBit j) = (List.range i).filter (fun j => set.testBit j) ++ (if set.testBit i = true then [i] else []) := by
    rw [List.range_succ, List.filter_append]
    congr 1
    simp [List.filter_cons]
  have hlen : ((List.range i).filter (fun j => set.testBit j)).length ≤ 5 := by
    have := List.length_filter_le (fun j => set.testBit j) (List.range i)
    simp at this
    omega
  have hz := bits_end set hs i (by omega)
  have hi1 : ((List.range i).filter (fun j => set.testBit j)).length + 1 ≤ 4294967296 := by omega
  have h5 : i = 5 → set >>> i = 0 := fun e => by subst e; rw [Nat.shiftRight_eq_div_pow]; omega
  have hnx : IntKind.i64.wrap ((i : Int) + 1) = ((i + 1 : Nat) : Int) := w64 (by omega) (by omega)
  generalize (List.range i).filter (fun j => set.testBit j) = o at *
  simp only [go_sem, hu, hshr]
  refine Br_split (fun hd => ?_) (fun hd => ?_) <;> simp only [go_sem, hd]
  · have hd' : 0 < set >>> i := by have := of_decide_eq_true hd; omega
    simp only [go_sem, hu, hshr, hand, hbit]
    refine Br_split (fun h1 => ?_) (fun h1 => ?_) <;> simp only [go_sem, h1, hi1, natsD_len]
    · rw [if_pos h1] at hst
      refine ⟨i + 1, by omega, by omega, ?_⟩
      exact ForgetTo.same' (by simp) (by simp [EWe, Env.look, hnx, hst]) (by rw [hst]; simp [natsD])
    · rw [if_neg (by rw [h1]; simp), List.append_nil] at hst
      refine ⟨i + 1, by omega, by omega, ?_⟩
      exact ForgetTo.same' (by simp) (by simp [EWe, Env.look, hnx, hst]) (by rw [hst])
  · have hd' : set >>> i = 0 := Nat.eq_zero_of_not_pos (fun h => of_decide_eq_false hd (Int.natCast_pos.2 h))
    rw [hz hd']
    have htk : (natsD (bitsL set)).take (bitsL set).length = natsD (bitsL set) := List.take_of_length_le (by simp [natsD_len])
    simp only [go_sem, natsD_len, htk]

theorem c99 (a b : List Nat) (ha : a.length ≤ 1000) (hb : b.length ≤ 1000) : PC prog 99 [.d (.sl (natsD a)), .d (.sl (natsD b))] (.d (.bool (lessN a b))) := by
  refine PC.run (fun _ => false) tt_ok (fn := f99) (rs := [.tmp 4]) rfl rfl rfl rfl rfl rfl rfl ?_
  simp only [go_sem, natsD_len]
  refine Br_split (fun h1 => ?_) (fun h1 => ?_) <;> simp only [go_sem, h1, natsD_len]
  · have h1' : a.length ≠ b.length := by simp at h1; omega
    simp [lessN, h1']
  have h1' : a.length = b.length := by simp at h1; omega
  have hl0 : lessN a b = lessL a b := by rw [lessN, if_neg (by simpa using h1')]
  rw [hl0]
  refine ALoop.by (S := Nat) (fun i => [(5, .d (.int .i64 i)), (1, .d (.sl (natsD b))), (0, .d (.sl (natsD a)))]) (fun _ => []) (fun i => a.length - i) (fun i => i ≤ a.length ∧ lessL (a.drop i) (b.drop i) = lessL a b) 0 (by simp) (fun _ h => nomatch h) ⟨Nat.zero_le _, rfl⟩ ?_ ?_
  · exact ForgetTo.same' (by simp) (by simp [EWe, Env.look]) rfl
  rintro i ⟨hi, he⟩ hn
  refine AWP.run (fun _ => false) tt_ok (fun _ h => nomatch h) (by simp) rfl ?_
  simp only [go_sem, natsD_len]
  refine Br_split (fun hd => ?_) (fun hd => ?_) <;> simp only [go_sem, hd]
  · have hlt : i < a.length := by simpa using hd
    have hix : idx? (natsD a) (i : Int) = some (.int .i64 (a[i] : Nat)) := by simp [idx?, natsD, List.getElem?_eq_getElem hlt]
    have hiy : idx? (natsD b) (i : Int) = some (.int .i64 (b[i] : Nat)) := by simp [idx?, natsD, List.getElem?_eq_getElem (show i < b.length by omega)]
    rw [List.drop_eq_getElem_cons hlt, List.drop_eq_getElem_cons (show i < b.length by omega), lessL] at he
    generalize a[i] = x at hix he
    generalize b[i] = y at hiy he
    refine ADrw.treeG (fun _ => false) tt_ok (by kernel_rfl) (fun k => some .S) (.ones [0, 1, 2, 3, 4, 5, 6, 7, 8] .done) (Nat.zero_le _) (fun _ h => nomatch h) rfl rfl (by kernel_rfl) ?_
    simp only [go_sem, hix, hiy]
    refine Br_split (fun h2 => ?_) (fun h2 => ?_) <;> simp only [go_sem, h2]
    · have h2' : x ≠ y := by simp at h2; omega
      rw [if_pos h2'] at he
      refine ADrw.treeG (fun _ => false) tt_ok (by kernel_rfl) (fun k => some .S) (.ones [0, 1, 2, 3, 4, 5, 6, 7, 8, 9] .done) (Nat.zero_le _) (fun _ h => nomatch h) rfl rfl (by kernel_rfl) ?_
      simp only [go_sem, hix, hiy]
      rw [← he]
      simp
    · have h2' : x = y := by simp at h2; omega
      rw [if_neg (by simpa using h2')] at he
      refine ⟨i + 1, ⟨hlt, he⟩, by omega, ?_⟩
      exact ForgetTo.same' (by simp) (by simp [EWe, Env.look, w64 (n := (i : Int) + 1) (by omega) (by omega)]) rfl
  · have hie : i = a.length := by simp at hd; omega
    subst hie
    rw [List.drop_eq_nil_of_le (Nat.le_refl _)] at he
    simp [← he, lessL]

def okB (b : Bath) (l : List Seen) (set : Nat) : Bool := (stQ b set l (nS b)).isSome

def bestV (s : Bool × List Nat) : V := if s.1 = true then .d (.sl (natsD s.2)) else .slx (some false) []

theorem c54 {b : Bath} (hok : b.Ok) (l : List Seen) (hl : l.length ≤ 5) (hm : ∀ s ∈ l, (0 ≤ s.step.plate ∧ s.step.plate < b.plates.length) ∧ 1 ≤ s.step.hours ∧ s.step.hours ≤ 24) :
    PC prog 54 [.d b.d, .d (.sl (l.map Seen.d))] (bestV (wrongR (okB b l) (2 ^ l.length))) := by
  refine PC.run (fun _ => false) tt_ok (fn := f54) (rs := [.tmp 4]) rfl rfl rfl rfl rfl rfl rfl ?_
  simp only [go_sem, Bath.d]
  have hpw : 2 ^ l.length ≤ 32 := Nat.pow_le_pow_right (n := 2) (by omega) hl
  refine ALoop.by (S := Nat) (fun i => [(7, .d (.int .i64 i)), (6, .d (.bool (wrongR (okB b l) i).1)), (5, bestV (wrongR (okB b l) i)), (2, .ptr 0 0), (1, .d (.sl (l.map Seen.d)))]) (fun i => [bthB b]) (fun i => 2 ^ l.length - i) (fun i => i ≤ 2 ^ l.length) 0 (by simp) (fun _ h => nomatch h) (Nat.zero_le _) ?_ ?_
  · exact ForgetTo.same' (by simp) (by simp [EWe, Env.look, wrongR, bestV]) (by simp [bthB])
  rintro i hi hn
  refine AWP.run (fun _ => false) tt_ok (fun _ h => nomatch h) (by simp) rfl ?_
  have hu : IntKind.u64.wrap (l.length : Int) = l.length := wu64 (by omega) (by omega)
  have hshl := shlN (p := l.length) (by omega)
  have hnx : IntKind.i64.wrap ((i : Int) + 1) = ((i + 1 : Nat) : Int) := w64 (by omega) (by omega)
  have hst := wrongR_succ (okB b l) i
  have hbl : (bitsL i).length ≤ 5 := by
    have := List.length_filter_le (fun j => i.testBit j) (List.range 5)
    simpa [bitsL] using this
  have hwl : (wrongR (okB b l) i).2.length ≤ 5 := by
    rcases wrongR_spec (okB b l) i with ⟨e, _⟩ | ⟨_, ⟨x, _, _, e⟩, _⟩
    · rw [e]; simp
    · rw [e]
      have := List.length_filter_le (fun j => x.testBit j) (List.range 5)
      simpa [bitsL] using this
  have hc := fun h32 : i < 32 => c52 hok i ((bitsL i).map fun n : Nat => (n : Int)) (by simp; omega) l (by omega) (fun j hj => bitsL_has (by omega)) hm
  rw [← natsD_ints] at hc
  simp only [go_sem, bthB, hu, hshl]
  refine Br_split (fun hd => ?_) (fun hd => ?_) <;> simp only [go_sem, hd]
  · have hlt : i < 2 ^ l.length := by simp only [decide_eq_true_eq] at hd; omega
    have hc := hc (by omega)
    have hoB : okB b l i = (stQ b i l (nS b)).isSome := rfl
    generalize wrongR (okB b l) i = s at *
    obtain ⟨f, best⟩ := s
    refine (c88 i (by omega)).call rfl rfl rfl ?_
    have key : (f = true → lessN (bitsL i) best = true) → True := fun _ => trivial
    cases f with
    | true =>
      simp only [go_sem, bestV, if_true]
      refine (c99 (bitsL i) best (by omega) (by have := hwl; simp only at this; omega)).call rfl rfl rfl ?_
      simp only [go_sem]
      refine Br_split (fun h1 => ?_) (fun h1 => ?_) <;> simp only [go_sem, h1]
      · have h1' : lessN (bitsL i) best = false := by simpa using h1
        simp only [hnx]
        refine ⟨i + 1, by omega, by omega, ?_⟩
        have hs1 : wrongR (okB b l) (i + 1) = (true, best) := by rw [hst, wrongStep, if_pos ⟨rfl, h1'⟩]
        rw [hs1]
        exact ForgetTo.same' (Nat.zero_le _) (by simp [EWe, Env.look, bestV]) (by simp [bthB])
      · have h1' : lessN (bitsL i) best = true := by simpa using h1
        have hoK : okB b l i = (stQ b i l (nS b)).isSome := rfl
        cases hq : stQ b i l (nS b) with
        | none =>
          have hwq : wasQ b i l = .tup [.d (Sp.mk 41 (-1)).d, .slx (some false) [], .d (.bool false)] := by simp only [wasQ, hq]
          rw [hwq] at hc
          rw [hq] at hoK
          refine hc.call rfl rfl rfl ?_
          simp only [go_sem, Sp.d, hnx]
          refine ⟨i + 1, by omega, by omega, ?_⟩
          have hs1 : wrongR (okB b l) (i + 1) = (true, best) := by rw [hst, wrongStep, if_neg (by rw [h1']; simp), if_neg (by rw [hoK]; simp)]
          rw [hs1]
          refine ForgetTo.drop (H0 := [_]) (Y := [_]) (Nat.zero_le _) rfl (by simp [BBs, BB, VBs, VB]) ?_
          simp [EWp, Env.look, pubV, bestV]
        | some p =>
          obtain ⟨k, h, r⟩ := p
          have hwq : wasQ b i l = .tup [.d (Sp.mk (b.str.lo + k) (b.str.lo + h)).d, .d (.sl (r.map Sp.d)), .d (.bool true)] := by simp only [wasQ, hq]
          rw [hwq] at hc
          rw [hq] at hoK
          refine hc.call rfl rfl rfl ?_
          simp only [go_sem, Sp.d, hnx]
          refine ⟨i + 1, by omega, by omega, ?_⟩
          have hs1 : wrongR (okB b l) (i + 1) = (true, bitsL i) := by rw [hst, wrongStep, if_neg (by rw [h1']; simp), if_pos (by rw [hoK]; rfl)]
          rw [hs1]
          refine ForgetTo.drop (H0 := [_]) (Y := [_]) (Nat.zero_le _) rfl (by simp [BBs, BB, VBs, VB]) ?_
          simp [EWp, Env.look, pubV, bestV]
    | false =>
      simp only [go_sem, bestV, if_false, Bool.false_eq_true]
      have hoK : okB b l i = (stQ b i l (nS b)).isSome := rfl
      cases hq : stQ b i l (nS b) with
      | none =>
        have hwq : wasQ b i l = .tup [.d (Sp.mk 41 (-1)).d, .slx (some false) [], .d (.bool false)] := by simp only [wasQ, hq]
        rw [hwq] at hc
        rw [hq] at hoK
        refine hc.call rfl rfl rfl ?_
        simp only [go_sem, Sp.d, hnx]
        refine ⟨i + 1, by omega, by omega, ?_⟩
        have hs1 : wrongR (okB b l) (i + 1) = (false, best) := by rw [hst, wrongStep, if_neg (by simp), if_neg (by rw [hoK]; simp)]
        rw [hs1]
        refine ForgetTo.drop (H0 := [_]) (Y := [_]) (Nat.zero_le _) rfl (by simp [BBs, BB, VBs, VB]) ?_
        simp [EWp, Env.look, pubV, bestV]
      | some p =>
        obtain ⟨k, h, r⟩ := p
        have hwq : wasQ b i l = .tup [.d (Sp.mk (b.str.lo + k) (b.str.lo + h)).d, .d (.sl (r.map Sp.d)), .d (.bool true)] := by simp only [wasQ, hq]
        rw [hwq] at hc
        rw [hq] at hoK
        refine hc.call rfl rfl rfl ?_
        simp only [go_sem, Sp.d, hnx]
        refine ⟨i + 1, by omega, by omega, ?_⟩
        have hs1 : wrongR (okB b l) (i + 1) = (true, bitsL i) := by rw [hst, wrongStep, if_neg (by simp), if_pos (by rw [hoK]; rfl)]
        rw [hs1]
        refine ForgetTo.drop (H0 := [_]) (Y := [_]) (Nat.zero_le _) rfl (by simp [BBs, BB, VBs, VB]) ?_
        simp [EWp, Env.look, pubV, bestV]
  · have hie : i = 2 ^ l.length := by simp only [decide_eq_false_iff_not] at hd; omega
    subst hie
    generalize wrongR (okB b l) (2 ^ l.length) = s at *
    obtain ⟨f, best⟩ := s
    cases f with
    | true => simp only [go_sem, bestV, if_true]
    | false => simp only [go_sem, bestV, if_false, Bool.false_eq_true]
end Go.Aw
end

section
set_option maxRecDepth 100000
namespace Go.Aw
open Go Go.Proofs.Try

theorem nodup_len : ∀ (n : Nat) (l : List Int), l.Nodup → (∀ x ∈ l, 0 ≤ x ∧ x < n) → l.length ≤ n
  | 0, [], _, _ => Nat.le_refl _
  | 0, x :: r, _, h => by have := h x List.mem_cons_self; omega
  | n + 1, l, hd, h => by
    have h1 : (l.erase (n : Int)).length ≤ n := nodup_len n _ (hd.erase _) fun x hx => by
      have hm := (hd.mem_erase_iff).1 hx
      have := h x hm.2
      have := hm.1
      omega
    have := List.length_erase (a := (n : Int)) (l := l)
    split at this <;> omega

structure Lgs (b : Bath) (l : List Seen) : Prop where
  ok : b.Ok
  len : l.length ≤ 5
  mem : ∀ s ∈ l, (0 ≤ s.step.plate ∧ s.step.plate < b.plates.length) ∧ 1 ≤ s.step.hours ∧ s.step.hours ≤ 24
  how : ∀ s ∈ l, 1 ≤ s.how ∧ s.how ≤ 3
  nodup : (platesS l).Nodup

theorem logE_iff {b : Bath} {l : List Seen} (h : logE b l = 0) : Lgs b l := by
  unfold logE at h
  split at h
  · rename_i h0
    split at h
    · cases h
    · rename_i hh
      split at h
      · rename_i hs
        have hok := checkP_iff.1 h0
        have hm : ∀ s ∈ l, (0 ≤ s.step.plate ∧ s.step.plate < b.plates.length) ∧ 1 ≤ s.step.hours ∧ s.step.hours ≤ 24 := fun s hs' => stepsOk_mem hs s.step (List.mem_map.2 ⟨s, hs', rfl⟩)
        have hnd := (stepsOk_nodup hs).1
        refine ⟨hok, ?_, hm, fun s hs => ?_, hnd⟩
        · have := nodup_len b.plates.length (platesS l) hnd fun x hx => by
            obtain ⟨s, hs, rfl⟩ := List.mem_map.1 hx
            obtain ⟨t, ht, rfl⟩ := List.mem_map.1 hs
            exact (hm t ht).1
          have h5 := hok.2.2.2.1
          simp only [platesS, platesOf, List.length_map] at this
          omega
        · have h1 : ¬ badHow s = true := fun hb => hh (List.any_eq_true.2 ⟨s, hs, hb⟩)
          simp only [badHow, Bool.or_eq_true, decide_eq_true_eq, not_or] at h1
          omega
      · cases h
  · rename_i h0; exact absurd h h0

theorem stQ_was {b : Bath} {l : List Seen} (h : Lgs b l) (w : Nat) : stQ b w l (nS b) = wasO ⟨b, l, w⟩ := by
  have hf : ∀ (L : List Nat), L.filterMap (fun j : Nat => (rustsQ b (b.str.lo + j) w l b.plates.length).map fun r => (j, r)) = L.filterMap (fun i : Nat => (rustsP ⟨b, l, w⟩ (b.str.lo + i)).map fun l => ((i : Nat), l)) := fun L => by
    congr 1
    funext j
    rw [rustsQ_eq h.ok (by have := h.ok.1; omega) w h.nodup h.how fun s hs => (h.mem s hs).1]
  rw [stQ, hf, wasO, canL]
  rfl

theorem wasS_some : ∀ (q : List (Nat × List Sp)) (st : Option (Nat × Nat × List Sp)), (q.foldl wasS st).isSome = (st.isSome || !q.isEmpty)
  | [], st => by simp
  | p :: q, st => by
    rw [List.foldl_cons, wasS_some q]
    obtain ⟨i, r⟩ := p
    cases st with
    | none => simp [wasS]
    | some x => obtain ⟨k, h, r'⟩ := x; simp [wasS]

theorem okB_fits {b : Bath} {l : List Seen} (h : Lgs b l) (w : Nat) : okB b l w = fitsB b l w := by
  rw [okB, stQ_was h, wasO, wasS_some, fitsB]
  simp

theorem rustsR_all (b : Bath) (str : Int) (w : Nat) : ∀ (l : List Seen) (i : Nat) (fell : Int) (acc : List Sp), (∀ j, j < l.length → w.testBit (i + j) = true) → rustsR b str w l i fell acc = some acc
  | [], i, fell, acc, _ => rfl
  | s :: r, i, fell, acc, h => by
    rw [rustsR, if_pos (by simpa using h 0 (by simp))]
    exact rustsR_all b str w r (i + 1) _ acc fun j hj => by
      have := h (j + 1) (by simpa using hj)
      rwa [show i + (j + 1) = i + 1 + j by omega] at this

theorem fits_all {b : Bath} {l : List Seen} (h : Lgs b l) : fitsB b l (2 ^ l.length - 1) = true := by
  have hr : rustsP ⟨b, l, 2 ^ l.length - 1⟩ (b.str.lo + ((0 : Nat) : Int)) = some (b.plates.map Plate.rust) :=
    rustsR_all b _ _ l 0 0 _ fun j hj => by rw [Nat.testBit_two_pow_sub_one]; simp; omega
  obtain ⟨s1, s2, _⟩ := h.ok
  have hm : ((0 : Nat), b.plates.map Plate.rust) ∈ canL ⟨b, l, 2 ^ l.length - 1⟩ := by
    rw [canL, List.mem_filterMap]
    exact ⟨0, List.mem_range.2 (by simp only [Log.N]; omega), by rw [hr]; rfl⟩
  rw [fitsB]
  cases hc : canL ⟨b, l, 2 ^ l.length - 1⟩ with
  | nil => rw [hc] at hm; cases hm
  | cons x r => rfl

theorem bits_nil : ∀ s, s < 32 → bitsL s = [] → s = 0 := by decide +kernel

/-- What is said to be wrong, if anything must be. -/
theorem wrongF_some {b : Bath} {l : List Seen} (h : Lgs b l) (hw : fitsB b l 0 = false) : ∃ p, wrongF b l = some p ∧ p.1 ≠ [] ∧ p.1.length ≤ 5 ∧ wrongR (okB b l) (2 ^ l.length) = (true, p.1) := by
  have he : (fun p : List Nat × Nat => okB b l p.2) = fun p => fitsB b l p.2 := funext fun p => okB_fits h p.2
  have hq := wrong_eq (okB b l) h.len
  rw [he] at hq
  obtain ⟨f1, f2, f3⟩ := sets_facts l.length (by have := h.len; omega)
  cases hf : wrongF b l with
  | none =>
    obtain ⟨p, hp, e⟩ := List.any_eq_true.1 (List.all_eq_true.1 f2 (2 ^ l.length - 1) (List.mem_range.2 (by have := Nat.two_pow_pos l.length; omega)))
    have h1 := List.find?_eq_none.1 hf p hp
    rw [beq_iff_eq] at e
    rw [e, fits_all h] at h1
    exact absurd rfl h1
  | some p =>
    have hf' : (allSets l.length).find? (fun p => fitsB b l p.2) = some p := hf
    rw [hf'] at hq
    have hpm := List.mem_of_find?_eq_some hf'
    have hpk := List.find?_some hf'
    have h1 := List.all_eq_true.1 f1 p hpm
    simp only [Bool.and_eq_true, decide_eq_true_eq] at h1
    have hpw : 2 ^ l.length ≤ 32 := Nat.pow_le_pow_right (n := 2) (by omega) h.len
    refine ⟨p, rfl, fun e => ?_, ?_, hq⟩
    · have h0 := bits_nil p.2 (by omega) (by rw [← h1.1]; exact e)
      rw [h0, hw] at hpk
      cases hpk
    · rw [h1.1]
      have := List.length_filter_le (fun j => p.2.testBit j) (List.range 5)
      simpa [bitsL] using this

theorem wrongF_zero {b : Bath} {l : List Seen} (h : Lgs b l) (hw : fitsB b l 0 = true) : ∃ p, wrongF b l = some p ∧ p.1 = [] := by
  have h0 : ∃ r, (allSets l.length) = ([], 0) :: r := by
    have : ∀ n, n < 6 → (allSets n).head? = some ([], 0) := by decide +kernel
    have := this l.length (by have := h.len; omega)
    cases hh : allSets l.length with
    | nil => rw [hh] at this; cases this
    | cons x r =>
      rw [hh] at this
      simp only [List.head?_cons, Option.some.injEq] at this
      exact ⟨r, by rw [this]⟩
  obtain ⟨r, hr⟩ := h0
  refine ⟨([], 0), ?_, rfl⟩
  show (allSets l.length).find? (fun p => fitsB b l p.2) = _
  rw [hr, List.find?_cons_of_pos]
  exact hw

theorem sized_seens (l : List Seen) : sized 3 (l.map Seen.d) = true := by
  simp [sized, Seen.d, dcells]

def e8 (l : List Seen) (rv wv : V) (e f : Int) : Env := [(11, .d (.int .i64 f)), (10, wv), (9, .d (.int .i64 e)), (8, rv), (7, .ptr 2 0), (2, .ptr 0 0), (1, .d (.sl (l.map Seen.d)))]

theorem c8_head (b : Bath) (l : List Seen) (hb20 : b.plates.length ≤ 20) (hl20 : l.length ≤ 20) {st : Sp} {rv wv : V} {e f : Int} (h49 : PC prog 49 [.d b.d, .d (.sl (l.map Seen.d))] (.tup [.d st.d, rv, .d (.int .i64 e)])) (h50 : PC prog 50 [.d b.d, .d (.sl (l.map Seen.d))] (.tup [wv, .d (.int .i64 f)]))
    (v1 : VB 0 rv = true) (v2 : VB 0 wv = true)
    (hrest : AWP prog f8.ntmps 0 none (restC 7 (bodyOf f8)) (e8 l rv wv e f) [bthB b, bthB b, .cells [.d (.int .i64 st.lo), .d (.int .i64 st.hi)]] (FnPost Tt [.tmp 4] 0 fun r H' => H' = [] ∧ r = .d (.bool true))) :
    PC prog 8 [.d b.d, .d (.sl (l.map Seen.d))] (.d (.bool true)) := by
  have hd0 : ∀ {α : Type} [DecidableEq α] (l : α), decide (l = l) = true := fun l => by simp
  have hsz := sized_seens l
  have hle : l.length ≤ 4294967296 := by omega
  have d1 : decide (20 < (b.plates.length : Int)) = false := by simp; omega
  have d2 : decide (20 < (l.length : Int)) = false := by simp; omega
  refine PC.of_body tt_ok (fn := f8) (c := bodyOf f8) (rs := [.tmp 4]) rfl rfl rfl rfl rfl rfl ?_
  refine AWP.stepN 7 (e8 l rv wv e f) [bthB b, bthB b, .cells [.d (.int .i64 st.lo), .d (.int .i64 st.hi)]] (fun _ => false) tt_ok (fun _ h => nomatch h) (Nat.zero_le _) rfl ?_ hrest
  simp only [go_sem, Bath.d, d1, d2, hsz, hle, List.nil_append, Nat.zero_add]
  refine (c18 b (by omega)).call rfl rfl rfl ?_
  simp only [go_sem, Bath.d, hsz, hle, List.nil_append, Nat.zero_add]
  refine h49.call rfl rfl (by simp [VB, VBs, v1]) ?_
  simp only [go_sem, Sp.d]
  refine h50.call rfl rfl (by simp [VB, VBs, v2]) ?_
  simp only [go_sem]
  refine (c22 b b (by omega) (by omega)).call rfl rfl rfl ?_
  simp only [go_sem, hd0]
  refine ALoop.by (S := Nat) (fun i => [(12, .d (.int .i64 i)), (11, .d (.int .i64 f)), (10, wv), (9, .d (.int .i64 e)), (8, rv), (7, .ptr 2 0), (6, .d (.sl (l.map Seen.d))), (2, .ptr 0 0), (1, .d (.sl (l.map Seen.d)))])
    (fun _ => [bthB b, bthB b, .cells [.d (.int .i64 st.lo), .d (.int .i64 st.hi)]]) (fun i => l.length - i) (fun i => i ≤ l.length) 0 (Nat.zero_le _) (fun _ h => nomatch h) (Nat.zero_le _) ?_ ?_
  · exact ForgetTo.same' (Nat.zero_le _) (by simp [EWe, Env.look]) (by simp [bthB])
  rintro i hi hn
  refine AWP.run (fun _ => false) tt_ok (fun _ h => nomatch h) (by simp) rfl ?_
  simp only [go_sem, bthB]
  refine Br_split (fun hd => ?_) (fun hd => ?_) <;> simp only [go_sem, hd]
  · have hlt : i < l.length := by simpa using hd
    have hix : idx? (l.map Seen.d) (i : Int) = some (l[i]).d := by simp [idx?, List.getElem?_eq_getElem hlt]
    generalize l[i] = a at hix
    refine ADrw.treeG (fun _ => false) tt_ok (by kernel_rfl) (fun _ => some .S) (.ones [0, 1, 2, 3, 4, 5, 6, 7, 8] .done) (by simp) (fun _ h => nomatch h) rfl rfl (by kernel_rfl) ?_
    simp only [go_sem, hix, Seen.d, hd0]
    refine ⟨i + 1, hlt, by omega, ?_⟩
    exact ForgetTo.same' (by simp) (by simp [EWe, Env.look, w64 (n := (i : Int) + 1) (by omega) (by omega)]) rfl
  · exact ForgetTo.same' (Nat.zero_le _) (by simp [EWe, Env.look, e8]) (by simp [bthB])

theorem c8 (b : Bath) (l : List Seen) : PC prog 8 [.d b.d, .d (.sl (l.map Seen.d))] (.d (.bool true)) := by
  have hd0 : ∀ {α : Type} [DecidableEq α] (l : α), decide (l = l) = true := fun l => by simp
  have hw0 : IntKind.i64.wrap (0 + 0) = 0 := by decide
  by_cases hb20 : b.plates.length ≤ 20 ∧ l.length ≤ 20
  rotate_left
  · refine PC.run (fun _ => false) tt_ok (fn := f8) (rs := [.tmp 4]) rfl rfl rfl rfl rfl rfl rfl ?_
    by_cases h1 : b.plates.length ≤ 20
    · have d1 : decide (20 < (b.plates.length : Int)) = false := by simp; omega
      have d2 : decide (20 < (l.length : Int)) = true := by simp; omega
      simp only [go_sem, Bath.d, d1, d2]
      refine c17.call rfl rfl rfl ?_
      simp only [go_sem]
    · have d1 : decide (20 < (b.plates.length : Int)) = true := by simp; omega
      simp only [go_sem, Bath.d, d1]
      refine c17.call rfl rfl rfl ?_
      simp only [go_sem]
  obtain ⟨hb20, hl20⟩ := hb20
  have hb : b.plates.length ≤ 4294967296 := by omega
  have h49 := c49 b l hb (by omega)
  have h50 := c50 b l hb (by omega)
  by_cases h0 : logE b l = 0
  rotate_left
  · have e1 : wasV b l = .tup [.d sp0.d, .slx (some true) [], .d (.int .i64 (logE b l))] := by rw [wasV, if_neg h0]
    have e2 : wrongV b l = .tup [.slx (some true) [], .d (.int .i64 (logE b l))] := by rw [wrongV, if_neg h0]
    rw [e1] at h49
    rw [e2] at h50
    refine c8_head b l hb20 hl20 h49 h50 rfl rfl ?_
    refine AWP.runS (fun _ => false) tt_ok (fun _ h => nomatch h) (Nat.zero_le _) rfl ?_
    simp only [go_sem, e8, bthB]
    refine (c21 b hb).call rfl rfl rfl ?_
    by_cases hc : checkP b = 0
    · have hE : logE b l = 4 := by
        unfold logE at h0 ⊢
        rw [if_pos hc] at h0 ⊢
        split
        · rfl
        · rename_i hh
          rw [if_neg hh] at h0
          split
          · rename_i hs; rw [if_pos hs] at h0; exact absurd rfl h0
          · rfl
      have hS : (!l.any badHow && stepsOk b.plates.length 0 (l.map Seen.step)) = false := by
        unfold logE at h0
        rw [if_pos hc] at h0
        cases h1 : l.any badHow with
        | true => rfl
        | false =>
          rw [h1, if_neg (by simp)] at h0
          cases h2 : stepsOk b.plates.length 0 (l.map Seen.step) with
          | false => rfl
          | true => rw [h2, if_pos rfl] at h0; exact absurd rfl h0
      simp only [go_sem, hc]
      refine (c51 b l (by omega) (by omega)).call rfl rfl rfl ?_
      rw [hS, hE]
      simp only [go_sem]
      refine ADrw.treeG (fun _ => false) tt_ok (by kernel_rfl) (fun k => if k = 9 then some .L else some .S) (.ones [0, 1, 2, 3, 4, 5, 6, 7, 8, 9, 10, 11, 12, 13, 14, 15, 16, 17, 18, 19, 20, 21, 22, 23, 24] .done) (Nat.zero_le _) (fun _ h => nomatch h) rfl rfl (by kernel_rfl) ?_
      simp only [go_sem]
      refine (c26 0 0).callS rfl rfl rfl rfl rfl rfl ?_
      simp only [go_sem, Sp.d, sp0, hd0, hw0]
      refine c17.callS rfl rfl rfl rfl rfl rfl ?_
      simp only [go_sem]
    · have hE : logE b l = checkP b := by rw [logE, if_neg hc]
      have dc : decide (checkP b = 0) = false := by simpa using hc
      rw [hE]
      simp only [go_sem, dc]
      refine ADrw.treeG (fun _ => false) tt_ok (by kernel_rfl) (fun k => if k = 9 then some .L else some .S) (.ones [0, 1, 2, 3, 4, 5, 6, 7, 8, 9, 10, 11, 12, 13, 14, 15, 16, 17, 18, 19, 20, 21, 22, 23, 24] .done) (Nat.zero_le _) (fun _ h => nomatch h) rfl rfl (by kernel_rfl) ?_
      simp only [go_sem, hd0]
      refine (c26 0 0).callS rfl rfl rfl rfl rfl rfl ?_
      simp only [go_sem, Sp.d, sp0, hd0, hw0]
      refine c17.callS rfl rfl rfl rfl rfl rfl ?_
      simp only [go_sem]
  have hL := logE_iff h0
  have hc : checkP b = 0 := by
    unfold logE at h0
    split at h0
    · assumption
    · exact absurd h0 (by assumption)
  have hS : (!l.any badHow && stepsOk b.plates.length 0 (l.map Seen.step)) = true := by
    unfold logE at h0
    rw [if_pos hc] at h0
    split at h0
    · cases h0
    · rename_i h1
      split at h0
      · rename_i h2; rw [h2]; simpa using h1
      · cases h0
  have h52 := c52 hL.ok 0 [] (by simp) l (by omega) (fun i _ => by simp) hL.mem
  have hq := stQ_was hL 0
  have h54 := c54 hL.ok l hL.len hL.mem
  have hfit : fitsB b l 0 = (wasO ⟨b, l, 0⟩).isSome := by rw [← okB_fits hL, okB, hq]
  cases hw : wasO ⟨b, l, 0⟩ with
  | none =>
    rw [hw] at hfit hq
    obtain ⟨p, hp1, hp2, hp3, hp4⟩ := wrongF_some hL hfit
    have e1 : wasV b l = .tup [.d sp0.d, .slx (some true) [], .d (.int .i64 9)] := by rw [wasV, if_pos h0, hw]
    have e2 : wrongV b l = .tup [.d (.sl (natsD p.1)), .d (.int .i64 0)] := by rw [wrongV, if_pos h0, hp1]; simp only [if_neg hp2]
    have e3 : wasQ b 0 l = .tup [.d (Sp.mk 41 (-1)).d, .slx (some false) [], .d (.bool false)] := by simp only [wasQ, hq]
    have e4 : bestV (wrongR (okB b l) (2 ^ l.length)) = .d (.sl (natsD p.1)) := by rw [hp4]; simp [bestV]
    rw [e1] at h49
    rw [e2] at h50
    rw [e3] at h52
    rw [e4] at h54
    refine c8_head b l hb20 hl20 h49 h50 rfl rfl ?_
    refine AWP.runS (fun _ => false) tt_ok (fun _ h => nomatch h) (Nat.zero_le _) rfl ?_
    simp only [go_sem, e8, bthB]
    refine (c21 b hb).call rfl rfl rfl ?_
    simp only [go_sem, hc]
    refine (c51 b l (by omega) (by omega)).call rfl rfl rfl ?_
    rw [hS]
    simp only [go_sem]
    refine h52.call rfl rfl rfl ?_
    simp only [go_sem, Sp.d]
    refine ADrw.treeG (fun _ => false) tt_ok (by kernel_rfl) (fun k => if k = 3 ∨ k = 18 then some .L else some .S) (.ones [0, 1, 2, 3, 4, 5, 6, 7, 8, 9, 10, 11, 12, 13, 14, 15, 16, 17, 18, 19, 20, 21, 22, 23, 24, 25, 26] .done) (Nat.zero_le _) (fun _ h => nomatch h) rfl rfl (by kernel_rfl) ?_
    simp only [go_sem]
    refine (c26 0 0).callS rfl rfl rfl rfl rfl rfl ?_
    simp only [go_sem, Sp.d, sp0, hd0]
    refine h54.callS rfl rfl rfl rfl rfl rfl ?_
    simp only [go_sem]
    have h23 := c23 (p.1.map fun n : Nat => (n : Int)) (p.1.map fun n : Nat => (n : Int)) (by simp; omega) (by simp; omega)
    rw [← natsD_ints, hd0] at h23
    refine h23.callS rfl rfl rfl rfl rfl rfl ?_
    simp only [go_sem]
    refine c17.callS rfl rfl rfl rfl rfl rfl ?_
    simp only [go_sem]
  | some x =>
    obtain ⟨k, h, r⟩ := x
    rw [hw] at hfit hq
    obtain ⟨p, hp1, hp2⟩ := wrongF_zero hL hfit
    have hrl := (stQ_bnd hq).1
    have h5 := hL.ok.2.2.2.1
    have e1 : wasV b l = .tup [.d (Sp.mk (b.str.lo + k) (b.str.lo + h)).d, .d (.sl (r.map Sp.d)), .d (.int .i64 0)] := by rw [wasV, if_pos h0, hw]
    have e2 : wrongV b l = .tup [.slx (some true) [], .d (.int .i64 6)] := by rw [wrongV, if_pos h0, hp1]; simp only [if_pos hp2]
    have e3 : wasQ b 0 l = .tup [.d (Sp.mk (b.str.lo + k) (b.str.lo + h)).d, .d (.sl (r.map Sp.d)), .d (.bool true)] := by simp only [wasQ, hq]
    rw [e1] at h49
    rw [e2] at h50
    rw [e3] at h52
    refine c8_head b l hb20 hl20 h49 h50 rfl rfl ?_
    refine AWP.runS (fun _ => false) tt_ok (fun _ h => nomatch h) (Nat.zero_le _) rfl ?_
    simp only [go_sem, e8, bthB]
    refine (c21 b hb).call rfl rfl rfl ?_
    simp only [go_sem, hc]
    refine (c51 b l (by omega) (by omega)).call rfl rfl rfl ?_
    rw [hS]
    simp only [go_sem]
    refine h52.call rfl rfl rfl ?_
    simp only [go_sem, Sp.d, hd0]
    refine (c53 r r (by omega) (by omega)).call rfl rfl rfl ?_
    simp only [go_sem, hd0]
    refine c17.call rfl rfl rfl ?_
    simp only [go_sem]
end Go.Aw
end

section
set_option maxRecDepth 100000
namespace Go.Aw
open Go Go.Proofs.Try

def outQ (but : List Nat) (skip : Int) (i : Nat) : Nat → Bool
  | 0 => false
  | k + 1 => outQ but skip i k || (decide (but.getD k 0 = i) && decide ((k : Int) ≠ skip))

def canT (b : Bath) (l : List Seen) (o : Nat → Bool) (str : Int) (j : Nat) : Bool :=
  o j || rowW (b.pl (l.getD j seen0).step.plate) (weakF b ((platesS l).take j) str * (l.getD j seen0).step.hours) (nR (b.pl (l.getD j seen0).step.plate)) (l.getD j seen0).how

def allT (b : Bath) (l : List Seen) (o : Nat → Bool) (str : Int) : Nat → Bool
  | 0 => true
  | i + 1 => allT b l o str i && canT b l o str i

def truthR (b : Bath) (l : List Seen) (o : Nat → Bool) : Nat → Bool
  | 0 => false
  | i + 1 => truthR b l o i || allT b l o (b.str.lo + i) l.length

theorem allT_iff (b : Bath) (l : List Seen) (o : Nat → Bool) (str : Int) : ∀ i, allT b l o str i = true ↔ ∀ j, j < i → canT b l o str j = true
  | 0 => by simp [allT]
  | i + 1 => by
    rw [allT, Bool.and_eq_true, allT_iff b l o str i]
    constructor
    · rintro ⟨h1, h2⟩ j hj
      by_cases e : j = i
      · rw [e]; exact h2
      · exact h1 j (by omega)
    · intro h
      exact ⟨fun j hj => h j (by omega), h i (by omega)⟩

theorem truthR_iff (b : Bath) (l : List Seen) (o : Nat → Bool) : ∀ i, truthR b l o i = true ↔ ∃ j, j < i ∧ allT b l o (b.str.lo + (j : Int)) l.length = true
  | 0 => by simp [truthR]
  | i + 1 => by
    rw [truthR, Bool.or_eq_true, truthR_iff b l o i]
    constructor
    · rintro (⟨j, h1, h2⟩ | h)
      · exact ⟨j, by omega, h2⟩
      · exact ⟨i, by omega, h⟩
    · rintro ⟨j, h1, h2⟩
      by_cases e : j = i
      · right; rw [← e]; exact h2
      · left; exact ⟨j, by omega, h2⟩

/-- When rusts can have been at all. -/
theorem rustsP_iff {b : Bath} {l : List Seen} (h : Lgs b l) (w : Nat) {str : Int} (hs : 0 ≤ str) : (rustsP ⟨b, l, w⟩ str).isSome = true ↔ ∀ j s, l[j]? = some s → w.testBit j = true ∨ ∃ x, ((b.pl s.step.plate).rust.lo ≤ x ∧ x ≤ (b.pl s.step.plate).rust.hi) ∧ howP (b.pl s.step.plate) x (weakF b ((platesS l).take j) str * s.step.hours) = s.how := by
  have hr0 : ∀ p : Nat, p < b.plates.length → nowL b (b.plates.map Plate.rust) p = (b.pl p).rust := fun p hp => by
    simp [nowL, Bath.pl, List.getD_eq_getElem?_getD, List.getElem?_eq_getElem hp]
  have hsp := rustsR_spec b str w l 0 0 (b.plates.map Plate.rust) (by simp) h.nodup (fun s hs => (h.mem s hs).1) (fun p hp => by
    rw [hr0 p hp]
    have := h.ok.pl p
    simp only [Plate.Ok] at this
    omega)
  have heff := fun (p x : Int) => effR_iff h.ok str w p x l 0 0 (b.pl p).rust h.nodup h.how
  have hwk := fun j => weak_aft h.ok ((platesS l).take j) str hs
  have hP : rustsP ⟨b, l, w⟩ str = rustsR b str w l 0 0 (b.plates.map Plate.rust) := rfl
  rw [hP]
  have hkey : (∀ p : Nat, p < b.plates.length → (effR b str w p l 0 0 (b.pl p).rust).lo ≤ (effR b str w p l 0 0 (b.pl p).rust).hi) ↔ ∀ j s, l[j]? = some s → w.testBit j = true ∨ ∃ x, ((b.pl s.step.plate).rust.lo ≤ x ∧ x ≤ (b.pl s.step.plate).rust.hi) ∧ howP (b.pl s.step.plate) x (weakF b ((platesS l).take j) str * s.step.hours) = s.how := by
    constructor
    · intro hp j s hj
      have hm := h.mem s (List.mem_of_getElem? hj)
      have := hp s.step.plate.toNat (by omega)
      rw [show ((s.step.plate.toNat : Nat) : Int) = s.step.plate by omega] at this
      have := (heff s.step.plate (effR b str w s.step.plate l 0 0 (b.pl s.step.plate).rust).lo).1 ⟨Int.le_refl _, this⟩
      by_cases hw : w.testBit j = true
      · exact .inl hw
      · right
        have h2 := this.2 j s hj rfl (by simpa using hw)
        rw [Int.zero_add, ← hwk] at h2
        exact ⟨_, this.1, h2⟩
    · intro hj p hp
      by_cases hm : ∃ (j : Nat) (s : Seen), l[j]? = some s ∧ s.step.plate = p ∧ w.testBit j = false
      · obtain ⟨j, s, h1, h2, h3⟩ := hm
        rcases hj j s h1 with h4 | ⟨x, h4, h5⟩
        · rw [h3] at h4; cases h4
        · rw [h2] at h4 h5
          have := (heff p x).2 ⟨h4, fun j' s' h1' h2' h3' => by
            have hpl : ∀ (j : Nat) (s : Seen), l[j]? = some s → (platesS l)[j]? = some s.step.plate := fun j s h => by simp [platesS, platesOf, h]
            have hlt : j < (platesS l).length := by
              have := (List.getElem?_eq_some_iff.1 h1).1
              simpa [platesS, platesOf] using this
            have : j = j' := (List.getElem?_inj hlt h.nodup).1 (by rw [hpl j s h1, hpl j' s' h1', h2, h2'])
            subst this
            rw [h1] at h1'
            cases h1'
            rw [Int.zero_add, ← hwk]
            exact h5⟩
          omega
      · have hpl := h.ok.pl p
        simp only [Plate.Ok] at hpl
        have := (heff p (b.pl p).rust.lo).2 ⟨⟨Int.le_refl _, hpl.2.1⟩, fun j s h1 h2 h3 => absurd ⟨j, s, h1, h2, by simpa using h3⟩ hm⟩
        omega
  rw [← hkey]
  cases hR : rustsR b str w l 0 0 (b.plates.map Plate.rust) with
  | some r =>
    simp only [Option.isSome_some, true_iff]
    intro p hp
    have := hsp.1 r hR p hp
    rw [hr0 p hp] at this
    rw [← this.1]
    exact this.2
  | none =>
    simp only [Option.isSome_none, Bool.false_eq_true, false_iff]
    intro hall
    obtain ⟨p, hp, h1⟩ := hsp.2 hR
    rw [hr0 p hp] at h1
    have := hall p hp
    omega

theorem rowW_ex {p : Plate} (loses h : Int) (hp : p.Ok) : rowW p loses (nR p) h = true ↔ ∃ x, (p.rust.lo ≤ x ∧ x ≤ p.rust.hi) ∧ howP p x loses = h := by
  simp only [Plate.Ok] at hp
  have hn : p.rust.lo + (nR p : Int) = p.rust.hi + 1 := by simp only [nR]; omega
  simp only [rowW, List.any_eq_true, List.mem_range, decide_eq_true_eq]
  constructor
  · rintro ⟨k, hk, e⟩
    exact ⟨p.rust.lo + k, by omega, e⟩
  · rintro ⟨x, hx, e⟩
    refine ⟨(x - p.rust.lo).toNat, by omega, ?_⟩
    rw [show p.rust.lo + (((x - p.rust.lo).toNat : Nat) : Int) = x by omega]
    exact e

theorem truth_fits {b : Bath} {l : List Seen} (h : Lgs b l) {o : Nat → Bool} (w : Nat) (ho : ∀ j, j < l.length → o j = w.testBit j) : truthR b l o (nS b) = fitsB b l w := by
  obtain ⟨s1, _⟩ := h.ok
  rw [Bool.eq_iff_iff, truthR_iff]
  have hf : fitsB b l w = true ↔ ∃ j, j < nS b ∧ (rustsP ⟨b, l, w⟩ (b.str.lo + (j : Int))).isSome = true := by
    rw [fitsB, Bool.not_eq_true', ← Bool.not_eq_true, List.isEmpty_iff, canL, List.filterMap_eq_nil_iff]
    simp only [List.mem_range]
    constructor
    · intro hn
      refine Classical.byContradiction fun hc => hn fun j hj => ?_
      cases hr : rustsP ⟨b, l, w⟩ (b.str.lo + (j : Int)) with
      | none => rfl
      | some r => exact absurd ⟨j, hj, by rw [hr]; rfl⟩ hc
    · rintro ⟨j, hj, hr⟩ hn
      have := hn j hj
      cases hr' : rustsP ⟨b, l, w⟩ (b.str.lo + (j : Int)) with
      | none => rw [hr'] at hr; cases hr
      | some r => rw [hr'] at this; cases this
  rw [hf]
  refine exists_congr fun i => and_congr_right fun _ => ?_
  rw [allT_iff, rustsP_iff h w (by omega)]
  constructor
  · intro hc j s hj
    have hlt := (List.getElem?_eq_some_iff.1 hj).1
    have := hc j hlt
    rw [canT, Bool.or_eq_true, ho j hlt, List.getD_eq_getElem?_getD, hj, Option.getD_some, rowW_ex _ _ (h.ok.pl _)] at this
    exact this
  · intro hc j hlt
    have hj : l[j]? = some l[j] := List.getElem?_eq_getElem hlt
    have := hc j _ hj
    rw [canT, Bool.or_eq_true, ho j hlt, List.getD_eq_getElem?_getD, hj, Option.getD_some, rowW_ex _ _ (h.ok.pl _)]
    exact this
end Go.Aw
end

section
set_option maxRecDepth 100000
namespace Go.Aw
open Go Go.Proofs.Try

def Inn (a b : Sp) : Prop := b.lo ≤ a.lo ∧ a.hi ≤ b.hi

def atP (l : List Sp) (p : Nat) : Sp := l.getD p ⟨0, 0⟩

def stG (f : Nat → Option (List Sp)) (i : Nat) : Option (Nat × Nat × List Sp) :=
  ((List.range i).filterMap fun j : Nat => (f j).map fun r => (j, r)).foldl wasS none

theorem stG_none {f : Nat → Option (List Sp)} {i : Nat} (h : f i = none) : stG f (i + 1) = stG f i := by
  rw [stG, List.range_succ, List.filterMap_append, List.foldl_append]
  simp [h, stG]

theorem stG_some {f : Nat → Option (List Sp)} {i : Nat} {r : List Sp} (h : f i = some r) : stG f (i + 1) = wasS (stG f i) (i, r) := by
  rw [stG, List.range_succ, List.filterMap_append, List.foldl_append]
  simp [h, stG]

structure Hul (n : Nat) (f : Nat → Option (List Sp)) (i k h : Nat) (r : List Sp) : Prop where
  len : r.length = n
  kin : (f k).isSome = true
  hin : (f h).isSome = true
  kh : k ≤ h
  hlt : h < i
  all : ∀ j now, j < i → f j = some now → (k ≤ j ∧ j ≤ h) ∧ ∀ p : Nat, p < n → Inn (atP now p) (atP r p)
  least : ∀ R : Nat → Sp, (∀ j now, j < i → f j = some now → ∀ p : Nat, p < n → Inn (atP now p) (R p)) → ∀ p : Nat, p < n → Inn (atP r p) (R p)

theorem atP_both {r l : List Sp} {n p : Nat} (h1 : r.length = n) (h2 : l.length = n) (hp : p < n) : atP (List.zipWith both r l) p = both (atP r p) (atP l p) := by
  subst h1
  simp only [atP, List.getD_eq_getElem?_getD, List.getElem?_zipWith, List.getElem?_eq_getElem hp, List.getElem?_eq_getElem (show p < l.length by omega), Option.getD_some]

theorem hul {n : Nat} {f : Nat → Option (List Sp)} (hf : ∀ j r, f j = some r → r.length = n) : ∀ i, (stG f i = none → ∀ j, j < i → f j = none) ∧ ∀ k h r, stG f i = some (k, h, r) → Hul n f i k h r
  | 0 => ⟨fun _ j hj => by omega, fun k h r e => by simp [stG] at e⟩
  | i + 1 => by
    obtain ⟨h1, h2⟩ := hul hf i
    cases hr : f i with
    | none =>
      rw [stG_none hr]
      refine ⟨fun e j hj => ?_, fun k h r e => ?_⟩
      · by_cases hj' : j = i
        · rw [hj']; exact hr
        · exact h1 e j (by omega)
      · have H := h2 k h r e
        exact ⟨H.len, H.kin, H.hin, H.kh, by have := H.hlt; omega, fun j now hj hn => by
          by_cases hj' : j = i
          · rw [hj', hr] at hn; exact absurd hn (by simp)
          · exact H.all j now (by omega) hn, fun R hR => H.least R fun j now hj => hR j now (by omega)⟩
    | some now =>
      rw [stG_some hr]
      have hl := hf _ _ hr
      cases hs : stG f i with
      | none =>
        refine ⟨fun e => by simp [wasS] at e, fun k h r e => ?_⟩
        simp only [wasS, Option.some.injEq, Prod.mk.injEq] at e
        obtain ⟨rfl, rfl, rfl⟩ := e
        exact ⟨hl, by rw [hr]; rfl, by rw [hr]; rfl, Nat.le_refl _, by omega, fun j nw hj hn => by
          by_cases hj' : j = i
          · rw [hj', hr] at hn
            cases hn
            exact ⟨⟨by omega, by omega⟩, fun p _ => ⟨by omega, by omega⟩⟩
          · exact absurd ((h1 hs j (by omega)).symm.trans hn) (by simp), fun R hR p hp => hR i now (by omega) hr p hp⟩
      | some x =>
        obtain ⟨k', h', r'⟩ := x
        have H := h2 _ _ _ hs
        refine ⟨fun e => by simp [wasS] at e, fun k h r e => ?_⟩
        simp only [wasS, Option.some.injEq, Prod.mk.injEq] at e
        obtain ⟨rfl, rfl, rfl⟩ := e
        have hkh := H.kh
        have hlt := H.hlt
        have hb := fun (p : Nat) (hp : p < n) => atP_both H.len hl hp
        exact ⟨by rw [List.length_zipWith, H.len, hl, Nat.min_self], H.kin, by rw [hr]; rfl, by omega, by omega, fun j nw hj hn => by
          by_cases hj' : j = i
          · rw [hj', hr] at hn
            cases hn
            refine ⟨⟨by omega, by omega⟩, fun p hp => ?_⟩
            rw [hb p hp]
            simp only [Inn, both]
            omega
          · have := H.all j nw (by omega) hn
            refine ⟨⟨this.1.1, by omega⟩, fun p hp => ?_⟩
            have := this.2 p hp
            rw [hb p hp]
            simp only [Inn, both] at this ⊢
            omega, fun R hR p hp => by
          have a1 := H.least R (fun j nw hj => hR j nw (by omega)) p hp
          have a2 := hR i now (by omega) hr p hp
          rw [hb p hp]
          simp only [Inn, both] at a1 a2 ⊢
          omega⟩

theorem wasO_stG (b : Bath) (l : List Seen) (w : Nat) : wasO ⟨b, l, w⟩ = stG (fun j : Nat => rustsP ⟨b, l, w⟩ (b.str.lo + j)) (nS b) := rfl

/-- A rust of a plate by which all seen of it is so. -/
def Fit (b : Bath) (l : List Seen) (w : Nat) (str p x : Int) : Prop :=
  ((b.pl p).rust.lo ≤ x ∧ x ≤ (b.pl p).rust.hi) ∧ ∀ (j : Nat) (s : Seen), l[j]? = some s → s.step.plate = p → w.testBit j = false → howP (b.pl p) x (weakF b ((platesS l).take j) str * s.step.hours) = s.how

theorem rusts_at {b : Bath} {l : List Seen} (h : Lgs b l) (w : Nat) {str : Int} (hs : 0 ≤ str) :
    (∀ r, rustsP ⟨b, l, w⟩ str = some r → ∀ p : Nat, p < b.plates.length → (atP r p).lo ≤ (atP r p).hi ∧ ∀ x : Int, ((atP r p).lo ≤ x ∧ x ≤ (atP r p).hi) ↔ Fit b l w str p x) ∧
    (rustsP ⟨b, l, w⟩ str = none → ∃ p : Nat, p < b.plates.length ∧ ∀ x : Int, ¬ Fit b l w str p x) := by
  have hr0 : ∀ p : Nat, p < b.plates.length → nowL b (b.plates.map Plate.rust) p = (b.pl p).rust := fun p hp => by
    simp [nowL, Bath.pl, List.getD_eq_getElem?_getD, List.getElem?_eq_getElem hp]
  have hsp := rustsR_spec b str w l 0 0 (b.plates.map Plate.rust) (by simp) h.nodup (fun s hs => (h.mem s hs).1) (fun p hp => by
    rw [hr0 p hp]
    have := h.ok.pl p
    simp only [Plate.Ok] at this
    omega)
  have hwk := fun j => weak_aft h.ok ((platesS l).take j) str hs
  have heff : ∀ p x : Int, ((effR b str w p l 0 0 (b.pl p).rust).lo ≤ x ∧ x ≤ (effR b str w p l 0 0 (b.pl p).rust).hi) ↔ Fit b l w str p x := fun p x => by
    have := effR_iff h.ok str w p x l 0 0 (b.pl p).rust h.nodup h.how
    simp only [Int.zero_add, Nat.zero_add, ← hwk] at this
    exact this
  have hP : rustsP ⟨b, l, w⟩ str = rustsR b str w l 0 0 (b.plates.map Plate.rust) := rfl
  rw [hP]
  constructor
  · intro r hr p hp
    have h1 := hsp.1 r hr p hp
    rw [hr0 p hp] at h1
    have e : nowL b r p = atP r p := by simp [nowL, atP]
    rw [e] at h1
    refine ⟨h1.2, fun x => ?_⟩
    rw [h1.1]
    exact heff p x
  · intro hr
    obtain ⟨p, hp, h1⟩ := hsp.2 hr
    rw [hr0 p hp] at h1
    refine ⟨p, hp, fun x hx => ?_⟩
    have := (heff p x).2 hx
    omega

theorem inn_of {a b : Sp} (ha : a.lo ≤ a.hi) (h : ∀ x, (a.lo ≤ x ∧ x ≤ a.hi) → b.lo ≤ x ∧ x ≤ b.hi) : Inn a b := by
  have h1 := h a.lo ⟨Int.le_refl _, ha⟩
  have h2 := h a.hi ⟨ha, Int.le_refl _⟩
  exact ⟨h1.1, h2.2⟩

/-- The truth lies in what was. -/
theorem seen_truth {b : Bath} {l : List Seen} (h : Lgs b l) {i0 : Nat} (hi0 : i0 < nS b) {rusts : List Int} (hq : ∀ p : Nat, p < b.plates.length → Fit b l 0 (b.str.lo + i0) p (rusts.getD p 0)) :
    ∃ (k t : Nat) (r : List Sp), wasO ⟨b, l, 0⟩ = some (k, t, r) ∧ r.length = b.plates.length ∧ k ≤ i0 ∧ i0 ≤ t ∧ t < nS b ∧ ∀ p : Nat, p < b.plates.length → ((atP r p).lo ≤ rusts.getD p 0 ∧ rusts.getD p 0 ≤ (atP r p).hi) ∧ Inn (atP r p) (b.pl p).rust := by
  have s1 := h.ok.1
  have hf : ∀ (j : Nat) (r : List Sp), rustsP ⟨b, l, 0⟩ (b.str.lo + j) = some r → r.length = b.plates.length := fun j r hr => rustsP_len hr
  have H := hul hf (nS b)
  rw [wasO_stG]
  obtain ⟨now, hnow⟩ : ∃ now, rustsP ⟨b, l, 0⟩ (b.str.lo + i0) = some now := by
    cases hr : rustsP ⟨b, l, 0⟩ (b.str.lo + i0) with
    | some now => exact ⟨now, rfl⟩
    | none =>
      obtain ⟨p, hp, hx⟩ := (rusts_at h 0 (by omega)).2 hr
      exact absurd (hq p hp) (hx _)
  cases hs : stG (fun j : Nat => rustsP ⟨b, l, 0⟩ (b.str.lo + j)) (nS b) with
  | none =>
    have := H.1 hs i0 hi0
    rw [hnow] at this
    cases this
  | some x =>
    obtain ⟨k, t, r⟩ := x
    have K := H.2 _ _ _ hs
    have hi := K.all i0 now hi0 hnow
    refine ⟨k, t, r, rfl, K.len, hi.1.1, hi.1.2, K.hlt, fun p hp => ⟨?_, ?_⟩⟩
    · have h1 := (((rusts_at h 0 (by omega)).1 now hnow p hp).2 _).2 (hq p hp)
      have h2 := hi.2 p hp
      simp only [Inn] at h2
      omega
    · refine K.least (fun p => (b.pl p).rust) (fun j nw hj hn p hp => ?_) p hp
      have h1 := (rusts_at h 0 (by omega)).1 nw hn p hp
      exact inn_of h1.1 fun x hx => ((h1.2 x).1 hx).1

theorem lgs_take {b : Bath} {l : List Seen} (h : Lgs b l) (m : Nat) : Lgs b (l.take m) :=
  ⟨h.ok, by have := h.len; simp; omega, fun s hs => h.mem s (List.mem_of_mem_take hs), fun s hs => h.how s (List.mem_of_mem_take hs), by
    have : platesS (l.take m) = (platesS l).take m := by simp [platesS, platesOf]
    rw [this]
    exact h.nodup.sublist (List.take_sublist _ _)⟩

theorem fit_take {b : Bath} {l : List Seen} {m : Nat} {str p x : Int} (hx : Fit b l 0 str p x) : Fit b (l.take m) 0 str p x := by
  refine ⟨hx.1, fun j s hj hp hw => ?_⟩
  have e : platesS (l.take m) = (platesS l).take m := by simp [platesS, platesOf]
  rw [List.getElem?_take] at hj
  split at hj
  · rename_i hlt
    rw [e, List.take_take, Nat.min_eq_left (by omega)]
    exact hx.2 j s hj hp hw
  · cases hj

/-- With one thing less no span is narrower. -/
theorem seen_take {b : Bath} {l : List Seen} (h : Lgs b l) (m : Nat) {k t : Nat} {r : List Sp} (hw : wasO ⟨b, l, 0⟩ = some (k, t, r)) :
    ∃ (k' t' : Nat) (r' : List Sp), wasO ⟨b, l.take m, 0⟩ = some (k', t', r') ∧ k' ≤ k ∧ t ≤ t' ∧ r'.length = b.plates.length ∧ ∀ p : Nat, p < b.plates.length → Inn (atP r p) (atP r' p) := by
  have s1 := h.ok.1
  have hT := lgs_take h m
  have H := (hul (fun (j : Nat) (r : List Sp) (hr : rustsP ⟨b, l, 0⟩ (b.str.lo + j) = some r) => rustsP_len hr) (nS b)).2 k t r (by rw [← wasO_stG]; exact hw)
  have hle : ∀ (j : Nat) (now : List Sp), rustsP ⟨b, l, 0⟩ (b.str.lo + j) = some now → ∃ now', rustsP ⟨b, l.take m, 0⟩ (b.str.lo + j) = some now' ∧ ∀ p : Nat, p < b.plates.length → Inn (atP now p) (atP now' p) := fun j now hn => by
    have h1 := (rusts_at h 0 (by omega)).1 now hn
    cases hr : rustsP ⟨b, l.take m, 0⟩ (b.str.lo + j) with
    | none =>
      obtain ⟨p, hp, hx⟩ := (rusts_at hT 0 (by omega)).2 hr
      exact absurd (fit_take (((h1 p hp).2 _).1 ⟨Int.le_refl _, (h1 p hp).1⟩)) (hx _)
    | some now' =>
      refine ⟨now', rfl, fun p hp => inn_of (h1 p hp).1 fun x hx => ?_⟩
      exact (((rusts_at hT 0 (by omega)).1 now' hr p hp).2 x).2 (fit_take (((h1 p hp).2 x).1 hx))
  have H' := hul (fun (j : Nat) (r : List Sp) (hr : rustsP ⟨b, l.take m, 0⟩ (b.str.lo + j) = some r) => rustsP_len hr) (nS b)
  rw [wasO_stG]
  obtain ⟨nk, hnk⟩ := Option.isSome_iff_exists.1 H.kin
  obtain ⟨nt, hnt⟩ := Option.isSome_iff_exists.1 H.hin
  obtain ⟨nk', hnk', _⟩ := hle k nk hnk
  obtain ⟨nt', hnt', _⟩ := hle t nt hnt
  have hkh := H.kh
  have hlt := H.hlt
  cases hs : stG (fun j : Nat => rustsP ⟨b, l.take m, 0⟩ (b.str.lo + j)) (nS b) with
  | none =>
    have := H'.1 hs k (by omega)
    rw [hnk'] at this
    cases this
  | some x =>
    obtain ⟨k', t', r'⟩ := x
    have K := H'.2 _ _ _ hs
    refine ⟨k', t', r', rfl, (K.all k nk' (by omega) hnk').1.1, (K.all t nt' (by omega) hnt').1.2, K.len, fun p hp => ?_⟩
    refine H.least (fun p => atP r' p) (fun j now hj hn p hp => ?_) p hp
    obtain ⟨now', hn', hi⟩ := hle j now hn
    have a1 := hi p hp
    have a2 := (K.all j now' hj hn').2 p hp
    simp only [Inn] at a1 a2 ⊢
    omega

/-- Of things seen wrong: without them there is a truth. -/
theorem fits_of {b : Bath} {l : List Seen} (h : Lgs b l) {w i0 : Nat} (hi0 : i0 < nS b) {rusts : List Int} (hq : ∀ p : Nat, p < b.plates.length → Fit b l w (b.str.lo + i0) p (rusts.getD p 0)) : fitsB b l w = true := by
  have s1 := h.ok.1
  rw [fitsB, Bool.not_eq_true', ← Bool.not_eq_true, List.isEmpty_iff, canL, List.filterMap_eq_nil_iff]
  intro hn
  have := hn i0 (List.mem_range.2 hi0)
  cases hr : rustsP ⟨b, l, w⟩ (b.str.lo + i0) with
  | some now => rw [hr] at this; cases this
  | none =>
    obtain ⟨p, hp, hx⟩ := (rusts_at h w (by omega)).2 hr
    exact absurd (hq p hp) (hx _)

theorem bits_lt : ∀ n, n < 6 → ∀ s, s < 2 ^ n → ∀ c ∈ bitsL s, c < n := by decide +kernel
theorem bits_pw : ∀ s, s < 32 → (bitsL s).Pairwise (· < ·) := by decide +kernel
theorem out_bits : ∀ s, s < 32 → ∀ j, j < 5 → outQ (bitsL s) (-1) j (bitsL s).length = s.testBit j := by decide +kernel
theorem out_less : ∀ n, n < 6 → ∀ s, s < 2 ^ n → ∀ k, k < (bitsL s).length → ∃ w, w < 2 ^ n ∧ (bitsL w).length < (bitsL s).length ∧ ∀ j, j < 5 → outQ (bitsL s) k j (bitsL s).length = w.testBit j := by decide +kernel

/-- What must be wrong: it is the least. -/
theorem wrong_least {b : Bath} {l : List Seen} (h : Lgs b l) (hw : fitsB b l 0 = false) : ∃ s, s < 2 ^ l.length ∧ wrongV b l = (if logE b l = 0 then .tup [.d (.sl (natsD (bitsL s))), .d (.int .i64 0)] else wrongV b l) ∧ bitsL s ≠ [] ∧ fitsB b l s = true ∧ ∀ y, y < 2 ^ l.length → fitsB b l y = true → (bitsL s).length ≤ (bitsL y).length := by
  obtain ⟨p, h1, h2, h3, h4⟩ := wrongF_some h hw
  rcases wrongR_spec (okB b l) (2 ^ l.length) with ⟨e, _⟩ | ⟨_, ⟨x, x1, x2, x3⟩, hmin⟩
  · rw [e] at h4; cases h4
  · rw [h4] at x3 hmin
    simp only at x3 hmin
    refine ⟨x, x1, ?_, by rw [← x3]; exact h2, by rw [← okB_fits h]; exact x2, fun y hy hf => ?_⟩
    · split
      · rename_i h0
        rw [wrongV, if_pos h0, h1, ← x3]
        simp only [if_neg h2]
      · rfl
    · have := hmin y hy (by rw [okB_fits h]; exact hf)
      rw [x3, lessN] at this
      split at this
      · simp at this; omega
      · omega
end Go.Aw
end

section
set_option maxRecDepth 100000
namespace Go.Aw
open Go Go.Proofs.Try

theorem c70 {b : Bath} (hok : b.Ok) {l : List Seen} (hl : l.length ≤ 1000) (hm : ∀ s ∈ l, (0 ≤ s.step.plate ∧ s.step.plate < b.plates.length) ∧ 1 ≤ s.step.hours ∧ s.step.hours ≤ 24) (but : List Nat) (hbl : but.length ≤ 1000) (skip : Int) :
    PC prog 70 [.d b.d, .d (.sl (l.map Seen.d)), .d (.sl (natsD but)), .d (.int .i64 skip)] (.d (.bool (truthR b l (fun i => outQ but skip i but.length) (nS b)))) := by
  obtain ⟨s1, s2, s3, _, _⟩ := id hok
  have hns : b.str.lo + (nS b : Int) = b.str.hi + 1 := by simp only [nS]; omega
  generalize ho : (fun i => outQ but skip i but.length) = o
  have hbn : (natsD but).length = but.length := by simp [natsD]
  refine PC.run (fun _ => false) tt_ok (fn := f70) (rs := [.tmp 8]) rfl rfl rfl rfl rfl rfl rfl ?_
  simp only [go_sem, Bath.d]
  refine ALoop.by (S := Nat) (fun i => [(9, .d (.int .i64 (b.str.lo + i))), (4, .ptr 0 0), (3, .d (.int .i64 skip)), (2, .d (.sl (natsD but))), (1, .d (.sl (l.map Seen.d)))]) (fun _ => [bthB b]) (fun i => nS b - i) (fun i => i ≤ nS b ∧ truthR b l o i = false) 0 (Nat.zero_le _) (fun _ h => nomatch h) ⟨Nat.zero_le _, rfl⟩ ?_ ?_
  · exact ForgetTo.same' (Nat.zero_le _) (by simp [EWe, Env.look]) (by simp [bthB])
  rintro i ⟨hi, hti⟩ hn
  refine AWP.run (fun _ => false) tt_ok (fun _ h => nomatch h) (Nat.zero_le _) rfl ?_
  simp only [go_sem, bthB]
  refine Br_split (fun hd => ?_) (fun hd => ?_) <;> simp only [go_sem, hd]
  · have hlt : i < nS b := by simp only [decide_eq_true_eq] at hd; omega
    have hsx : IntKind.i64.wrap (b.str.lo + i + 1) = b.str.lo + ((i + 1 : Nat) : Int) := by rw [w64 (by omega) (by omega)]; omega
    have hts : truthR b l o (i + 1) = allT b l o (b.str.lo + i) l.length := by rw [truthR, hti, Bool.false_or]
    refine ALoop.by (S := Nat) (fun j => [(12, .d (.int .i64 j)), (11, .d (.bool (allT b l o (b.str.lo + i) j))), (10, .d (.int .i64 (weakF b ((platesS l).take j) (b.str.lo + i)))), (9, .d (.int .i64 (b.str.lo + i))), (4, .ptr 0 0), (3, .d (.int .i64 skip)), (2, .d (.sl (natsD but))), (1, .d (.sl (l.map Seen.d)))]) (fun _ => [bthB b]) (fun j => l.length - j) (fun j => j ≤ l.length) 0 (Nat.zero_le _) (fun _ h => nomatch h) (Nat.zero_le _) ?_ ?_
    · exact ForgetTo.same' (Nat.zero_le _) (by simp [EWe, Env.look, allT, weakF]) (by simp [bthB])
    rintro j hj hnj
    refine AWP.run (fun _ => false) tt_ok (fun _ h => nomatch h) (Nat.zero_le _) rfl ?_
    simp only [go_sem, bthB]
    refine Br_split (fun he => ?_) (fun he => ?_) <;> simp only [go_sem, he]
    · have hjl : j < l.length := by simpa using he
      have hmj := hm _ (List.getElem_mem hjl)
      have hix : idx? (l.map Seen.d) (j : Int) = some (l[j]).d := by simp [idx?, List.getElem?_eq_getElem hjl]
      have hgd : l.getD j seen0 = l[j] := by rw [List.getD_eq_getElem?_getD, List.getElem?_eq_getElem hjl]; rfl
      have htk : (platesS l).take (j + 1) = (platesS l).take j ++ [(l[j]).step.plate] := by
        rw [List.take_add_one]
        congr 1
        simp [platesS, platesOf, List.getElem?_eq_getElem hjl]
      have hws : weakF b ((platesS l).take (j + 1)) (b.str.lo + i) = max 0 (weakF b ((platesS l).take j) (b.str.lo + i) - (b.pl (l[j]).step.plate).takes) := by
        rw [htk, weakF, List.foldl_append]; rfl
      have has : allT b l o (b.str.lo + i) (j + 1) = (allT b l o (b.str.lo + i) j && (o j || rowW (b.pl (l[j]).step.plate) (weakF b ((platesS l).take j) (b.str.lo + i) * (l[j]).step.hours) (nR (b.pl (l[j]).step.plate)) (l[j]).how)) := by
        rw [allT, canT, hgd]
      have hwb := weakF_bnd hok ((platesS l).take j) (b.str.lo + i) (by omega) (by omega)
      have hat := Bath.at (b := b) hmj.1
      have hpl := hok.pl (l[j]).step.plate
      generalize weakF b ((platesS l).take j) (b.str.lo + i) = now at hws has hwb
      generalize b.pl (l[j]).step.plate = p at hat hpl hws has
      generalize allT b l o (b.str.lo + i) j = ok at has
      generalize l[j] = s at hix hgd hmj hat has
      have hpl' := hpl
      simp only [Plate.Ok] at hpl'
      have hnr : p.rust.lo + (nR p : Int) = p.rust.hi + 1 := by simp only [nR]; omega
      simp only [Seen.d] at hix
      refine ADrw.treeG (fun _ => false) tt_ok (by kernel_rfl) (fun k => if k = 1 then some .L else if k = 11 then some .W else if k = 10 then some .A else some .S) (.ones [0, 1, 2, 3, 4, 5, 6, 7, 8, 9, 10, 11, 12] .done) (Nat.zero_le _) (fun _ h => nomatch h) rfl rfl (by kernel_rfl) ?_
      simp only [go_sem, hix, hat, Plate.d]
      refine ALoop.by (S := Nat) (fun k => [(15, .d (.int .i64 k)), (14, .d (.bool (outQ but skip j k))), (13, .ptr 1 0), (12, .d (.int .i64 j)), (11, .d (.bool ok)), (10, .d (.int .i64 now)), (9, .d (.int .i64 (b.str.lo + i))), (4, .ptr 0 0), (3, .d (.int .i64 skip)), (2, .d (.sl (natsD but))), (1, .d (.sl (l.map Seen.d)))]) (fun _ => [bthB b, pltB p]) (fun k => but.length - k) (fun k => k ≤ but.length) 0 (Nat.zero_le _) (fun _ h => nomatch h) (Nat.zero_le _) ?_ ?_
      · exact ForgetTo.same' (by simp) (by simp [EWe, Env.look, outQ]) (by simp [bthB, pltB])
      rintro k hk hnk
      refine AWP.run (fun _ => false) tt_ok (fun _ h => nomatch h) (by simp) rfl ?_
      simp only [go_sem, bthB, pltB, hbn]
      refine Br_split (fun hf => ?_) (fun hf => ?_) <;> simp only [go_sem, hf]
      · have hkl : k < but.length := by simpa using hf
        have hik : idx? (natsD but) (k : Int) = some (.int .i64 ((but[k] : Nat) : Int)) := by simp [idx?, natsD, List.getElem?_eq_getElem hkl]
        have hos : outQ but skip j (k + 1) = (outQ but skip j k || (decide (but[k] = j) && decide ((k : Int) ≠ skip))) := by
          rw [outQ, List.getD_eq_getElem?_getD, List.getElem?_eq_getElem hkl]; rfl
        generalize outQ but skip j k = ou at hos
        generalize but[k] = a at hik hos
        cases ou
        · by_cases ha : a = j
          · have ha' : decide ((a : Int) = (j : Int)) = true := by rw [ha]; simp
            by_cases hs : (k : Int) = skip
            · have hs1 : decide ((k : Int) = skip) = true := by simpa using hs
              have hs2 : decide (¬ (k : Int) = skip) = false := by simpa using hs
              simp only [go_sem, hik, ha', hs1, hs2]
              refine ⟨k + 1, hkl, by omega, ?_⟩
              have hwk : IntKind.i64.wrap (skip + 1) = skip + 1 := by rw [← hs]; exact w64 (by omega) (by omega)
              exact ForgetTo.same' (by simp) (by simp [EWe, Env.look, hos, ha, hs, hwk]) rfl
            · have hs1 : decide ((k : Int) = skip) = false := by simpa using hs
              have hs2 : decide (¬ (k : Int) = skip) = true := by simpa using hs
              simp only [go_sem, hik, ha', hs1, hs2]
              refine ⟨k + 1, hkl, by omega, ?_⟩
              exact ForgetTo.same' (by simp) (by simp [EWe, Env.look, hos, ha, hs, w64 (n := (k : Int) + 1) (by omega) (by omega)]) rfl
          · have ha' : decide ((a : Int) = (j : Int)) = false := by simp only [decide_eq_false_iff_not]; omega
            simp only [go_sem, hik, ha']
            refine ⟨k + 1, hkl, by omega, ?_⟩
            exact ForgetTo.same' (by simp) (by simp [EWe, Env.look, hos, ha, w64 (n := (k : Int) + 1) (by omega) (by omega)]) rfl
        · simp only [go_sem]
          refine ⟨k + 1, hkl, by omega, ?_⟩
          exact ForgetTo.same' (by simp) (by simp [EWe, Env.look, hos, w64 (n := (k : Int) + 1) (by omega) (by omega)]) rfl
      · have hke : k = but.length := by simp only [decide_eq_false_iff_not] at hf; omega
        subst hke
        have hoj : outQ but skip j but.length = o j := by rw [← ho]
        rw [hoj]
        generalize o j = ou at has
        simp only [go_sem]
        refine ALoop.by (S := Nat) (fun t => [(17, .d (.int .i64 (p.rust.lo + t))), (16, .d (.bool (ou || rowW p (now * s.step.hours) t s.how))), (13, .ptr 1 0), (12, .d (.int .i64 j)), (11, .d (.bool ok)), (10, .d (.int .i64 now)), (9, .d (.int .i64 (b.str.lo + i))), (4, .ptr 0 0), (3, .d (.int .i64 skip)), (2, .d (.sl (natsD but))), (1, .d (.sl (l.map Seen.d)))]) (fun _ => [bthB b, pltB p]) (fun t => nR p - t) (fun t => t ≤ nR p) 0 (by simp) (fun _ h => nomatch h) (Nat.zero_le _) ?_ ?_
        · exact ForgetTo.same' (by simp) (by simp [EWe, Env.look, rowW]) (by simp [bthB, pltB])
        rintro t ht hnt
        refine AWP.run (fun _ => false) tt_ok (fun _ h => nomatch h) (by simp) rfl ?_
        simp only [go_sem, bthB, pltB]
        refine Br_split (fun hg => ?_) (fun hg => ?_) <;> simp only [go_sem, hg]
        · have htl : t < nR p := by simp only [decide_eq_true_eq] at hg; omega
          have hlo : 0 ≤ now * s.step.hours ∧ now * s.step.hours ≤ 40 * 24 := ⟨Int.mul_nonneg (by omega) (by omega), Int.mul_le_mul (by omega) (by omega) (by omega) (by omega)⟩
          have hw1 : IntKind.i64.wrap (now * s.step.hours) = now * s.step.hours := w64 (by omega) (by omega)
          have hw2 : IntKind.i64.wrap (p.rust.lo + t + p.thin) = p.rust.lo + t + p.thin := w64 (by omega) (by omega)
          have hrs := rowW_succ p (now * s.step.hours) t s.how
          have hrx : IntKind.i64.wrap (p.rust.lo + t + 1) = p.rust.lo + ((t + 1 : Nat) : Int) := by rw [w64 (by omega) (by omega)]; omega
          rw [howP] at hrs
          generalize rowW p (now * s.step.hours) t s.how = r at hrs
          simp only [go_sem, hix, hw1]
          refine Br_split (fun h1 => ?_) (fun h1 => ?_) <;> simp only [go_sem, h1, hw2]
          all_goals
            refine Br_split (fun h2 => ?_) (fun h2 => ?_) <;> simp only [go_sem, h2, hix]
          all_goals
            cases hc : (ou || r)
            all_goals
              simp only [go_sem, hix]
              refine ⟨t + 1, htl, by omega, ?_⟩
              refine ForgetTo.same' (by simp) ?_ rfl
              simp only [decide_eq_true_eq, decide_eq_false_iff_not] at h1 h2
              first
                | (exfalso; omega; done)
                | (simp [h1, h2] at hrs
                   simp [EWe, Env.look, hrs, hrx, ← Bool.or_assoc, hc, eq_comm])
        · have hte : t = nR p := by simp only [decide_eq_false_iff_not] at hg; omega
          subst hte
          have hjx : IntKind.i64.wrap ((j : Int) + 1) = (j : Int) + 1 := w64 (by omega) (by omega)
          have hnx : IntKind.i64.wrap (now - p.takes) = now - p.takes := w64 (by omega) (by omega)
          generalize (ou || rowW p (now * s.step.hours) (nR p) s.how) = ca at has
          refine ADrw.treeG (fun _ => false) tt_ok (by kernel_rfl) (fun k => if k = 6 then some .L else some .S) (.ones [0, 1, 2, 3, 4, 5, 6, 7, 8, 9, 10] .done) (by simp) (fun _ h => nomatch h) rfl rfl (by kernel_rfl) ?_
          cases ok
          all_goals
            simp only [go_sem, hnx]
            refine ⟨j + 1, hjl, by omega, ?_⟩
            refine ForgetTo.drop (H0 := [_]) (Y := [_]) (Nat.zero_le _) rfl (by simp [BBs, BB, VBs, VB, bthB]) ?_
            simp [EWp, Env.look, has, hws, hjx, -List.map_take, VB, pubV]
    · have hje : j = l.length := by simp only [decide_eq_false_iff_not] at he; omega
      subst hje
      rw [← hts]
      cases hts' : truthR b l o (i + 1)
      · simp only [go_sem]
        refine ⟨i + 1, ⟨hlt, hts'⟩, by omega, ?_⟩
        exact ForgetTo.same' (by simp) (by simp [EWe, Env.look, hsx]) rfl
      · have hall : truthR b l o (nS b) = true := by
          obtain ⟨q, h1, h2⟩ := (truthR_iff b l o (i + 1)).1 hts'
          exact (truthR_iff b l o (nS b)).2 ⟨q, by omega, h2⟩
        rw [hall]
        simp only [go_sem]
  · have hie : i = nS b := by simp only [decide_eq_false_iff_not] at hd; omega
    subst hie
    rw [hti]
end Go.Aw
end

section
set_option maxRecDepth 100000
namespace Go.Aw
open Go Go.Proofs.Try

def vatB (x : Vat) : Blk := .cells [.d (.int .u8 x.s.a), .d (.int .u8 x.s.b), .d (.int .u8 x.s.c), .d (.sl (x.plates.map B4.d))]
def badB (v : B4) : Blk := .cells [.d (.int .u8 v.a), .d (.int .u8 v.b), .d (.int .u8 v.c), .d (.int .u8 v.e)]
def hSn (x : Vat) (bad : B4) (b : Bath) (r l : List Seen) : Heap := [vatB x, badB bad, bthB b, .arr 3 false (r.map Seen.d), .arr 3 false (l.map Seen.d)]

theorem c15_tail {x : Vat} {bad : B4} {b : Bath} {r l : List Seen} (h0 : logE b l = 0) {many : Nat} (hM : ∃ y, y < 2 ^ l.length ∧ fitsB b l y = true ∧ (bitsL y).length = many) :
    AWP prog f15.ntmps 0 none (restC 9 (bodyOf f15)) [(13, .d (.int .i64 many)), (12, .ref 4 l.length 0 l.length), (7, .ptr 2 0)] (hSn x bad b r l) (FnPost Tt [.tmp 6] 0 fun r H' => H' = [] ∧ r = .d (.bool true)) := by
  have hL := logE_iff h0
  have hl5 := hL.len
  have hb5 := hL.ok.2.2.2.1
  have hd0 : ∀ {α : Type} [DecidableEq α] (l : α), decide (l = l) = true := fun l => by simp
  have hlen : (hSn x bad b r l).length = 5 := rfl
  have hm0 : decide ((many : Int) < 0) = false := by simp only [decide_eq_false_iff_not]; omega
  have hsz := sized_seens l
  have hle : l.length ≤ 4294967296 := by omega
  have htk : (l.map Seen.d).take l.length = l.map Seen.d := List.take_of_length_le (by simp)
  have h49 := c49 b l (by omega) (by omega)
  have h50 := c50 b l (by omega) (by omega)
  have hfit : fitsB b l 0 = (wasO ⟨b, l, 0⟩).isSome := by rw [← okB_fits hL, okB, stQ_was hL 0]
  cases hw : wasO ⟨b, l, 0⟩ with
  | some y =>
    obtain ⟨k, h, rr⟩ := y
    rw [hw] at hfit
    obtain ⟨p, hp1, hp2⟩ := wrongF_zero hL hfit
    have e1 : wasV b l = .tup [.d (Sp.mk (b.str.lo + k) (b.str.lo + h)).d, .d (.sl (rr.map Sp.d)), .d (.int .i64 0)] := by rw [wasV, if_pos h0, hw]
    have e2 : wrongV b l = .tup [.slx (some true) [], .d (.int .i64 6)] := by rw [wrongV, if_pos h0, hp1]; simp only [if_pos hp2]
    rw [e1] at h49
    rw [e2] at h50
    refine AWP.runS (fun k => k == 43 || k == 44) tt_ok (fun _ h => nomatch h) (Nat.zero_le _) rfl ?_
    simp only [go_sem, hSn, bthB]
    refine (c60 b (by omega)).call rfl rfl rfl ?_
    simp only [go_sem, htk, hsz, hle, List.nil_append, Nat.zero_add]
    refine h49.call rfl rfl rfl ?_
    simp only [go_sem, Sp.d]
    refine (c60 b (by omega)).call rfl rfl rfl ?_
    simp only [go_sem, htk, hsz, hle, List.nil_append, Nat.zero_add]
    refine h50.call rfl rfl rfl ?_
    simp only [go_sem, hm0]
    refine ALoop.by (S := Unit) (fun _ => [(32, .d (.int .i64 0)), (31, .d (.int .i64 6)), (30, .slx (some true) []), (7, .ptr 2 0)]) (fun _ => hSn x bad b r l) (fun _ => 0) (fun _ => True) () (Nat.zero_le _) (fun _ h => nomatch h) trivial ?_ ?_
    · refine ForgetTo.drop (H0 := [_, _, _, _, _]) (Y := [_]) (Nat.zero_le _) rfl (by simp [BBs, BB, VBs, VB, hSn, vatB, badB, bthB]) ?_
      simp [EWp, Env.look, pubV, hlen]
    rintro u - hn
    refine AWP.run (fun k => k == 43 || k == 44) tt_ok (fun _ h => nomatch h) (Nat.zero_le _) rfl ?_
    simp only [go_sem, hSn, bthB]
    refine c17.call rfl rfl rfl ?_
    simp only [go_sem]
  | none =>
    rw [hw] at hfit
    obtain ⟨s, s1, s2, s3, s4, s5⟩ := wrong_least hL hfit
    rw [if_pos h0] at s2
    have e1 : wasV b l = .tup [.d sp0.d, .slx (some true) [], .d (.int .i64 9)] := by rw [wasV, if_pos h0, hw]
    rw [e1] at h49
    rw [s2] at h50
    obtain ⟨y, y1, y2, y3⟩ := hM
    have hmany := s5 y y1 y2
    have h2n : 2 ^ l.length ≤ 32 := Nat.pow_le_pow_right (n := 2) (by omega) hl5
    have hs32 : s < 32 := by omega
    have hbl : (natsD (bitsL s)).length = (bitsL s).length := by simp [natsD]
    have hbl5 : (bitsL s).length ≤ 5 := by
      have := List.length_filter_le (fun j => s.testBit j) (List.range 5)
      simpa [bitsL] using this
    have hb1 := bits_lt l.length (by omega) s s1
    have hb2 := bits_pw s hs32
    have hne : (bitsL s).length ≠ 0 := fun e => s3 (List.length_eq_zero_iff.1 e)
    have ho1 := out_bits s hs32
    have ho2 := out_less l.length (by omega) s s1
    have d1 : decide (((bitsL s).length : Int) = 0) = false := by simp only [decide_eq_false_iff_not]; omega
    have d2 : decide ((many : Int) < (bitsL s).length) = false := by simp only [decide_eq_false_iff_not]; omega
    have h70 := fun k : Int => c70 hL.ok (by omega) hL.mem (bitsL s) (by omega) k
    have hneg : truthR b l (fun i => outQ (bitsL s) (-1) i (bitsL s).length) (nS b) = true := by
      rw [truth_fits hL s (fun j hj => ho1 j (by omega))]
      exact s4
    have hpos : ∀ k : Nat, k < (bitsL s).length → truthR b l (fun i => outQ (bitsL s) k i (bitsL s).length) (nS b) = false := fun k hk => by
      obtain ⟨w, w1, w2, w3⟩ := ho2 k hk
      rw [truth_fits hL w (fun j hj => w3 j (by omega))]
      cases hf : fitsB b l w with
      | false => rfl
      | true => exact absurd (s5 w w1 hf) (by omega)
    generalize bitsL s = ws at *
    refine AWP.runS (fun k => k == 43 || k == 44) tt_ok (fun _ h => nomatch h) (Nat.zero_le _) rfl ?_
    simp only [go_sem, hSn, bthB]
    refine (c60 b (by omega)).call rfl rfl rfl ?_
    simp only [go_sem, htk, hsz, hle, List.nil_append, Nat.zero_add]
    refine h49.call rfl rfl rfl ?_
    simp only [go_sem, Sp.d]
    refine (c60 b (by omega)).call rfl rfl rfl ?_
    simp only [go_sem, htk, hsz, hle, List.nil_append, Nat.zero_add]
    refine h50.call rfl rfl rfl ?_
    simp only [go_sem, hbl, d1, d2]
    refine ALoop.by (S := Nat) (fun i => [(32, .d (.int .i64 i)), (31, .d (.int .i64 0)), (30, .d (.sl (natsD ws))), (12, .ref 4 l.length 0 l.length), (7, .ptr 2 0)]) (fun _ => hSn x bad b r l) (fun i => ws.length - i) (fun i => i ≤ ws.length) 0 (Nat.zero_le _) (fun _ h => nomatch h) (Nat.zero_le _) ?_ ?_
    · refine ForgetTo.drop (H0 := [_, _, _, _, _]) (Y := [_]) (Nat.zero_le _) rfl (by simp [BBs, BB, VBs, VB, hSn, vatB, badB, bthB]) ?_
      simp [EWp, Env.look, pubV, hlen]
    rintro i hi hn
    refine AWP.run (fun k => k == 43 || k == 44) tt_ok (fun _ h => nomatch h) (Nat.zero_le _) rfl ?_
    simp only [go_sem, hSn, bthB, hbl]
    refine Br_split (fun hd => ?_) (fun hd => ?_) <;> simp only [go_sem, hd]
    · have hlt : i < ws.length := by simpa using hd
      have hix : idx? (natsD ws) (i : Int) = some (.int .i64 ((ws[i] : Nat) : Int)) := by simp [idx?, natsD, List.getElem?_eq_getElem hlt]
      have hlo := hb1 ws[i] (List.getElem_mem hlt)
      have hnx : IntKind.i64.wrap ((i : Int) + 1) = (i : Int) + 1 := w64 (by omega) (by omega)
      have e1 : decide (((ws[i] : Nat) : Int) < 0) = false := by simp only [decide_eq_false_iff_not]; omega
      have e2 : decide ((l.length : Int) ≤ ((ws[i] : Nat) : Int)) = false := by simp only [decide_eq_false_iff_not]; omega
      refine ADrw.treeG (fun k => k == 43 || k == 44) tt_ok (by kernel_rfl) (fun k => if k = 11 then some .L else some .S) (.ones [0, 1, 2, 3, 4, 5, 6, 7, 8, 9, 10, 11, 12, 13, 14, 15, 16, 17, 18, 19, 20, 21, 22, 23, 24, 25, 26, 27, 28, 29] .done) (Nat.zero_le _) (fun _ h => nomatch h) rfl rfl (by kernel_rfl) ?_
      rcases Nat.eq_zero_or_pos i with hz | hz
      · subst hz
        have hix0 : (natsD ws)[0]? = some (.int .i64 ((ws[0] : Nat) : Int)) := by simp [natsD, List.getElem?_eq_getElem hlt]
        simp only [go_sem, hix0, e1, e2]
        refine ⟨1, hlt, by omega, ?_⟩
        exact ForgetTo.same' (Nat.zero_le _) (by simp [EWe, Env.look, w64 (n := 1) (by decide) (by decide)]) rfl
      · have e3 : decide ((0 : Int) < i) = true := by simpa using hz
        have hwp : IntKind.i64.wrap ((i : Int) - 1) = ((i - 1 : Nat) : Int) := by rw [w64 (by omega) (by omega)]; omega
        have hix2 : idx? (natsD ws) ((i - 1 : Nat) : Int) = some (.int .i64 ((ws[i - 1] : Nat) : Int)) := by simp [idx?, natsD, List.getElem?_eq_getElem (show i - 1 < ws.length by omega)]
        have e4 : decide (((ws[i] : Nat) : Int) ≤ ((ws[i - 1] : Nat) : Int)) = false := by
          have := List.pairwise_iff_getElem.1 hb2 (i - 1) i (by omega) hlt (by omega)
          simp only [decide_eq_false_iff_not]
          omega
        simp only [go_sem, hix, e1, e2, e3, hwp, hix2, e4]
        refine ⟨i + 1, hlt, by omega, ?_⟩
        exact ForgetTo.same' (Nat.zero_le _) (by simp [EWe, Env.look, hnx]) rfl
    · refine ALoop.by (S := Nat) (fun k => [(33, .d (.int .i64 ((k : Int) - 1))), (30, .d (.sl (natsD ws))), (12, .ref 4 l.length 0 l.length), (7, .ptr 2 0)]) (fun _ => hSn x bad b r l) (fun k => ws.length + 1 - k) (fun k => k ≤ ws.length + 1) 0 (Nat.zero_le _) (fun _ h => nomatch h) (Nat.zero_le _) ?_ ?_
      · exact ForgetTo.same' (Nat.zero_le _) (by simp [EWe, Env.look]) rfl
      rintro k hk hn2
      refine AWP.run (fun k => k == 43 || k == 44) tt_ok (fun _ h => nomatch h) (Nat.zero_le _) rfl ?_
      simp only [go_sem, hSn, bthB, hbl]
      refine Br_split (fun he => ?_) (fun he => ?_) <;> simp only [go_sem, he]
      · have hkl : k < ws.length + 1 := by simp only [decide_eq_true_eq] at he; omega
        have hnx : IntKind.i64.wrap ((k : Int) - 1 + 1) = (k : Int) := by rw [w64 (by omega) (by omega)]; omega
        simp only [go_sem, htk]
        refine (h70 ((k : Int) - 1)).callL rfl (by simp [pubVs, pubV, dz, Bath.d, htk]) rfl ?_
        rcases Nat.eq_zero_or_pos k with hz | hz
        · subst hz
          rw [show ((0 : Nat) : Int) - 1 = -1 by rfl, hneg]
          simp only [go_sem]
          refine ⟨1, by omega, by omega, ?_⟩
          exact ForgetTo.same' (Nat.zero_le _) (by simp [EWe, Env.look, w64 (n := 0) (by decide) (by decide)]) rfl
        · have e5 : decide ((k : Int) - 1 < 0) = false := by simp only [decide_eq_false_iff_not]; omega
          rw [show (k : Int) - 1 = ((k - 1 : Nat) : Int) by omega, hpos (k - 1) (by omega)]
          rw [show (k : Int) - 1 = ((k - 1 : Nat) : Int) by omega] at e5 hnx
          simp only [go_sem, e5]
          refine ⟨k + 1, by omega, by omega, ?_⟩
          exact ForgetTo.same' (Nat.zero_le _) (by simp [EWe, Env.look, hnx]) rfl
      · refine c17.call rfl rfl rfl ?_
        simp only [go_sem]
end Go.Aw
end

section
set_option maxRecDepth 100000
namespace Go.Aw
open Go Go.Proofs.Try

theorem at_sp {l : List Sp} {p : Nat} (h : p < l.length) : idx? (l.map Sp.d) (p : Int) = some (.agg [.int .i64 (atP l p).lo, .int .i64 (atP l p).hi]) := by
  simp [idx?, atP, List.getD_eq_getElem?_getD, List.getElem?_eq_getElem h, Sp.d]

theorem at_int {l : List Int} {p : Nat} (h : p < l.length) : idx? (l.map (D.int .i64)) (p : Int) = some (.int .i64 (l.getD p 0)) := by
  simp [idx?, List.getD_eq_getElem?_getD, List.getElem?_eq_getElem h]

def nowB (s : Sp) : Blk := .cells [.d (.int .i64 s.lo), .d (.int .i64 s.hi)]

theorem c15_mid {x : Vat} {bad : B4} {b : Bath} {r l : List Seen} {str : Int} {rusts : List Int} {many : Nat} (hok : b.Ok) (hrl : rusts.length = b.plates.length)
    (h0 : logE b r = 0) {k t : Nat} {rr : List Sp} (hw : wasO ⟨b, r, 0⟩ = some (k, t, rr)) (hrr : rr.length = b.plates.length) (hs : b.str.lo + k ≤ str ∧ str ≤ b.str.lo + t) (ht : t < nS b)
    (hin : ∀ p : Nat, p < b.plates.length → ((atP rr p).lo ≤ rusts.getD p 0 ∧ rusts.getD p 0 ≤ (atP rr p).hi) ∧ Inn (atP rr p) (b.pl p).rust)
    (h1 : logE b (r.take (r.length - 1)) = 0) {k' t' : Nat} {r' : List Sp} (hw' : wasO ⟨b, r.take (r.length - 1), 0⟩ = some (k', t', r')) (hr' : r'.length = b.plates.length) (hk' : k' ≤ k) (ht' : t ≤ t')
    (hin' : ∀ p : Nat, p < b.plates.length → Inn (atP rr p) (atP r' p))
    (htail : AWP prog f15.ntmps 0 none (restC 9 (bodyOf f15)) [(13, .d (.int .i64 many)), (12, .ref 4 l.length 0 l.length), (7, .ptr 2 0)] (hSn x bad b r l) (FnPost Tt [.tmp 6] 0 fun r H' => H' = [] ∧ r = .d (.bool true))) :
    AWP prog f15.ntmps 0 none (restC 5 (bodyOf f15)) [(13, .d (.int .i64 many)), (12, .ref 4 l.length 0 l.length), (11, .ref 3 r.length 0 r.length), (9, .d (.sl (rusts.map (.int .i64)))), (8, .d (.int .i64 str)), (7, .ptr 2 0)] (hSn x bad b r l) (FnPost Tt [.tmp 6] 0 fun r H' => H' = [] ∧ r = .d (.bool true)) := by
  have hL := logE_iff h0
  have hl5 := hL.len
  obtain ⟨s1, s2, s3, hb5, _⟩ := id hok
  have hns : b.str.lo + (nS b : Int) = b.str.hi + 1 := by simp only [nS]; omega
  have hlen : (hSn x bad b r l).length = 5 := rfl
  have hd0 : ∀ {α : Type} [DecidableEq α] (l : α), decide (l = l) = true := fun l => by simp
  have hsz := sized_seens r
  have hle : r.length ≤ 4294967296 := by omega
  have htk : (r.map Seen.d).take r.length = r.map Seen.d := List.take_of_length_le (by simp)
  have h49 := c49 b r (by omega) (by omega)
  rw [wasV, if_pos h0, hw] at h49
  simp only at h49
  have h49' := c49 b (r.take (r.length - 1)) (by omega) (by simp; omega)
  rw [wasV, if_pos h1, hw'] at h49'
  simp only at h49'
  have hrrl : ((rr.length : Int) = rusts.length) := by omega
  have dl : decide ((rr.length : Int) = (rusts.length : Int)) = true := by simp only [decide_eq_true_eq]; exact hrrl
  have h62 := c62 str ⟨b.str.lo + k, b.str.lo + t⟩
  rw [show decide (str ≥ (Sp.mk (b.str.lo + k) (b.str.lo + t)).lo) = true from decide_eq_true hs.1, show decide (str ≤ (Sp.mk (b.str.lo + k) (b.str.lo + t)).hi) = true from decide_eq_true hs.2] at h62
  have h69 := c69 ⟨b.str.lo + k, b.str.lo + t⟩ b.str
  rw [show decide ((Sp.mk (b.str.lo + k) (b.str.lo + t)).lo ≥ b.str.lo) = true from decide_eq_true (by show b.str.lo + k ≥ b.str.lo; omega), show decide ((Sp.mk (b.str.lo + k) (b.str.lo + t)).hi ≤ b.str.hi) = true from decide_eq_true (by show b.str.lo + t ≤ b.str.hi; omega), show decide ((Sp.mk (b.str.lo + k) (b.str.lo + t)).lo ≤ (Sp.mk (b.str.lo + k) (b.str.lo + t)).hi) = true from decide_eq_true (by show b.str.lo + (k : Int) ≤ b.str.lo + t; omega)] at h69
  refine AWP.stepN 2 [(19, .d (.sl (rr.map Sp.d))), (18, .ptr 5 0), (13, .d (.int .i64 many)), (12, .ref 4 l.length 0 l.length), (11, .ref 3 r.length 0 r.length), (9, .d (.sl (rusts.map (.int .i64)))), (7, .ptr 2 0)] (hSn x bad b r l ++ [nowB ⟨b.str.lo + k, b.str.lo + t⟩]) (fun k => k == 43 || k == 44) tt_ok (fun _ h => nomatch h) (Nat.zero_le _) rfl ?_ ?_
  · simp only [go_sem, hSn, bthB]
    refine (c60 b (by omega)).call rfl rfl rfl ?_
    simp only [go_sem, htk, hsz, hle, List.nil_append, Nat.zero_add]
    refine h49.call rfl rfl rfl ?_
    simp only [go_sem, Sp.d, List.length_map, dl]
    refine h62.call rfl rfl rfl ?_
    simp only [go_sem]
    refine h69.call rfl rfl rfl ?_
    simp only [go_sem]
    exact ForgetTo.same' (Nat.zero_le _) (by simp [EWe, Env.look]) (by simp [hSn, bthB, nowB])
  refine AWP.stepN 1 [(19, .d (.sl (rr.map Sp.d))), (18, .ptr 5 0), (13, .d (.int .i64 many)), (12, .ref 4 l.length 0 l.length), (11, .ref 3 r.length 0 r.length), (7, .ptr 2 0)] (hSn x bad b r l ++ [nowB ⟨b.str.lo + k, b.str.lo + t⟩]) (fun k => k == 43 || k == 44) tt_ok (fun _ h => nomatch h) (Nat.zero_le _) rfl ?_ ?_
  · simp only [go_sem, hSn, bthB, nowB]
    refine ALoop.by (S := Nat) (fun p => [(21, .d (.int .i64 p)), (19, .d (.sl (rr.map Sp.d))), (18, .ptr 5 0), (13, .d (.int .i64 many)), (12, .ref 4 l.length 0 l.length), (11, .ref 3 r.length 0 r.length), (9, .d (.sl (rusts.map (.int .i64)))), (7, .ptr 2 0)]) (fun _ => hSn x bad b r l ++ [nowB ⟨b.str.lo + k, b.str.lo + t⟩]) (fun p => rusts.length - p) (fun p => p ≤ rusts.length) 0 (Nat.zero_le _) (fun _ h => nomatch h) (Nat.zero_le _) ?_ ?_
    · exact ForgetTo.same' (Nat.zero_le _) (by simp [EWe, Env.look]) (by simp [hSn, bthB, nowB])
    rintro p hp hn
    refine AWP.run (fun k => k == 43 || k == 44) tt_ok (fun _ h => nomatch h) (Nat.zero_le _) rfl ?_
    simp only [go_sem, hSn, bthB, nowB]
    refine Br_split (fun hd => ?_) (fun hd => ?_) <;> simp only [go_sem, hd]
    · have hlt : p < rusts.length := by simpa using hd
      have hnx : IntKind.i64.wrap ((p : Int) + 1) = (p : Int) + 1 := w64 (by omega) (by omega)
      have hix := at_int hlt
      have hiy := at_sp (l := rr) (p := p) (by omega)
      have hat := Bath.at (b := b) (p := (p : Int)) (by omega)
      obtain ⟨⟨i1, i2⟩, i3⟩ := hin p (by omega)
      simp only [Inn] at i3
      have g62 := c62 (rusts.getD p 0) (atP rr p)
      rw [decide_eq_true i1, decide_eq_true i2] at g62
      have g69 := c69 (atP rr p) (b.pl p).rust
      rw [decide_eq_true i3.1, decide_eq_true i3.2, decide_eq_true (by omega : (atP rr p).lo ≤ (atP rr p).hi)] at g69
      refine ADrw.treeG (fun k => k == 43 || k == 44) tt_ok (by kernel_rfl) (fun k => if k = 16 then some .L else some .S) (.ones [0, 1, 2, 3, 4, 5, 6, 7, 8, 9, 10, 11, 12, 13, 14, 15, 16, 17, 18, 19, 20, 21, 22, 23] .done) (Nat.zero_le _) (fun _ h => nomatch h) rfl rfl (by kernel_rfl) ?_
      simp only [go_sem, hix, hiy]
      refine g62.callS rfl rfl rfl rfl rfl rfl ?_
      simp only [go_sem, hix, hiy, hat, Plate.d]
      refine g69.callS rfl rfl rfl rfl rfl rfl ?_
      simp only [go_sem]
      refine ⟨p + 1, hlt, by omega, ?_⟩
      exact ForgetTo.same' (Nat.zero_le _) (by simp [EWe, Env.look, hnx]) (by simp [hSn, bthB, nowB])
    · exact ForgetTo.same' (Nat.zero_le _) (by simp [EWe, Env.look]) (by simp [hSn, bthB, nowB])
  refine AWP.stepN 1 [(13, .d (.int .i64 many)), (12, .ref 4 l.length 0 l.length), (7, .ptr 2 0)] (hSn x bad b r l) (fun k => k == 43 || k == 44) tt_ok (fun _ h => nomatch h) (Nat.zero_le _) rfl ?_ htail
  · simp only [go_sem, hSn, bthB, nowB]
    refine Br_split (fun hd => ?_) (fun hd => ?_) <;> simp only [go_sem, hd]
    · have hpos : 0 < r.length := by simp only [decide_eq_true_eq] at hd; omega
      have hwk : IntKind.i64.wrap ((r.length : Int) - 1) = ((r.length - 1 : Nat) : Int) := by rw [w64 (by omega) (by omega)]; omega
      have hle1 : r.length - 1 ≤ r.length := by omega
      have hsz1 := sized_seens (r.take (r.length - 1))
      have hle2 : (r.take (r.length - 1)).length ≤ 4294967296 := by simp; omega
      have htk1 : ((r.map Seen.d).take (r.length - 1)) = (r.take (r.length - 1)).map Seen.d := by simp
      have hk0 : (0 : Int) ≤ ((r.length - 1 : Nat) : Int) := by omega
      have hk1 : ((r.length - 1 : Nat) : Int).toNat = r.length - 1 := by omega
      have dl2 : decide ((r'.length : Int) = (rr.length : Int)) = true := by simp only [decide_eq_true_eq]; omega
      have g69 := c69 ⟨b.str.lo + k, b.str.lo + t⟩ ⟨b.str.lo + k', b.str.lo + t'⟩
      rw [decide_eq_true (by show b.str.lo + (k : Int) ≥ b.str.lo + k'; omega), decide_eq_true (by show b.str.lo + (t : Int) ≤ b.str.lo + t'; omega), decide_eq_true (by show b.str.lo + (k : Int) ≤ b.str.lo + t; omega)] at g69
      simp only [go_sem, hwk]
      refine ADrw.treeG (fun k => k == 43 || k == 44) tt_ok (by kernel_rfl) (fun k => if k = 0 ∨ k = 5 ∨ k = 6 then some .L else if k = 13 then some .W else if k = 12 then some .A else some .S) (.ones [0, 1, 2, 3, 4, 5, 6, 7, 8, 9, 10, 11, 12, 13, 14, 15] .done) (Nat.zero_le _) (fun _ h => nomatch h) rfl rfl (by kernel_rfl) ?_
      simp only [go_sem]
      refine (c60 b (by omega)).callS rfl rfl rfl rfl rfl rfl ?_
      simp only [go_sem, hle1, htk1, hsz1, hle2, List.nil_append, Nat.zero_add, hk0, hk1, if_true, Nat.sub_zero]
      refine h49'.callS rfl rfl rfl rfl rfl rfl ?_
      simp only [go_sem, Sp.d, List.length_map, dl2]
      refine g69.call rfl rfl rfl ?_
      simp only [go_sem]
      refine ALoop.by (S := Nat) (fun p => [(26, .d (.int .i64 p)), (24, .d (.sl (r'.map Sp.d))), (19, .d (.sl (rr.map Sp.d))), (13, .d (.int .i64 many)), (12, .ref 4 l.length 0 l.length), (7, .ptr 2 0)]) (fun _ => hSn x bad b r l) (fun p => rr.length - p) (fun p => p ≤ rr.length) 0 (Nat.zero_le _) (fun _ h => nomatch h) (Nat.zero_le _) ?_ ?_
      · refine ForgetTo.drop (H0 := [_, _, _, _, _]) (Y := [_, _]) (Nat.zero_le _) rfl (by simp [BBs, BB, VBs, VB, hSn, vatB, badB, bthB]) ?_
        simp [EWp, Env.look, pubV, hlen]
      rintro p hp hn
      refine AWP.run (fun k => k == 43 || k == 44) tt_ok (fun _ h => nomatch h) (Nat.zero_le _) rfl ?_
      simp only [go_sem, hSn, bthB, nowB]
      refine Br_split (fun he => ?_) (fun he => ?_) <;> simp only [go_sem, he]
      · have hlt : p < rr.length := by simpa using he
        have hnx : IntKind.i64.wrap ((p : Int) + 1) = (p : Int) + 1 := w64 (by omega) (by omega)
        have hix := at_sp hlt
        have hiy := at_sp (l := r') (p := p) (by omega)
        have i3 := hin' p (by omega)
        have i4 := (hin p (by omega)).1
        simp only [Inn] at i3
        have g69 := c69 (atP rr p) (atP r' p)
        rw [decide_eq_true i3.1, decide_eq_true i3.2, decide_eq_true (by omega : (atP rr p).lo ≤ (atP rr p).hi)] at g69
        refine ADrw.treeG (fun k => k == 43 || k == 44) tt_ok (by kernel_rfl) (fun k => some .S) (.ones [0, 1, 2, 3, 4, 5, 6, 7, 8, 9] .done) (Nat.zero_le _) (fun _ h => nomatch h) rfl rfl (by kernel_rfl) ?_
        simp only [go_sem, hix, hiy]
        refine g69.callS rfl rfl rfl rfl rfl rfl ?_
        simp only [go_sem]
        refine ⟨p + 1, hlt, by omega, ?_⟩
        exact ForgetTo.same' (Nat.zero_le _) (by simp [EWe, Env.look, hnx]) (by simp [hSn, bthB, nowB])
      · exact ForgetTo.same' (Nat.zero_le _) (by simp [EWe, Env.look]) (by simp [hSn, bthB, nowB])
    · refine ForgetTo.drop (H0 := [_, _, _, _, _]) (Y := [_]) (Nat.zero_le _) rfl (by simp [BBs, BB, VBs, VB, hSn, vatB, badB, bthB]) ?_
      simp [EWp, Env.look, pubV, hlen]
end Go.Aw
end

section
set_option maxRecDepth 100000
namespace Go.Aw
open Go Go.Proofs.Try

def badI (v : B4) : Nat → Int
  | 0 => v.a
  | 1 => v.b
  | 2 => v.c
  | _ => v.e

def mkR (all : List Step) (truly : List Int) (i : Nat) : Seen := ⟨all.getD i ⟨0, 0⟩, truly.getD i 0⟩
def badQ (bad : B4) (i : Nat) : Bool := decide (badI bad i % 3 = 0)
def mkW (all : List Step) (truly : List Int) (bad : B4) (i : Nat) : Seen := if badQ bad i = true then ⟨all.getD i ⟨0, 0⟩, 1 + badI bad i / 3 % 3⟩ else mkR all truly i
def rows (f : Nat → Seen) (n : Nat) : List Seen := (List.range n).map f
def manyN (q : Nat → Bool) (n : Nat) : Nat := ((List.range n).filter q).length

theorem rows_succ (f : Nat → Seen) (n : Nat) : rows f (n + 1) = rows f n ++ [f n] := by simp [rows, List.range_succ]
theorem rows_len (f : Nat → Seen) (n : Nat) : (rows f n).length = n := by simp [rows]
theorem many_succ (q : Nat → Bool) (n : Nat) : manyN q (n + 1) = manyN q n + (if q n = true then 1 else 0) := by
  simp only [manyN, List.range_succ, List.filter_append, List.length_append, List.filter_cons, List.filter_nil]
  split <;> rfl

theorem c15_head {x : Vat} (hx : x.Ok) {l : List B2} (hl : ∀ v ∈ l, v.Ok) {bad : B4} (hbad : bad.Ok) (hn4 : (stepsB x.bath l).length ≤ 4)
    (hrest : AWP prog f15.ntmps 0 none (restC 5 (bodyOf f15)) [(13, .d (.int .i64 (manyN (badQ bad) (stepsB x.bath l).length))), (12, .ref 4 (stepsB x.bath l).length 0 (stepsB x.bath l).length), (11, .ref 3 (stepsB x.bath l).length 0 (stepsB x.bath l).length), (9, .d (.sl (x.rusts.map (.int .i64)))), (8, .d (.int .i64 x.str)), (7, .ptr 2 0)]
      (hSn x bad x.bath (rows (mkR (stepsB x.bath l) (comesR x.bath x.rusts (stepsB x.bath l) x.str).1) (stepsB x.bath l).length) (rows (mkW (stepsB x.bath l) (comesR x.bath x.rusts (stepsB x.bath l) x.str).1 bad) (stepsB x.bath l).length)) (FnPost Tt [.tmp 6] 0 fun r H' => H' = [] ∧ r = .d (.bool true))) :
    PC prog 15 [.d x.d, .d (.sl (l.map B2.d)), .d bad.d] (.d (.bool true)) := by
  have hok := Vat.bathOk hx
  obtain ⟨g1, g2⟩ := Vat.str_in hx
  have hso := stepsB_ok (b := x.bath) l hl
  have hsl := stepsB_len x.bath l
  have hrl : x.rusts.length = x.bath.plates.length := by simp [Vat.rusts, Vat.bath]
  have hrb : ∀ r ∈ x.rusts, 0 ≤ r ∧ r ≤ 600 := fun r hr => by
    obtain ⟨v, hv, rfl⟩ := List.mem_map.1 hr
    have := (hx.p v (List.mem_of_mem_take hv)).a
    simp only [Byte] at this
    omega
  obtain ⟨s1, s2, s3, hb5, _⟩ := id hok
  have hmm := fun s hs => stepsOk_mem hso s hs
  have htl := comesR_len x.bath x.rusts (stepsB x.bath l) x.str
  refine PC.of_body tt_ok (fn := f15) (c := bodyOf f15) (rs := [.tmp 6]) rfl rfl rfl rfl rfl rfl ?_
  refine AWP.stepN 5 _ _ (fun k => k == 43 || k == 44) tt_ok (fun _ h => nomatch h) (Nat.zero_le _) rfl ?_ hrest
  simp only [go_sem, Vat.d, B4.d]
  refine (c58 hx).call rfl rfl rfl ?_
  simp only [go_sem, Bath.d]
  refine (c59 x.bath l hb5 hl).call rfl rfl rfl ?_
  simp only [go_sem]
  refine (c61 hok (stepsB x.bath l) x.str x.rusts (by omega) (by omega) hrl hrb hmm).call rfl rfl rfl ?_
  generalize (comesR x.bath x.rusts (stepsB x.bath l) x.str).1 = truly at htl
  generalize stepsB x.bath l = all at *
  generalize x.bath = b at *
  generalize x.str = str at *
  generalize x.rusts = rusts at *
  simp only [go_sem]
  refine ALoop.by (S := Nat) (fun i => [(16, .d (.int .i64 i)), (14, .d (.sl (truly.map (.int .i64)))), (13, .d (.int .i64 (manyN (badQ bad) i))), (12, .ref 4 i 0 i), (11, .ref 3 i 0 i), (10, .d (.sl (all.map Step.d))), (9, .d (.sl (rusts.map (.int .i64)))), (8, .d (.int .i64 str)), (7, .ptr 2 0), (5, .ptr 1 0)])
    (fun i => hSn x bad b (rows (mkR all truly) i) (rows (mkW all truly bad) i)) (fun i => all.length - i) (fun i => i ≤ all.length) 0 (Nat.zero_le _) (fun _ h => nomatch h) (Nat.zero_le _) ?_ ?_
  · exact ForgetTo.same' (Nat.zero_le _) (by simp [EWe, Env.look, manyN]) (by simp [hSn, vatB, badB, bthB, rows])
  rintro i hi hn
  refine AWP.run (fun k => k == 43 || k == 44) tt_ok (fun _ h => nomatch h) (Nat.zero_le _) rfl ?_
  have hlR := rows_len (mkR all truly) i
  have hlW := rows_len (mkW all truly bad) i
  have hsR := rows_succ (mkR all truly) i
  have hsW := rows_succ (mkW all truly bad) i
  have hms := many_succ (badQ bad) i
  have hmle : manyN (badQ bad) i ≤ i := by
    have := List.length_filter_le (badQ bad) (List.range i)
    simpa [manyN] using this
  generalize hRe : rows (mkR all truly) i = R at hlR hsR ⊢
  generalize hWe : rows (mkW all truly bad) i = W at hlW hsW ⊢
  generalize hMe : manyN (badQ bad) i = mn at hms hmle ⊢
  simp only [go_sem, hSn, vatB, badB, bthB]
  refine Br_split (fun hd => ?_) (fun hd => ?_) <;> simp only [go_sem, hd]
  · have hlt : i < all.length := by simpa using hd
    have hix : idx? (all.map Step.d) (i : Int) = some (all.getD i ⟨0, 0⟩).d := by simp [idx?, List.getD_eq_getElem?_getD, List.getElem?_eq_getElem hlt]
    have hit := at_int (l := truly) (p := i) (by omega)
    have hnx : IntKind.i64.wrap ((i : Int) + 1) = (i : Int) + 1 := w64 (by omega) (by omega)
    have hml : mn + 1 ≤ 4294967295 := by omega
    have hi1 : i ≤ 4294967295 := by omega
    have hbb : ∃ v, badI bad i = v ∧ Byte v := by
      refine ⟨_, rfl, ?_⟩
      unfold badI
      split
      · exact hbad.a
      · exact hbad.b
      · exact hbad.c
      · exact hbad.e
    obtain ⟨v, hv, hvb⟩ := hbb
    have hmr : mkR all truly i = ⟨all.getD i ⟨0, 0⟩, truly.getD i 0⟩ := rfl
    have hmw : mkW all truly bad i = if badQ bad i = true then ⟨all.getD i ⟨0, 0⟩, 1 + v / 3 % 3⟩ else mkR all truly i := by rw [mkW, hv]
    have hq : badQ bad i = decide (v % 3 = 0) := by rw [badQ, hv]
    rw [hmr] at hmw hsR
    generalize mkW all truly bad i = w at *
    generalize all.getD i ⟨0, 0⟩ = st at *
    generalize truly.getD i 0 = hw at *
    have hc0 : (0 : Int) ≤ (i : Int) := by omega
    have hc1 : (i : Int) < 4 := by omega
    have hhv : headV (List.drop i [V.d (.int .u8 bad.a), V.d (.int .u8 bad.b), V.d (.int .u8 bad.c), V.d (.int .u8 bad.e)]) = some (V.d (.int .u8 v)) := by
      have h4 : i = 0 ∨ i = 1 ∨ i = 2 ∨ i = 3 := by omega
      rcases h4 with rfl | rfl | rfl | rfl <;> (simp only [badI] at hv; simp [headV, hv])
    have z3 : (3 : Int) ≠ 0 := by decide
    have hwv := byte_conv hvb
    simp only [Byte] at hvb
    have m1 : v.tmod 3 = v % 3 := Int.tmod_eq_emod_of_nonneg hvb.1
    have q1 : v.tdiv 3 = v / 3 := Int.tdiv_eq_ediv_of_nonneg hvb.1
    have m2 : (v / 3).tmod 3 = v / 3 % 3 := Int.tmod_eq_emod_of_nonneg (by omega)
    have w1 : IntKind.i64.wrap (v / 3) = v / 3 := w64 (by omega) (by omega)
    have w2 : IntKind.i64.wrap (1 + v / 3 % 3) = 1 + v / 3 % 3 := w64 (by omega) (by omega)
    have w3 : IntKind.i64.wrap ((mn : Int) + 1) = (mn : Int) + 1 := w64 (by omega) (by omega)
    refine ADrw.treeG (fun k => k == 43 || k == 44) tt_ok (by kernel_rfl) (fun k => if k = 10 then some .W else if k = 9 then some .A else some .S) (.ones [0, 1, 2, 3, 4, 5, 6, 7, 8, 9, 10] .done) (Nat.zero_le _) (fun _ h => nomatch h) rfl rfl (by kernel_rfl) ?_
    simp only [go_sem, hix, hit, Step.d, hlR, hlW, hi1, hc0, hc1, Int.toNat_natCast, Nat.mul_one, hhv, m1, remO_ne z3]
    refine Br_split (fun he => ?_) (fun he => ?_) <;> simp only [go_sem, hc0, hc1, Int.toNat_natCast, Nat.mul_one, hhv, hwv, q1, m2, w1, w2, w3, remO_ne z3, quoO_ne z3, hlW, hi1]
    all_goals
      rw [hq, he] at hms hmw
      simp only [if_true, Bool.false_eq_true, if_false] at hms hmw
      refine ⟨i + 1, hlt, by omega, ?_⟩
      refine ForgetTo.drop (H0 := [_, _, _, _, _]) (Y := [_]) (Nat.zero_le _) ?_ (by simp [BBs, BB, VBs, VB, hSn, vatB, badB, bthB]) ?_
      · rw [hsR, hsW, hmw]
        simp [hSn, vatB, badB, bthB, Seen.d]
      · have hlen : ∀ r l : List Seen, (hSn x bad b r l).length = 5 := fun _ _ => rfl
        simp [EWp, Env.look, pubV, hlen, hms, hnx]
  · have hie : i = all.length := by simp only [decide_eq_false_iff_not] at hd; omega
    subst hie
    exact ForgetTo.same' (Nat.zero_le _) (by simp [EWe, Env.look, hMe]) (by simp [hSn, vatB, badB, bthB, hRe, hWe])
end Go.Aw
end

section
set_option maxRecDepth 100000
namespace Go.Aw
open Go Go.Proofs.Try

def maskN (q : Nat → Bool) : Nat → Nat
  | 0 => 0
  | i + 1 => maskN q i ||| (if q i = true then 2 ^ i else 0)

theorem maskN_test (q : Nat → Bool) : ∀ i j, (maskN q i).testBit j = (decide (j < i) && q j)
  | 0, j => by simp [maskN]
  | i + 1, j => by
    rw [maskN, Nat.testBit_or, maskN_test q i j]
    by_cases hj : j = i
    · subst hj
      cases hq : q j <;> simp [Nat.testBit_two_pow]
    · have e : decide (j < i + 1) = decide (j < i) := by simp; omega
      rw [e]
      split
      · rw [Nat.testBit_two_pow]
        simp [show ¬ i = j from fun h => hj h.symm]
      · simp

theorem maskN_lt (q : Nat → Bool) : ∀ i, maskN q i < 2 ^ i
  | 0 => by simp [maskN]
  | i + 1 => by
    rw [maskN]
    have h := maskN_lt q i
    refine Nat.or_lt_two_pow (by rw [Nat.pow_succ]; omega) ?_
    split
    · exact Nat.pow_lt_pow_succ (by omega)
    · exact Nat.two_pow_pos _

theorem maskN_len (q : Nat → Bool) {n : Nat} (hn : n ≤ 5) : (bitsL (maskN q n)).length = manyN q n := by
  have e : bitsL (maskN q n) = (List.range 5).filter fun j => decide (j < n) && q j := by
    rw [bitsL]
    exact List.filter_congr fun j _ => maskN_test q n j
  rw [e, manyN]
  have h5 : n = 0 ∨ n = 1 ∨ n = 2 ∨ n = 3 ∨ n = 4 ∨ n = 5 := by omega
  rcases h5 with rfl | rfl | rfl | rfl | rfl | rfl <;> simp [List.range_succ, List.filter_append, List.filter_cons]

theorem rows_get {f : Nat → Seen} {n j : Nat} {s : Seen} (h : (rows f n)[j]? = some s) : j < n ∧ f j = s := by
  have := (List.getElem?_eq_some_iff.1 h)
  obtain ⟨h1, h2⟩ := this
  rw [rows_len] at h1
  refine ⟨h1, ?_⟩
  simpa [rows] using h2

theorem rows_steps {f : Nat → Seen} {all : List Step} (hf : ∀ j, j < all.length → (f j).step = all.getD j ⟨0, 0⟩) : (rows f all.length).map Seen.step = all := by
  refine List.ext_getElem (by simp [rows]) fun j h1 h2 => ?_
  simp only [rows, List.map_map, List.getElem_map, List.getElem_range, Function.comp]
  rw [hf j h2, List.getD_eq_getElem?_getD, List.getElem?_eq_getElem h2]
  rfl

theorem logE_ok {b : Bath} (hok : b.Ok) {l : List Seen} (hs : stepsOk b.plates.length 0 (l.map Seen.step) = true) (hh : ∀ s ∈ l, 1 ≤ s.how ∧ s.how ≤ 3) : logE b l = 0 := by
  rw [logE, if_pos (checkP_iff.2 hok), if_neg, if_pos hs]
  intro h
  obtain ⟨s, h1, h2⟩ := List.any_eq_true.1 h
  have := hh s h1
  simp only [badHow, Bool.or_eq_true, decide_eq_true_eq] at h2
  omega

theorem stepsOk_take {np : Nat} : ∀ (l : List Step) (d m : Nat), stepsOk np d l = true → stepsOk np d (l.take m) = true
  | [], d, m, _ => by simp [stepsOk]
  | x :: r, d, 0, _ => rfl
  | x :: r, d, m + 1, h => by
    simp only [stepsOk, List.take_succ_cons] at h ⊢
    split at h
    · cases h
    · rename_i hb
      rw [if_neg hb]
      exact stepsOk_take r _ m h

theorem true_how {b : Bath} (rusts : List Int) (str : Int) (s : Step) : 1 ≤ trueHow b rusts str s ∧ trueHow b rusts str s ≤ 3 := by
  rw [trueHow]
  rcases howP_in ⟨⟨0, 0⟩, 0, (b.pl s.plate).thin⟩ (rusts.getD s.plate.toNat 0) (str * s.hours) with h | h | h <;> omega

theorem truly_get (b : Bath) (rusts : List Int) (all : List Step) (str : Int) {j : Nat} (hj : j < all.length) : (comesR b rusts all str).1.getD j 0 = trueHow b rusts (weakF b ((platesOf all).take j) str) (all.getD j ⟨0, 0⟩) := by
  rw [List.getD_eq_getElem?_getD, comesR_get b rusts all str j hj, comesR_weak, Option.getD_some, List.getD_eq_getElem?_getD, List.getElem?_eq_getElem hj, Option.getD_some]
  congr 2
  simp [platesOf]

theorem c15 {x : Vat} (hx : x.Ok) (l : List B2) (hl : ∀ v ∈ l, v.Ok) (bad : B4) (hbad : bad.Ok) : PC prog 15 [.d x.d, .d (.sl (l.map B2.d)), .d bad.d] (.d (.bool true)) := by
  have hok := Vat.bathOk hx
  obtain ⟨g1, g2⟩ := Vat.str_in hx
  have hso := stepsB_ok (b := x.bath) l hl
  have hri := fun q hq => Vat.rust_in hx (q := q) hq
  have hrl : x.rusts.length = x.bath.plates.length := by simp [Vat.rusts, Vat.bath]
  have hp4 : x.bath.plates.length ≤ 4 := by simp [Vat.bath]; omega
  have hmm := fun s hs => stepsOk_mem hso s hs
  have hnd := (stepsOk_nodup hso).1
  have hn4 : (stepsB x.bath l).length ≤ 4 := by
    have := nodup_len x.bath.plates.length (platesOf (stepsB x.bath l)) hnd fun p hp => by
      obtain ⟨s, hs, rfl⟩ := List.mem_map.1 hp
      exact (hmm s hs).1
    simp only [platesOf, List.length_map] at this
    omega
  refine c15_head hx hl hbad hn4 ?_
  have htg := fun j hj => truly_get x.bath x.rusts (stepsB x.bath l) x.str (j := j) hj
  generalize (comesR x.bath x.rusts (stepsB x.bath l) x.str).1 = truly at htg
  generalize stepsB x.bath l = all at *
  generalize x.bath = b at *
  generalize x.str = str at *
  generalize x.rusts = rusts at *
  obtain ⟨s1, s2, s3, hb5, _⟩ := id hok
  have hns : b.str.lo + (nS b : Int) = b.str.hi + 1 := by simp only [nS]; omega
  -- what was seen right
  have hRs : (rows (mkR all truly) all.length).map Seen.step = all := rows_steps fun j _ => rfl
  have hWs : (rows (mkW all truly bad) all.length).map Seen.step = all := rows_steps fun j _ => by
    rw [mkW]; split <;> rfl
  have hRh : ∀ s ∈ rows (mkR all truly) all.length, 1 ≤ s.how ∧ s.how ≤ 3 := fun s hs => by
    obtain ⟨j, hj⟩ := List.getElem?_of_mem hs
    obtain ⟨j1, rfl⟩ := rows_get hj
    simp only [mkR, htg j j1]
    exact true_how _ _ _
  have hWh : ∀ s ∈ rows (mkW all truly bad) all.length, 1 ≤ s.how ∧ s.how ≤ 3 := fun s hs => by
    obtain ⟨j, hj⟩ := List.getElem?_of_mem hs
    obtain ⟨j1, rfl⟩ := rows_get hj
    rw [mkW]
    split
    · simp only; omega
    · simp only [mkR, htg j j1]
      exact true_how _ _ _
  have hRE : logE b (rows (mkR all truly) all.length) = 0 := logE_ok hok (by rw [hRs]; exact hso) hRh
  have hWE : logE b (rows (mkW all truly bad) all.length) = 0 := logE_ok hok (by rw [hWs]; exact hso) hWh
  have hRL := logE_iff hRE
  have hWL := logE_iff hWE
  have hRp : platesS (rows (mkR all truly) all.length) = platesOf all := by rw [platesS, hRs]
  have hWp : platesS (rows (mkW all truly bad) all.length) = platesOf all := by rw [platesS, hWs]
  obtain ⟨i0, hi0⟩ : ∃ i0 : Nat, str = b.str.lo + i0 := ⟨(str - b.str.lo).toNat, by omega⟩
  have hi0n : i0 < nS b := by omega
  have hhow : ∀ (j : Nat) (p : Nat), j < all.length → (all.getD j ⟨0, 0⟩).plate = p → howP (b.pl p) (rusts.getD p 0) (weakF b ((platesOf all).take j) str * (all.getD j ⟨0, 0⟩).hours) = truly.getD j 0 := fun j p hj hp => by
    rw [htg j hj, trueHow, hp, Int.toNat_natCast]
    exact howP_thin rfl _ _
  have hRfit : ∀ p : Nat, p < b.plates.length → Fit b (rows (mkR all truly) all.length) 0 (b.str.lo + i0) p (rusts.getD p 0) := fun p hp => by
    refine ⟨hri p hp, fun j s hj hsp _ => ?_⟩
    obtain ⟨j1, rfl⟩ := rows_get hj
    rw [hRp, ← hi0]
    exact hhow j p j1 hsp
  have hWfit : ∀ p : Nat, p < b.plates.length → Fit b (rows (mkW all truly bad) all.length) (maskN (badQ bad) all.length) (b.str.lo + i0) p (rusts.getD p 0) := fun p hp => by
    refine ⟨hri p hp, fun j s hj hsp hw => ?_⟩
    obtain ⟨j1, rfl⟩ := rows_get hj
    rw [hWp, ← hi0]
    rw [maskN_test, decide_eq_true j1, Bool.true_and] at hw
    have e : mkW all truly bad j = mkR all truly j := by rw [mkW, hw]; rfl
    rw [e] at hsp ⊢
    exact hhow j p j1 hsp
  obtain ⟨k, t, rr, a1, a2, a3, a4, a5, a6⟩ := seen_truth hRL hi0n hRfit
  obtain ⟨k', t', r', d1, d2, d3, d4, d5⟩ := seen_take hRL ((rows (mkR all truly) all.length).length - 1) a1
  have hTE : logE b ((rows (mkR all truly) all.length).take ((rows (mkR all truly) all.length).length - 1)) = 0 := logE_ok hok (by rw [List.map_take, hRs]; exact stepsOk_take all 0 _ hso) fun s hs => hRh s (List.mem_of_mem_take hs)
  have hlR := rows_len (mkR all truly) all.length
  have hlW := rows_len (mkW all truly bad) all.length
  have hMW : ∃ y, y < 2 ^ (rows (mkW all truly bad) all.length).length ∧ fitsB b (rows (mkW all truly bad) all.length) y = true ∧ (bitsL y).length = manyN (badQ bad) all.length :=
    ⟨maskN (badQ bad) all.length, by rw [hlW]; exact maskN_lt _ _, fits_of hWL hi0n hWfit, maskN_len _ (by omega)⟩
  generalize rows (mkR all truly) all.length = R at *
  generalize rows (mkW all truly bad) all.length = W at *
  have h := c15_mid (x := x) (bad := bad) (str := str) hok hrl hRE a1 a2 ⟨by omega, by omega⟩ a5 (fun p hp => a6 p hp) hTE d1 d4 d2 d3 d5 (c15_tail (x := x) (bad := bad) (r := R) hWE hMW)
  rw [hlR, hlW] at h
  exact h
end Go.Aw
end
