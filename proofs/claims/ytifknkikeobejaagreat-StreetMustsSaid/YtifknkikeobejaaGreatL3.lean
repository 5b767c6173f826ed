/- The reference: Name, Change, Copy, Same, Called, Check. The reference: Clash, First. The reference: First, Check, Open; the law's long. The law's long. Towns as arguments of the laws. The law StreetNames. The reference: Orders, With, Has. The reference: Must. The law StreetMusts: up to what the program answers. The law StreetMusts. Orders as arguments of the laws. -/
import Derived.Test.YtifknkikeobejaaGreatL2
set_option linter.unusedSimpArgs false
set_option linter.unusedVariables false

section
set_option maxRecDepth 100000
namespace Go.Aw
open Go Go.Proofs.Tryz

theorem c28 (s : ByteArray) (hs : s.size ≤ 1000) : PC prog 28 [.d (.str s)] (.d (.bool (nm s))) := by
  refine PC.run (fun _ => false) tt_ok (fn := f28) (rs := [.tmp 2]) rfl rfl rfl rfl rfl rfl rfl ?_
  simp only [go_sem]
  refine ALoop.by (S := Nat) (fun i => [(3, .d (.int .i64 i)), (0, .d (.str s))]) (fun _ => []) (fun i => s.size - i) (fun i => i ≤ s.size ∧ lettersTo s i = true) 0 (Nat.zero_le _) (fun _ h => nomatch h) ⟨Nat.zero_le _, rfl⟩ (ForgetTo.same' (Nat.zero_le _) ⟨rfl, rfl, trivial⟩ rfl) ?_
  rintro i ⟨hi, hli⟩ hn
  refine AWP.run (fun _ => false) tt_ok (fun _ h => nomatch h) (Nat.zero_le _) rfl ?_
  simp only [go_sem]
  refine Br_split (fun hd => ?_) (fun hd => ?_) <;> simp only [go_sem, hd]
  · have hlt : i < s.size := by simpa using hd
    have hai := aindex_str (T := Tt) (z := ⟨#[]⟩) (k := .i64) hlt
    have hgd : s.data.toList.getD i 0 = s.get! i := by rw [get_data hlt, List.getD_eq_getElem?_getD, List.getElem?_eq_getElem (by simpa using hlt)]; rfl
    rw [hgd] at hai
    have hls := lettersTo_succ hlt
    have hno := nm_no hlt
    rw [hli, Bool.true_and] at hls
    have hlet : letter (s.get! i) = (decide (97 ≤ (s.get! i).toNat) && decide ((s.get! i).toNat ≤ 122)) := rfl
    have hnx : IntKind.i64.wrap ((i : Int) + 1) = ((i + 1 : Nat) : Int) := by rw [w64 (by omega) (by omega)]; omega
    generalize (s.get! i).toNat = b at *
    generalize letter (s.get! i) = L at *
    simp only [go_sem, hai]
    cases d1 : decide ((b : Int) < 97) with
    | true =>
      have : decide (97 ≤ b) = false := by simp only [decide_eq_true_eq, decide_eq_false_iff_not] at d1 ⊢; omega
      rw [this, Bool.false_and] at hlet
      simp only [go_sem, d1]
      rw [hno hlet]
    | false =>
      have h97 : decide (97 ≤ b) = true := by simp only [decide_eq_true_eq, decide_eq_false_iff_not] at d1 ⊢; omega
      cases d2 : decide ((122 : Int) < b) with
      | true =>
        have : decide (b ≤ 122) = false := by simp only [decide_eq_true_eq, decide_eq_false_iff_not] at d2 ⊢; omega
        rw [this, Bool.and_false] at hlet
        simp only [go_sem, d1, d2, hai]
        rw [hno hlet]
      | false =>
        have h122 : decide (b ≤ 122) = true := by simp only [decide_eq_true_eq, decide_eq_false_iff_not] at d2 ⊢; omega
        rw [h97, h122] at hlet
        simp only [go_sem, d1, d2, hai, hnx]
        exact ⟨i + 1, ⟨hlt, by rw [hls, hlet]; rfl⟩, by omega, ForgetTo.same' (Nat.zero_le _) ⟨rfl, rfl, trivial⟩ rfl⟩
  · have hie : i = s.size := by simp only [decide_eq_false_iff_not] at hd; omega
    subst hie
    refine (c26 (s.size : Int) 1 10).call rfl rfl rfl ?_
    simp only [go_sem]
    rw [nm_end hli]

theorem c39 (c : Chg) (n : Nat) (hn : n ≤ 1000000) (hs : c.name.size ≤ 1000) : PC prog 39 [.d c.d, .d (.int .i64 n)] (.d (.bool (chgOk n c))) := by
  rw [chgOk]
  refine PC.run (fun _ => false) tt_ok (fn := f39) (rs := [.tmp 4]) rfl rfl rfl rfl rfl rfl rfl ?_
  have c26a := c26 c.at' 1 1000
  have w1 : IntKind.i64.wrap ((n : Int) - 1) = (n : Int) - 1 := w64 (by omega) (by omega)
  have c26b := c26 c.st 0 ((n : Int) - 1)
  have e : decide (0 ≤ c.st ∧ c.st ≤ (n : Int) - 1) = decide (0 ≤ c.st ∧ c.st < (n : Int)) := by rw [Bool.eq_iff_iff, decide_eq_true_eq, decide_eq_true_eq]; omega
  rw [e] at c26b
  have c28a := c28 c.name hs
  simp only [go_sem, Chg.d, w1]
  refine c26a.call rfl rfl rfl ?_
  simp only [go_sem, w1]
  cases d1 : decide (1 ≤ c.at' ∧ c.at' ≤ 1000) with
  | false => simp only [go_sem, d1]
  | true =>
    simp only [go_sem, d1, w1]
    refine c26b.call rfl rfl rfl ?_
    cases d2 : decide (0 ≤ c.st ∧ c.st < (n : Int)) with
    | false => simp only [go_sem, d1, d2]
    | true =>
      simp only [go_sem, d1, d2]
      refine c28a.call rfl rfl rfl ?_
      simp only [go_sem]

theorem c16 (t : Town) (h1 : t.first.length ≤ 1000) (h2 : t.ch.length ≤ 1000) : PC prog 16 [.d t.d] (.d t.d) := by
  refine PC.run (fun _ => false) tt_ok (fn := f16) (rs := [.cell 2 25]) rfl rfl rfl rfl rfl rfl rfl ?_
  have s1 := sized_strs t.first
  have s2 := sized_chg t.ch
  have l1 : t.first.length ≤ 4294967296 := by omega
  have l2 : t.ch.length ≤ 4294967296 := by omega
  simp only [go_sem, Town.d]
  refine ADrw.treeG (fun _ => false) tt_ok (by kernel_rfl) (fun k => if k = 2 ∨ k = 6 then some .L else if k = 9 then some .W else some .S) (.ones [0, 1, 2, 3, 4, 5, 6, 7, 8, 9] .done) (Nat.zero_le _) (fun _ h => nomatch h) rfl rfl (by kernel_rfl) ?_
  simp only [go_sem, s1, s2, l1, l2, List.length_map, show sized 1 [] = true from rfl, show sized 3 [] = true from rfl]

theorem beq_self_dec {α : Type} [DecidableEq α] (l : α) : decide (l = l) = true := by simp

theorem c20 (t : Town) (h1 : t.first.length ≤ 1000) (h2 : t.ch.length ≤ 1000) : PC prog 20 [.d t.d, .d t.d] (.d (.bool true)) := by
  refine PC.run (fun _ => false) tt_ok (fn := f20) (rs := [.tmp 4]) rfl rfl rfl rfl rfl rfl rfl ?_
  simp only [go_sem, Town.d]
  refine (c31 t.first t.first (by omega) (by omega)).call rfl rfl rfl ?_
  simp only [go_sem, beq_self_dec, List.length_map]
  refine ALoop.by (S := Nat) (fun i => [(5, .d (.int .i64 i)), (3, .ptr 1 0), (2, .ptr 0 0)]) (fun _ => [townB t, townB t]) (fun i => t.ch.length - i) (fun i => i ≤ t.ch.length) 0 (Nat.zero_le _) (fun _ h => nomatch h) (Nat.zero_le _) (ForgetTo.same' (Nat.zero_le _) ⟨rfl, rfl, rfl, trivial⟩ rfl) ?_
  rintro i hi hn
  refine AWP.run (fun _ => false) tt_ok (fun _ h => nomatch h) (Nat.zero_le _) rfl ?_
  simp only [go_sem, townB, List.length_map]
  refine Br_split (fun hd => ?_) (fun hd => ?_) <;> simp only [go_sem, hd]
  have hlt : i < t.ch.length := by simpa using hd
  have hix : idx? (t.ch.map Chg.d) (i : Int) = some t.ch[i].d := by simp [idx?, List.getElem?_eq_getElem hlt]
  have hcd : t.ch[i].d = .agg [.int .i64 t.ch[i].at', .int .i64 t.ch[i].st, .str t.ch[i].name] := rfl
  have hnx : IntKind.i64.wrap ((i : Int) + 1) = ((i + 1 : Nat) : Int) := by rw [w64 (by omega) (by omega)]; omega
  rw [hcd] at hix
  generalize t.ch[i].at' = x1 at *
  generalize t.ch[i].st = x2 at *
  generalize t.ch[i].name = x3 at *
  refine ADrw.treeG (fun _ => false) tt_ok (by kernel_rfl) (fun k => if k = 1 ∨ k = 6 then some .L else some .S) (.ones [0, 1, 2, 3, 4, 5, 6, 7, 8, 9, 10] .done) (Nat.zero_le _) (fun _ h => nomatch h) rfl rfl (by kernel_rfl) ?_
  simp only [go_sem, hix, beq_self_dec, beq_ba, hnx]
  exact ⟨i + 1, hlt, by omega, ForgetTo.same' (Nat.zero_le _) ⟨rfl, rfl, rfl, trivial⟩ rfl⟩

theorem callP_succ (l : List Chg) (z : ByteArray) (s : Nat) (hour : Int) {i : Nat} (hi : i < l.length) : callP (l.take (i + 1)) z s hour = if l[i].st = (s : Int) ∧ l[i].at' ≤ hour ∧ (callP (l.take i) z s hour).2 ≤ l[i].at' then (l[i].name, l[i].at') else callP (l.take i) z s hour := by
  rw [List.take_succ_eq_append_getElem hi, callP, List.foldl_append]; rfl

theorem c27 (t : Town) (h2 : t.ch.length ≤ 1000) {s : Nat} (hs : s < t.first.length) (hour : Int) : PC prog 27 [.d t.d, .d (.int .i64 s), .d (.int .i64 hour)] (.d (.str (calledT t s hour))) := by
  refine PC.run (fun _ => false) tt_ok (fn := f27) (rs := [.tmp 6]) rfl rfl rfl rfl rfl rfl rfl ?_
  have hix : idx? (t.first.map D.str) (s : Int) = some (.str (t.first.getD s default)) := by rw [getDG hs]; simp [idx?, List.getElem?_eq_getElem hs]
  simp only [go_sem, Town.d, hix]
  rw [calledT]
  generalize t.first.getD s default = z at *
  refine ALoop.by (S := Nat) (fun i => [(9, .d (.int .i64 i)), (8, .d (.int .i64 (callP (t.ch.take i) z s hour).2)), (7, .d (.str (callP (t.ch.take i) z s hour).1)), (3, .ptr 0 0), (2, .d (.int .i64 hour)), (1, .d (.int .i64 s))]) (fun _ => [townB t]) (fun i => t.ch.length - i) (fun i => i ≤ t.ch.length) 0 (Nat.zero_le _) (fun _ h => nomatch h) (Nat.zero_le _) (ForgetTo.same' (Nat.zero_le _) ⟨rfl, rfl, rfl, rfl, rfl, rfl, trivial⟩ rfl) ?_
  rintro i hi hn
  refine AWP.run (fun _ => false) tt_ok (fun _ h => nomatch h) (Nat.zero_le _) rfl ?_
  simp only [go_sem, townB, List.length_map]
  refine Br_split (fun hd => ?_) (fun hd => ?_) <;> simp only [go_sem, hd]
  · have hlt : i < t.ch.length := by simpa using hd
    have hix : idx? (t.ch.map Chg.d) (i : Int) = some t.ch[i].d := by simp [idx?, List.getElem?_eq_getElem hlt]
    have hcd : t.ch[i].d = .agg [.int .i64 t.ch[i].at', .int .i64 t.ch[i].st, .str t.ch[i].name] := rfl
    have hnx : IntKind.i64.wrap ((i : Int) + 1) = ((i + 1 : Nat) : Int) := by rw [w64 (by omega) (by omega)]; omega
    have hsu := callP_succ t.ch z s hour hlt
    rw [hcd] at hix
    have fin : ∀ (p : ByteArray × Int) (E : Env), p = callP (t.ch.take (i + 1)) z s hour → EWp 1 [townB t, .cells [.d (.int .i64 t.ch[i].at'), .d (.int .i64 t.ch[i].st), .d (.str t.ch[i].name)]] E [(9, .d (.int .i64 ((i + 1 : Nat) : Int))), (8, .d (.int .i64 p.2)), (7, .d (.str p.1)), (3, .ptr 0 0), (2, .d (.int .i64 hour)), (1, .d (.int .i64 s))] →
        ∃ s', s' ≤ t.ch.length ∧ t.ch.length - s' < t.ch.length - i ∧ ForgetTo 0 E [townB t, .cells [.d (.int .i64 t.ch[i].at'), .d (.int .i64 t.ch[i].st), .d (.str t.ch[i].name)]] [(9, .d (.int .i64 s')), (8, .d (.int .i64 (callP (t.ch.take s') z s hour).2)), (7, .d (.str (callP (t.ch.take s') z s hour).1)), (3, .ptr 0 0), (2, .d (.int .i64 hour)), (1, .d (.int .i64 s))] [townB t] := fun p E hp hE => by
      subst hp
      exact ⟨i + 1, hlt, by omega, ForgetTo.drop (H0 := [_]) (Y := [_]) (Nat.zero_le _) rfl (by simp [BBs, BB, VBs, VB, townB]) hE⟩
    rw [hsu] at fin
    simp only [townB] at fin
    generalize callP (t.ch.take i) z s hour = p at *
    generalize t.ch[i].at' = x1 at *
    generalize t.ch[i].st = x2 at *
    generalize t.ch[i].name = x3 at *
    simp only [go_sem, hix]
    by_cases h1 : x2 = (s : Int)
    · simp only [go_sem, decide_eq_true h1]
      by_cases h3 : x1 ≤ hour
      · simp only [go_sem, decide_eq_true h3]
        by_cases h4 : p.2 ≤ x1
        · rw [if_pos ⟨h1, h3, h4⟩] at fin
          simp only [go_sem, decide_eq_true h4]
          refine ADrw.treeG (fun _ => false) tt_ok (by kernel_rfl) (fun k => if k = 1 ∨ k = 3 then some .L else some .S) (.ones [0, 1, 2, 3, 4, 5] .done) (Nat.zero_le _) (fun _ h => nomatch h) rfl rfl (by kernel_rfl) ?_
          simp only [go_sem, hnx]
          exact fin (x3, x1) _ rfl (by simp [EWp, Env.look, pubV])
        · rw [if_neg (fun h => h4 h.2.2)] at fin
          simp only [go_sem, decide_eq_false h4, hnx]
          exact fin p _ rfl (by simp [EWp, Env.look, pubV])
      · rw [if_neg (fun h => h3 h.2.1)] at fin
        simp only [go_sem, decide_eq_false h3, hnx]
        exact fin p _ rfl (by simp [EWp, Env.look, pubV])
    · rw [if_neg (fun h => h1 h.1)] at fin
      simp only [go_sem, decide_eq_false h1, hnx]
      exact fin p _ rfl (by simp [EWp, Env.look, pubV])
  · have hie : i = t.ch.length := by simp only [decide_eq_false_iff_not] at hd; omega
    subst hie
    rw [List.take_length]
end Go.Aw
end

section
set_option maxRecDepth 100000
namespace Go.Aw
open Go Go.Proofs.Tryz

/-- How many changes of a street there are in an hour, among the first ones. -/
def cntC (t : Town) (h : Int) (s i : Nat) : Nat := ((t.ch.take i).filter fun c => decide (c.at' = h ∧ c.st = (s : Int))).length
theorem cntC_succ (t : Town) (h : Int) (s : Nat) {i : Nat} (hi : i < t.ch.length) : cntC t h s (i + 1) = cntC t h s i + if t.ch[i].at' = h ∧ t.ch[i].st = (s : Int) then 1 else 0 := by
  rw [cntC, cntC, List.take_succ_eq_append_getElem hi, List.filter_append, List.length_append]
  congr 1
  rw [List.filter_cons, List.filter_nil]
  split <;> simp_all
theorem cntC_le (t : Town) (h : Int) (s i : Nat) : cntC t h s i ≤ i := by
  have := List.length_filter_le (fun c : Chg => decide (c.at' = h ∧ c.st = (s : Int))) (t.ch.take i)
  have h2 := List.length_take_le i t.ch
  rw [cntC]; omega

/-- Is a street called as another one of the first ones? -/
def likeC (t : Town) (h : Int) (s o : Nat) : Bool := (List.range o).any fun o => !decide (o = s) && decide (calledT t o h = calledT t s h)
theorem likeC_succ (t : Town) (h : Int) (s o : Nat) : likeC t h s (o + 1) = (likeC t h s o || (!decide (o = s) && decide (calledT t o h = calledT t s h))) := by
  rw [likeC, List.range_succ, List.any_append]; simp [likeC]

theorem count_two {α : Type} [DecidableEq α] [Inhabited α] : ∀ (l : List α) (s : Nat), s < l.length → (1 < cntL (l.getD s default) l ↔ ∃ o, o < l.length ∧ o ≠ s ∧ l.getD o default = l.getD s default)
  | [], s, h => by simp at h
  | a :: l, 0, _ => by
    have e : cntL ((a :: l).getD 0 default) (a :: l) = cntL a l + 1 := by simp [cntL]
    rw [e]
    constructor
    · intro h
      have hm : a ∈ l := List.count_pos_iff.1 (by rw [cntL] at h; omega)
      obtain ⟨i, hi, he⟩ := List.getElem_of_mem hm
      exact ⟨i + 1, by simpa using hi, by omega, by simp [List.getElem?_eq_getElem hi, he]⟩
    · rintro ⟨o, h1, h2, h3⟩
      obtain ⟨i, rfl⟩ : ∃ i, o = i + 1 := ⟨o - 1, by omega⟩
      have hi : i < l.length := by simpa using h1
      have hm : a ∈ l := by
        simp [List.getElem?_eq_getElem hi] at h3
        rw [← h3]; exact List.getElem_mem _
      have : 0 < cntL a l := List.count_pos_iff.2 hm
      omega
  | a :: l, s + 1, h => by
    have hs : s < l.length := by simpa using h
    have ih := count_two l s hs
    have e0 : (a :: l).getD (s + 1) default = l.getD s default := by simp
    rw [e0]
    have e : cntL (l.getD s default) (a :: l) = cntL (l.getD s default) l + if a = l.getD s default then 1 else 0 := by
      rw [cntL, cntL, List.count_cons]
      simp
    have hp : 0 < cntL (l.getD s default) l := List.count_pos_iff.2 (by rw [getDG hs]; exact List.getElem_mem _)
    rw [e]
    by_cases ha : a = l.getD s default
    · rw [if_pos ha]
      exact ⟨fun _ => ⟨0, by simp, by omega, by simpa using ha⟩, fun _ => by omega⟩
    · rw [if_neg ha, Nat.add_zero, ih]
      constructor
      · rintro ⟨o, h1, h2, h3⟩
        exact ⟨o + 1, by simpa using h1, by omega, by simpa using h3⟩
      · rintro ⟨o, h1, h2, h3⟩
        cases o with
        | zero => exact absurd (by simpa using h3) ha
        | succ o => exact ⟨o, by simpa using h1, by omega, by simpa using h3⟩

theorem like_iff (t : Town) (h : Int) {s : Nat} (hs : s < t.first.length) : likeC t h s t.first.length = decide (1 < cntL (calledT t s h) (namesT t h)) := by
  have := count_two (namesT t h) s (by rw [namesT_len]; exact hs)
  rw [namesT_get hs, namesT_len] at this
  rw [Bool.eq_iff_iff, decide_eq_true_eq, this, likeC, List.any_eq_true]
  constructor
  · rintro ⟨o, h1, h2⟩
    simp only [Bool.and_eq_true, Bool.not_eq_true', decide_eq_false_iff_not, decide_eq_true_eq, List.mem_range] at h1 h2
    exact ⟨o, h1, h2.1, by rw [namesT_get h1]; exact h2.2⟩
  · rintro ⟨o, h1, h2, h3⟩
    rw [namesT_get h1] at h3
    exact ⟨o, List.mem_range.2 h1, by simp [h2, h3]⟩

def twC (t : Town) (h : Int) (k : Nat) : List Int := natI ((List.range k).filter fun s => decide (1 < cntC t h s t.ch.length))
def alC (t : Town) (h : Int) (k : Nat) : List Int := natI ((List.range k).filter fun s => likeC t h s t.first.length)
theorem twC_succ (t : Town) (h : Int) (k : Nat) : twC t h (k + 1) = twC t h k ++ if 1 < cntC t h k t.ch.length then [(k : Int)] else [] := by
  rw [twC, twC, natI, natI, List.range_succ, List.filter_append, List.map_append]
  congr 1
  rw [List.filter_cons, List.filter_nil]
  split <;> simp_all
theorem alC_succ (t : Town) (h : Int) (k : Nat) : alC t h (k + 1) = alC t h k ++ if likeC t h k t.first.length = true then [(k : Int)] else [] := by
  rw [alC, alC, natI, natI, List.range_succ, List.filter_append, List.map_append]
  congr 1
  rw [List.filter_cons, List.filter_nil]
  split <;> simp_all
theorem twC_len (t : Town) (h : Int) (k : Nat) : (twC t h k).length ≤ k := by
  have := List.length_filter_le (fun s => decide (1 < cntC t h s t.ch.length)) (List.range k)
  rw [twC, natI, List.length_map]; simpa using this
theorem alC_len (t : Town) (h : Int) (k : Nat) : (alC t h k).length ≤ k := by
  have := List.length_filter_le (fun s => likeC t h s t.first.length) (List.range k)
  rw [alC, natI, List.length_map]; simpa using this

theorem clash_C (t : Town) (h : Int) : natI (clashT t h) = if twC t h t.first.length = [] then alC t h t.first.length else twC t h t.first.length := by
  have e1 : twC t h t.first.length = natI (twiceT t h) := by
    rw [twC, twiceT]
    congr 1
    refine List.filter_congr fun s _ => ?_
    rw [cntC, List.take_length]
  have e2 : alC t h t.first.length = natI (alikeT t h) := by
    rw [alC, alikeT]
    congr 1
    refine List.filter_congr fun s hs => ?_
    exact like_iff t h (by simpa using hs)
  rw [e1, e2, clashT]
  by_cases h0 : twiceT t h = []
  · rw [if_neg (by rw [h0]; simp), if_pos (by rw [h0]; rfl)]
  · rw [if_pos h0, if_neg (show ¬ natI (twiceT t h) = [] from fun e => h0 (List.map_eq_nil_iff.1 e))]

theorem c75 (t : Town) (h1 : t.first.length ≤ 1000) (h2 : t.ch.length ≤ 1000) (hour : Int) : PC prog 75 [.d t.d, .d (.int .i64 hour)] (.d (.sl ((natI (clashT t hour)).map (.int .i64)))) := by
  refine PC.run (fun k => k == 12 || k == 13) tt_ok (fn := f75) (rs := [.tmp 4]) rfl rfl rfl rfl rfl rfl rfl ?_
  simp only [go_sem, Town.d]
  refine ALoop.by (S := Nat) (fun s => [(7, .d (.int .i64 s)), (6, .ref 2 (alC t hour s).length 0 (alC t hour s).length), (5, .ref 1 (twC t hour s).length 0 (twC t hour s).length), (2, .ptr 0 0), (1, .d (.int .i64 hour))])
    (fun s => [townB t, .arr 1 false ((twC t hour s).map (.int .i64)), .arr 1 false ((alC t hour s).map (.int .i64))]) (fun s => t.first.length - s) (fun s => s ≤ t.first.length) 0 (Nat.zero_le _) (fun _ h => nomatch h) (Nat.zero_le _) (ForgetTo.same' (Nat.zero_le _) ⟨rfl, rfl, rfl, rfl, rfl, trivial⟩ rfl) ?_
  rintro s hs hn
  refine AWP.run (fun _ => false) tt_ok (fun _ h => nomatch h) (Nat.zero_le _) rfl ?_
  simp only [go_sem, townB, List.length_map]
  refine Br_split (fun hd => ?_) (fun hd => ?_) <;> simp only [go_sem, hd]
  · have hlt : s < t.first.length := by simpa using hd
    have hnx : IntKind.i64.wrap ((s : Int) + 1) = ((s + 1 : Nat) : Int) := by rw [w64 (by omega) (by omega)]; omega
    have hu1 := twC_succ t hour s
    have hu2 := alC_succ t hour s
    have hl1 := twC_len t hour s
    have hl2 := alC_len t hour s
    have fin : ∀ (A B : List Int) (E : Env), A = twC t hour (s + 1) → B = alC t hour (s + 1) → EWe E [(7, .d (.int .i64 ((s + 1 : Nat) : Int))), (6, .ref 2 B.length 0 B.length), (5, .ref 1 A.length 0 A.length), (2, .ptr 0 0), (1, .d (.int .i64 hour))] →
        ∃ s', s' ≤ t.first.length ∧ t.first.length - s' < t.first.length - s ∧ ForgetTo 0 E [townB t, .arr 1 false (A.map (.int .i64)), .arr 1 false (B.map (.int .i64))] [(7, .d (.int .i64 s')), (6, .ref 2 (alC t hour s').length 0 (alC t hour s').length), (5, .ref 1 (twC t hour s').length 0 (twC t hour s').length), (2, .ptr 0 0), (1, .d (.int .i64 hour))]
          [townB t, .arr 1 false ((twC t hour s').map (.int .i64)), .arr 1 false ((alC t hour s').map (.int .i64))] := fun A B E hA hB hE => by
      subst hA hB
      exact ⟨s + 1, hlt, by omega, ForgetTo.same' (Nat.zero_le _) hE rfl⟩
    rw [hu1, hu2] at fin
    clear hu1 hu2
    simp only [townB] at fin
    generalize twC t hour s = A at *
    generalize alC t hour s = B at *
    refine ALoop.by (S := Nat) (fun i => [(10, .d (.int .i64 i)), (9, .d (.bool false)), (8, .d (.int .i64 (cntC t hour s i))), (7, .d (.int .i64 s)), (6, .ref 2 B.length 0 B.length), (5, .ref 1 A.length 0 A.length), (2, .ptr 0 0), (1, .d (.int .i64 hour))])
      (fun _ => [townB t, .arr 1 false (A.map (.int .i64)), .arr 1 false (B.map (.int .i64))]) (fun i => t.ch.length - i) (fun i => i ≤ t.ch.length) 0 (Nat.zero_le _) (fun _ h => nomatch h) (Nat.zero_le _) (ForgetTo.same' (Nat.zero_le _) ⟨rfl, rfl, rfl, rfl, rfl, rfl, rfl, rfl, trivial⟩ rfl) ?_
    rintro i hi hn2
    refine AWP.run (fun _ => false) tt_ok (fun _ h => nomatch h) (Nat.zero_le _) rfl ?_
    simp only [go_sem, townB, List.length_map]
    refine Br_split (fun hd => ?_) (fun hd => ?_) <;> simp only [go_sem, hd]
    · have hit : i < t.ch.length := by simpa using hd
      have hix : idx? (t.ch.map Chg.d) (i : Int) = some t.ch[i].d := by simp [idx?, List.getElem?_eq_getElem hit]
      have hcd : t.ch[i].d = .agg [.int .i64 t.ch[i].at', .int .i64 t.ch[i].st, .str t.ch[i].name] := rfl
      have hni : IntKind.i64.wrap ((i : Int) + 1) = ((i + 1 : Nat) : Int) := by rw [w64 (by omega) (by omega)]; omega
      have hcs := cntC_succ t hour s hit
      have hcl := cntC_le t hour s i
      have hnc : IntKind.i64.wrap ((cntC t hour s i : Int) + 1) = ((cntC t hour s i + 1 : Nat) : Int) := by rw [w64 (by omega) (by omega)]; omega
      rw [hcd] at hix
      generalize t.ch[i].at' = x1 at *
      generalize t.ch[i].st = x2 at *
      generalize t.ch[i].name = x3 at *
      simp only [go_sem, hix]
      by_cases g1 : x1 = hour
      · simp only [go_sem, decide_eq_true g1, hix]
        by_cases g2 : x2 = (s : Int)
        · rw [if_pos ⟨g1, g2⟩] at hcs
          simp only [go_sem, decide_eq_true g2, hni, hnc]
          exact ⟨i + 1, hit, by omega, ForgetTo.same' (Nat.zero_le _) (by simp [EWe, Env.look, hcs]) rfl⟩
        · rw [if_neg (fun h => g2 h.2)] at hcs
          simp only [go_sem, decide_eq_false g2, hni]
          exact ⟨i + 1, hit, by omega, ForgetTo.same' (Nat.zero_le _) (by simp [EWe, Env.look, hcs]) rfl⟩
      · rw [if_neg (fun h => g1 h.1)] at hcs
        simp only [go_sem, decide_eq_false g1, hni]
        exact ⟨i + 1, hit, by omega, ForgetTo.same' (Nat.zero_le _) (by simp [EWe, Env.look, hcs]) rfl⟩
    · have hie : i = t.ch.length := by simp only [decide_eq_false_iff_not] at hd; omega
      subst hie
      have hcle := cntC_le t hour s t.ch.length
      generalize hC : cntC t hour s t.ch.length = C at *
      refine ALoop.by (S := Nat) (fun o => [(11, .d (.int .i64 o)), (9, .d (.bool (likeC t hour s o))), (8, .d (.int .i64 C)), (7, .d (.int .i64 s)), (6, .ref 2 B.length 0 B.length), (5, .ref 1 A.length 0 A.length), (2, .ptr 0 0), (1, .d (.int .i64 hour))])
        (fun _ => [townB t, .arr 1 false (A.map (.int .i64)), .arr 1 false (B.map (.int .i64))]) (fun o => t.first.length - o) (fun o => o ≤ t.first.length) 0 (Nat.zero_le _) (fun _ h => nomatch h) (Nat.zero_le _) (ForgetTo.same' (Nat.zero_le _) ⟨rfl, rfl, rfl, rfl, rfl, rfl, rfl, rfl, trivial⟩ rfl) ?_
      rintro o ho hn3
      refine AWP.run (fun _ => false) tt_ok (fun _ h => nomatch h) (Nat.zero_le _) rfl ?_
      simp only [go_sem, townB, List.length_map]
      refine Br_split (fun hd => ?_) (fun hd => ?_) <;> simp only [go_sem, hd]
      · have hot : o < t.first.length := by simpa using hd
        have hno : IntKind.i64.wrap ((o : Int) + 1) = ((o + 1 : Nat) : Int) := by rw [w64 (by omega) (by omega)]; omega
        have hls := likeC_succ t hour s o
        have c27a := c27 t h2 hot hour
        have c27b := c27 t h2 hlt hour
        simp only [Town.d] at c27a c27b
        generalize calledT t o hour = co at *
        generalize calledT t s hour = cs at *
        refine ADrw.treeG (fun _ => false) tt_ok (by kernel_rfl) (fun k => if k = 6 ∨ k = 10 then some .L else some .S) (.ones [0, 1, 2, 3, 4, 5, 6, 7, 8, 9, 10, 11, 12, 13, 14, 15, 16, 17] .done) (Nat.zero_le _) (fun _ h => nomatch h) rfl rfl (by kernel_rfl) ?_
        cases hlk : likeC t hour s o with
        | true =>
          rw [hlk, Bool.true_or] at hls
          simp only [go_sem, hno]
          exact ⟨o + 1, hot, by omega, ForgetTo.same' (Nat.zero_le _) (by simp [EWe, Env.look, hls]) rfl⟩
        | false =>
          rw [hlk, Bool.false_or] at hls
          by_cases hos : o = s
          · rw [decide_eq_true hos, Bool.not_true, Bool.false_and] at hls
            have d1 : decide ((o : Int) = (s : Int)) = true := decide_eq_true (by omega)
            simp only [go_sem, d1, hno]
            exact ⟨o + 1, hot, by omega, ForgetTo.same' (Nat.zero_le _) (by simp [EWe, Env.look, hls]) rfl⟩
          · rw [decide_eq_false hos, Bool.not_false, Bool.true_and] at hls
            have d1 : decide ((o : Int) = (s : Int)) = false := decide_eq_false (by omega)
            simp only [go_sem, d1]
            refine c27a.callS rfl rfl rfl rfl rfl rfl ?_
            simp only [go_sem]
            refine c27b.callS rfl rfl rfl rfl rfl rfl ?_
            simp only [go_sem, beq_str, hno]
            exact ⟨o + 1, hot, by omega, ForgetTo.same' (Nat.zero_le _) (by simp [EWe, Env.look, hls]) rfl⟩
      · have hoe : o = t.first.length := by simp only [decide_eq_false_iff_not] at hd; omega
        subst hoe
        have lA : (A.map (D.int .i64)).length = A.length := by simp
        have lB : (B.map (D.int .i64)).length = B.length := by simp
        have dA : decide (A.length ≤ 4294967295) = true := decide_eq_true (by omega)
        have dB : decide (B.length ≤ 4294967295) = true := decide_eq_true (by omega)
        have mA : (A ++ [(s : Int)]).map (D.int .i64) = A.map (.int .i64) ++ [.int .i64 s] := by simp
        have mB : (B ++ [(s : Int)]).map (D.int .i64) = B.map (.int .i64) ++ [.int .i64 s] := by simp
        generalize likeC t hour s t.first.length = K at *
        by_cases g1 : 1 < C
        · have d1 : decide ((1 : Int) < (C : Int)) = true := decide_eq_true (by omega)
          rw [if_pos g1] at fin
          cases K with
          | true =>
            rw [if_pos rfl] at fin
            have fin := fun E => fin (A ++ [(s : Int)]) (B ++ [(s : Int)]) E rfl rfl
            rw [mA, mB] at fin
            simp only [go_sem, d1, lA, lB, dA, dB, hnx]
            exact fin _ (by simp [EWe, Env.look])
          | false =>
            rw [if_neg (by simp), List.append_nil] at fin
            have fin := fun E => fin (A ++ [(s : Int)]) B E rfl rfl
            rw [mA] at fin
            simp only [go_sem, d1, lA, lB, dA, dB, hnx]
            exact fin _ (by simp [EWe, Env.look])
        · have d1 : decide ((1 : Int) < (C : Int)) = false := decide_eq_false (by omega)
          rw [if_neg g1, List.append_nil] at fin
          cases K with
          | true =>
            rw [if_pos rfl] at fin
            have fin := fun E => fin A (B ++ [(s : Int)]) E rfl rfl
            rw [mB] at fin
            simp only [go_sem, d1, lA, lB, dA, dB, hnx]
            exact fin _ (by simp [EWe, Env.look])
          | false =>
            rw [if_neg (by simp), List.append_nil] at fin
            have fin := fun E => fin A B E rfl rfl
            simp only [go_sem, d1, hnx]
            exact fin _ (by simp [EWe, Env.look])
  · have hie : s = t.first.length := by simp only [decide_eq_false_iff_not] at hd; omega
    subst hie
    rw [clash_C]
    have t1 : ((twC t hour t.first.length).map (D.int .i64)).take (twC t hour t.first.length).length = (twC t hour t.first.length).map (.int .i64) := List.take_of_length_le (by simp)
    have t2 : ((alC t hour t.first.length).map (D.int .i64)).take (alC t hour t.first.length).length = (alC t hour t.first.length).map (.int .i64) := List.take_of_length_le (by simp)
    by_cases h0 : twC t hour t.first.length = []
    · rw [if_pos h0]
      have d1 : decide ((0 : Int) < ((twC t hour t.first.length).length : Int)) = false := decide_eq_false (by rw [h0]; simp)
      simp only [go_sem, List.length_map, d1, t2]
    · rw [if_neg h0]
      have d1 : decide ((0 : Int) < ((twC t hour t.first.length).length : Int)) = true := decide_eq_true (by have := List.length_pos_iff.2 h0; omega)
      simp only [go_sem, List.length_map, d1, t1]
end Go.Aw
end

section
set_option maxRecDepth 100000
namespace Go.Aw
open Go Go.Proofs.Tryz

def firstV (t : Town) : List V :=
  if (nbT t).2.2 = [] then [.d (.int .i64 1001), .slx (some true) []] else [.d (.int .i64 (nbT t).2.1), .d (.sl ((nbT t).2.2.map (.int .i64)))]

theorem c21 (t : Town) (ht : t.Ok) : PC prog 21 [.d t.d] (.tup (firstV t)) := by
  have hl1 := ht.len.2
  have hl2 := ht.chl
  refine PC.run (fun _ => false) tt_ok (fn := f21) (rs := [.tmp 2, .tmp 3]) rfl rfl rfl rfl rfl rfl rfl ?_
  simp only [go_sem, Town.d]
  refine ALoop.by (S := Nat) (fun h => [(4, .d (.int .i64 h)), (1, .ptr 0 0)]) (fun _ => [townB t]) (fun h => 1001 - h) (fun h => (1 ≤ h ∧ h ≤ 1001) ∧ ∀ k : Int, 1 ≤ k → k < h → clashT t k = []) 1 (Nat.zero_le _) (fun _ h => nomatch h) ⟨by omega, fun k h1 h2 => by omega⟩ (ForgetTo.same' (Nat.zero_le _) ⟨rfl, rfl, trivial⟩ rfl) ?_
  rintro h ⟨⟨h1, h2⟩, hcl⟩ hn
  refine AWP.run (fun _ => false) tt_ok (fun _ h => nomatch h) (Nat.zero_le _) rfl ?_
  simp only [go_sem, townB]
  refine Br_split (fun hd => ?_) (fun hd => ?_) <;> simp only [go_sem, hd]
  · have hle : h ≤ 1000 := by simp only [decide_eq_true_eq] at hd; omega
    have hnx : IntKind.i64.wrap ((h : Int) + 1) = ((h + 1 : Nat) : Int) := by rw [w64 (by omega) (by omega)]; omega
    refine (c75 t (by omega) (by omega) h).call rfl rfl rfl ?_
    simp only [go_sem, List.length_map]
    refine Br_split (fun he => ?_) (fun he => ?_) <;> simp only [go_sem, he]
    · have hne : clashT t h ≠ [] := fun e => by rw [e] at he; simp [natI] at he
      have hv : firstV t = [.d (.int .i64 h), .d (.sl ((natI (clashT t h)).map (.int .i64)))] := by
        rcases nbT_spec ht with ⟨k, hk, e, hne2, hb⟩ | ⟨_, h3, _⟩
        · have hkh : k = h := by
            rcases Int.lt_trichotomy k h with hh | hh | hh
            · exact absurd (hcl k hk.1 hh) hne2
            · exact hh
            · exact absurd (hb h (by omega) hh) hne
          subst hkh
          rw [firstV, e, if_neg (show ¬ natI (clashT t h) = [] from fun e => hne (List.map_eq_nil_iff.1 e))]
        · exact absurd (h3 h (by omega)) hne
      rw [hv]
    · have hne : clashT t h = [] := by
        cases hc : clashT t h with
        | nil => rfl
        | cons a b => rw [hc] at he; simp [natI] at he
      simp only [go_sem, hnx]
      refine ⟨h + 1, ⟨⟨by omega, by omega⟩, fun k k1 k2 => ?_⟩, by omega, ForgetTo.same' (Nat.zero_le _) ⟨rfl, rfl, trivial⟩ rfl⟩
      rcases Int.lt_or_le k h with hh | hh
      · exact hcl k k1 hh
      · rw [show k = h by omega]; exact hne
  · have hh : h = 1001 := by simp only [decide_eq_false_iff_not] at hd; omega
    have hv : firstV t = [.d (.int .i64 1001), .slx (some true) []] := by
      rcases nbT_spec ht with ⟨k, hk, e, hne2, hb⟩ | ⟨e, _, _⟩
      · exact absurd (hcl k hk.1 (by omega)) hne2
      · rw [firstV, e]; rfl
    rw [hv]

theorem chk4 {t : Town} (h : ¬ (1 ≤ t.first.length ∧ t.first.length ≤ 6) ∨ (∃ i, i < t.first.length ∧ nm (t.first.getD i default) = false) ∨ ∃ k i, k < i ∧ i < t.first.length ∧ t.first.getD k default = t.first.getD i default) : checkT t = 4 := by
  rw [checkT]
  by_cases h1 : (!(decide (1 ≤ t.first.length) && decide (t.first.length ≤ 6)) || t.first.any fun s => !nm s) = true
  · rw [if_pos h1]
  · rw [if_neg h1, if_pos]
    simp only [Bool.not_eq_true, Bool.or_eq_false_iff, Bool.not_eq_false', Bool.and_eq_true, decide_eq_true_eq, List.any_eq_false, Bool.not_eq_true', Bool.not_eq_false] at h1
    rcases h with h | ⟨i, hi, h⟩ | ⟨k, i, hk, hi, h⟩
    · exact absurd h1.1 h
    · rw [getDG hi] at h
      exact absurd (h1.2 _ (List.getElem_mem hi)) (by simp [h])
    · intro e
      have : i ∈ twinsP t.first := List.mem_filter.2 ⟨List.mem_range.2 hi, decide_eq_true ((count_two t.first i hi).2 ⟨k, by omega, by omega, h⟩)⟩
      rw [e] at this; cases this

theorem chkR {t : Town} (h0 : 1 ≤ t.first.length ∧ t.first.length ≤ 6) (h1 : ∀ i, i < t.first.length → nm (t.first.getD i default) = true) (h2 : ∀ i k, k < i → i < t.first.length → t.first.getD k default ≠ t.first.getD i default) :
    checkT t = if t.ch.length > 8 then 5 else if t.ch.any (fun c => !chgOk t.first.length c) then 2 else 0 := by
  rw [checkT, if_neg, if_neg]
  · rw [ne_eq, Classical.not_not, twinsP, List.filter_eq_nil_iff]
    intro i hi
    rw [decide_eq_true_eq, count_two t.first i (List.mem_range.1 hi)]
    rintro ⟨o, ho, hne, e⟩
    rcases Nat.lt_or_gt_of_ne hne with h | h
    · exact h2 i o h (List.mem_range.1 hi) e
    · exact h2 o i h ho e.symm
  · simp only [Bool.not_eq_true, Bool.or_eq_false_iff, Bool.not_eq_false', Bool.and_eq_true, decide_eq_true_eq, List.any_eq_false, Bool.not_eq_true', Bool.not_eq_false]
    refine ⟨h0, fun s hs => ?_⟩
    obtain ⟨i, hi, e⟩ := List.getElem_of_mem hs
    have := h1 i hi
    rwa [getDG hi, e] at this

theorem c19 (t : Town) (h1 : t.first.length ≤ 1000) (h2 : t.ch.length ≤ 1000) (hfn : ∀ s ∈ t.first, s.size ≤ 1000) (hcn : ∀ c ∈ t.ch, c.name.size ≤ 1000) : PC prog 19 [.d t.d] (.d (.int .i64 (checkT t))) := by
  refine PC.run (fun _ => false) tt_ok (fn := f19) (rs := [.tmp 2]) rfl rfl rfl rfl rfl rfl rfl ?_
  simp only [go_sem, Town.d, List.length_map]
  refine (c26 t.first.length 1 6).call rfl rfl rfl ?_
  cases hc : decide ((1 : Int) ≤ (t.first.length : Int) ∧ (t.first.length : Int) ≤ 6) with
  | false =>
    have : checkT t = 4 := chk4 (.inl (by simp only [decide_eq_false_iff_not] at hc; omega))
    rw [this]
    simp only [go_sem]
  | true =>
    have h0 : 1 ≤ t.first.length ∧ t.first.length ≤ 6 := by simp only [decide_eq_true_eq] at hc; omega
    simp only [go_sem]
    refine ALoop.by (S := Nat) (fun i => [(4, .d (.int .i64 i)), (3, .d (.int .i64 t.first.length)), (1, .ptr 0 0)]) (fun _ => [townB t]) (fun i => t.first.length - i)
      (fun i => i ≤ t.first.length ∧ (∀ j, j < i → nm (t.first.getD j default) = true) ∧ ∀ j k, k < j → j < i → t.first.getD k default ≠ t.first.getD j default) 0 (Nat.zero_le _) (fun _ h => nomatch h) ⟨Nat.zero_le _, fun _ h => by omega, fun _ _ _ h => by omega⟩ (ForgetTo.same' (Nat.zero_le _) ⟨rfl, rfl, rfl, trivial⟩ rfl) ?_
    rintro i ⟨hi, hA, hB⟩ hn
    refine AWP.run (fun _ => false) tt_ok (fun _ h => nomatch h) (Nat.zero_le _) rfl ?_
    simp only [go_sem, townB]
    refine Br_split (fun hd => ?_) (fun hd => ?_) <;> simp only [go_sem, hd]
    · have hlt : i < t.first.length := by simpa using hd
      have hix : idx? (t.first.map D.str) (i : Int) = some (.str (t.first.getD i default)) := by rw [getDG hlt]; simp [idx?, List.getElem?_eq_getElem hlt]
      have hsz : (t.first.getD i default).size ≤ 1000 := by rw [getDG hlt]; exact hfn _ (List.getElem_mem hlt)
      have hnx : IntKind.i64.wrap ((i : Int) + 1) = ((i + 1 : Nat) : Int) := by rw [w64 (by omega) (by omega)]; omega
      have bad := fun e => chk4 (t := t) (.inr (.inl ⟨i, hlt, e⟩))
      have bad2 := fun k hk e => chk4 (t := t) (.inr (.inr ⟨k, i, hk, hlt, e⟩))
      have c28a := c28 (t.first.getD i default) hsz
      have fin : (nm (t.first.getD i default) = true) → (∀ k, k < i → t.first.getD k default ≠ t.first.getD i default) → (∀ j, j < i + 1 → nm (t.first.getD j default) = true) ∧ ∀ j k, k < j → j < i + 1 → t.first.getD k default ≠ t.first.getD j default := fun e1 e2 => by
        refine ⟨fun j hj => ?_, fun j k hk hj => ?_⟩
        · rcases Nat.lt_or_ge j i with h | h
          · exact hA j h
          · rw [show j = i by omega]; exact e1
        · rcases Nat.lt_or_ge j i with h | h
          · exact hB j k hk h
          · rw [show j = i by omega] at hk ⊢; exact e2 k hk
      generalize hz : t.first.getD i default = z at *
      simp only [go_sem, hix]
      refine c28a.call rfl rfl rfl ?_
      cases hm : nm z with
      | false =>
        rw [bad hm]
        simp only [go_sem]
      | true =>
        simp only [go_sem]
        refine ALoop.by (S := Nat) (fun k => [(5, .d (.int .i64 k)), (4, .d (.int .i64 i)), (3, .d (.int .i64 t.first.length)), (1, .ptr 0 0)]) (fun _ => [townB t]) (fun k => i - k)
          (fun k => k ≤ i ∧ ∀ o, o < k → t.first.getD o default ≠ z) 0 (Nat.zero_le _) (fun _ h => nomatch h) ⟨Nat.zero_le _, fun _ h => by omega⟩ (ForgetTo.same' (Nat.zero_le _) ⟨rfl, rfl, rfl, rfl, trivial⟩ rfl) ?_
        rintro k ⟨hk, hC⟩ hn2
        refine AWP.run (fun _ => false) tt_ok (fun _ h => nomatch h) (Nat.zero_le _) rfl ?_
        simp only [go_sem, townB]
        refine Br_split (fun he => ?_) (fun he => ?_) <;> simp only [go_sem, he]
        · have hki : k < i := by simpa using he
          have hkx : idx? (t.first.map D.str) (k : Int) = some (.str (t.first.getD k default)) := by rw [getDG (show k < t.first.length by omega)]; simp [idx?, List.getElem?_eq_getElem (show k < t.first.length by omega)]
          have hnk : IntKind.i64.wrap ((k : Int) + 1) = ((k + 1 : Nat) : Int) := by rw [w64 (by omega) (by omega)]; omega
          refine ADrw.treeG (fun _ => false) tt_ok (by kernel_rfl) (fun k => if k = 1 ∨ k = 6 then some .L else some .S) (.ones [0, 1, 2, 3, 4, 5, 6, 7, 8, 9, 10] .done) (Nat.zero_le _) (fun _ h => nomatch h) rfl rfl (by kernel_rfl) ?_
          simp only [go_sem, hix, hkx, beq_str]
          refine Br_split (fun hf => ?_) (fun hf => ?_) <;> simp only [go_sem, hf]
          · rw [bad2 k hki (by simpa using hf)]
          · simp only [go_sem, hnk]
            refine ⟨k + 1, ⟨by omega, fun o ho => ?_⟩, by omega, ForgetTo.same' (Nat.zero_le _) ⟨rfl, rfl, rfl, rfl, trivial⟩ rfl⟩
            rcases Nat.lt_or_ge o k with h | h
            · exact hC o h
            · rw [show o = k by omega]; simpa using hf
        · have hki : k = i := by simp only [decide_eq_false_iff_not] at he; omega
          simp only [go_sem, hnx]
          exact ⟨i + 1, ⟨hlt, fin hm (hki ▸ hC)⟩, by omega, ForgetTo.same' (Nat.zero_le _) ⟨rfl, rfl, rfl, trivial⟩ rfl⟩
    · have hie : i = t.first.length := by simp only [decide_eq_false_iff_not] at hd; omega
      subst hie
      rw [chkR h0 hA hB]
      simp only [go_sem, List.length_map]
      refine Br_split (fun he => ?_) (fun he => ?_) <;> simp only [go_sem, he]
      · rw [if_pos (by simp only [decide_eq_true_eq] at he; omega)]
      · rw [if_neg (by simp only [decide_eq_false_iff_not] at he; omega)]
        refine ALoop.by (S := Nat) (fun i => [(6, .d (.int .i64 i)), (3, .d (.int .i64 t.first.length)), (1, .ptr 0 0)]) (fun _ => [townB t]) (fun i => t.ch.length - i)
          (fun i => i ≤ t.ch.length ∧ (t.ch.take i).any (fun c => !chgOk t.first.length c) = false) 0 (Nat.zero_le _) (fun _ h => nomatch h) ⟨Nat.zero_le _, rfl⟩ (ForgetTo.same' (Nat.zero_le _) ⟨rfl, rfl, rfl, trivial⟩ rfl) ?_
        rintro j ⟨hj, hx⟩ hn2
        refine AWP.run (fun _ => false) tt_ok (fun _ h => nomatch h) (Nat.zero_le _) rfl ?_
        simp only [go_sem, townB, List.length_map]
        refine Br_split (fun hf => ?_) (fun hf => ?_) <;> simp only [go_sem, hf]
        · have hlt : j < t.ch.length := by simpa using hf
          have hix : idx? (t.ch.map Chg.d) (j : Int) = some t.ch[j].d := by simp [idx?, List.getElem?_eq_getElem hlt]
          have hnj : IntKind.i64.wrap ((j : Int) + 1) = ((j + 1 : Nat) : Int) := by rw [w64 (by omega) (by omega)]; omega
          have c39a := c39 t.ch[j] t.first.length (by omega) (hcn _ (List.getElem_mem hlt))
          have bad : chgOk t.first.length t.ch[j] = false → t.ch.any (fun c => !chgOk t.first.length c) = true := fun e => List.any_eq_true.2 ⟨_, List.getElem_mem hlt, by rw [e]; rfl⟩
          have fin : chgOk t.first.length t.ch[j] = true → (t.ch.take (j + 1)).any (fun c => !chgOk t.first.length c) = false := fun e => by rw [List.take_succ_eq_append_getElem hlt, List.any_append, hx]; simp [e]
          generalize t.ch[j] = c at *
          simp only [go_sem, hix]
          refine c39a.call rfl rfl rfl ?_
          cases hm : chgOk t.first.length c with
          | false =>
            rw [bad hm]
            simp only [go_sem, if_true]
          | true =>
            simp only [go_sem, hnj]
            exact ⟨j + 1, ⟨hlt, fin hm⟩, by omega, ForgetTo.same' (Nat.zero_le _) ⟨rfl, rfl, rfl, trivial⟩ rfl⟩
        · have hje : j = t.ch.length := by simp only [decide_eq_false_iff_not] at hf; omega
          subst hje
          rw [List.take_length] at hx
          rw [hx]
          simp only [go_sem, Bool.false_eq_true, if_false]

theorem c25 (t : Town) (h1 : t.first.length ≤ 1000) (h2 : t.ch.length ≤ 1000) (hfn : ∀ s ∈ t.first, s.size ≤ 1000) (hcn : ∀ c ∈ t.ch, c.name.size ≤ 1000) : PC prog 25 [.d t.d] (.d (.int .i64 (openE t))) := by
  refine PC.run (fun _ => false) tt_ok (fn := f25) (rs := [.tmp 2]) rfl rfl rfl rfl rfl rfl rfl ?_
  simp only [go_sem, Town.d]
  refine (c19 t h1 h2 hfn hcn).call rfl rfl rfl ?_
  by_cases hc : checkT t = 0
  · have hok := checkT_iff.1 hc
    have e2 : openE t = if (nbT t).2.2 ≠ [] then 9 else 0 := by rw [openE, if_neg (by rw [hc]; simp)]
    rw [e2, hc]
    simp only [go_sem]
    have c21a := c21 t hok
    rw [firstV] at c21a
    by_cases hl : (nbT t).2.2 = []
    · rw [if_pos hl] at c21a
      rw [if_neg (by simpa using hl)]
      refine c21a.call rfl rfl rfl ?_
      simp only [go_sem]
    · rw [if_neg hl] at c21a
      rw [if_pos hl]
      refine c21a.call rfl rfl rfl ?_
      have : decide ((nbT t).2.1 ≤ 1000) = true := by
        rcases nbT_spec hok with ⟨k, hk, e, _⟩ | ⟨e, _⟩
        · rw [e]; exact decide_eq_true hk.2
        · rw [e]; rfl
      simp only [go_sem, this]
  · have e2 : openE t = checkT t := by rw [openE, if_pos hc]
    rw [e2]
    have d1 : decide (checkT t = 0) = false := decide_eq_false hc
    simp only [go_sem, d1]
end Go.Aw
end

section
set_option maxRecDepth 100000
namespace Go.Aw
open Go Go.Proofs.Tryz

def allW (t : Town) (l : List ByteArray) (i : Nat) : List ByteArray := (l ++ t.first) ++ (t.ch.take i).map (·.name)
def longB (t : Town) (l : List ByteArray) : Bool :=
  decide (20 < t.first.length) || (decide (20 < t.ch.length) || (decide (20 < l.length) || (allW t l t.ch.length).any fun s => decide (40 < s.size)))

theorem long_fits {t : Town} {l : List ByteArray} (h : longB t l = false) : t.Small ∧ t.first.length ≤ 20 ∧ t.ch.length ≤ 20 ∧ l.length ≤ 20 ∧ (∀ s ∈ t.first, s.size ≤ 40) ∧ (∀ c ∈ t.ch, c.name.size ≤ 40) ∧ ∀ s ∈ l, s.size ≤ 40 := by
  simp only [longB, Bool.or_eq_false_iff, decide_eq_false_iff_not, Nat.not_lt, List.any_eq_false, decide_eq_true_eq, allW, List.take_length, List.mem_append, List.mem_map] at h
  obtain ⟨h1, h2, h3, h4⟩ := h
  have f1 : ∀ s ∈ t.first, s.size ≤ 40 := fun s hs => h4 s (.inl (.inr hs))
  have f2 : ∀ c ∈ t.ch, c.name.size ≤ 40 := fun c hc => h4 _ (.inr ⟨c, hc, rfl⟩)
  exact ⟨⟨by omega, by omega, fun s hs => by have := f1 s hs; omega, fun c hc => by have := f2 c hc; omega⟩, h1, h2, h3, f1, f2, fun s hs => h4 s (.inl (.inl hs))⟩

theorem allW_succ (t : Town) (l : List ByteArray) {i : Nat} (h : i < t.ch.length) : allW t l (i + 1) = allW t l i ++ [t.ch[i].name] := by
  rw [allW, List.take_succ_eq_append_getElem h, List.map_append, ← List.append_assoc]; rfl

theorem c14 (t : Town) (l : List ByteArray) : PC prog 14 [.d t.d, .d (.sl (l.map .str))] (.d (.bool (longB t l))) := by
  refine PC.run (fun k => k == 23) tt_ok (fn := f14) (rs := [.tmp 4]) rfl rfl rfl rfl rfl rfl rfl ?_
  simp only [go_sem, Town.d, List.length_map]
  have hb : ∀ n : Nat, decide ((20 : Int) < (n : Int)) = decide (20 < n) := fun n => by rw [Bool.eq_iff_iff, decide_eq_true_eq, decide_eq_true_eq]; omega
  rw [longB]
  simp only [hb]
  cases d1 : decide (20 < t.first.length) with
  | true => simp only [go_sem, hb, d1, Bool.true_or]
  | false =>
  cases d2 : decide (20 < t.ch.length) with
  | true => simp only [go_sem, hb, d1, d2, Bool.true_or, Bool.false_or, List.length_map]
  | false =>
  simp only [go_sem, hb, d1, d2, Bool.true_or, Bool.false_or, List.length_map]
  have h1 : t.first.length ≤ 20 := by simp only [decide_eq_false_iff_not] at d1; omega
  have h2 : t.ch.length ≤ 20 := by simp only [decide_eq_false_iff_not] at d2; omega
  have s1 := sized_strs t.first
  have s2 := sized_strs l
  cases d3 : decide (20 < l.length) with
  | true =>
    simp only [go_sem, hb, d1, d2, d3, Bool.true_or, Bool.false_or, List.length_map]
    try simp only [go_sem]
  | false =>
  have h3 : l.length ≤ 20 := by simp only [decide_eq_false_iff_not] at d3; omega
  have b1 : t.first.length ≤ 4294967296 := by omega
  have b2 : l.length ≤ 4294967296 := by omega
  have b3 : l.length + t.first.length ≤ 4294967296 := by omega
  have b4 : 0 + l.length + t.first.length ≤ 4294967296 := by omega
  simp only [go_sem, hb, d1, d2, d3, Bool.true_or, Bool.false_or, List.length_map, s1, s2, List.length_nil, List.map_nil, b1, b2, b3]
  try simp only [go_sem, hb, d1, d2, d3, Bool.true_or, Bool.false_or, List.length_map, s1, s2, List.length_nil, List.map_nil, b1, b2, b3]
  simp only [Bool.false_or]
  refine ALoop.by (S := Nat) (fun i => [(6, .d (.int .i64 i)), (5, .ref 1 (allW t l i).length 0 (allW t l i).length), (2, .ptr 0 0)]) (fun i => [townB t, .arr 1 false ((allW t l i).map .str)]) (fun i => t.ch.length - i) (fun i => i ≤ t.ch.length) 0 (Nat.zero_le _) (fun _ h => nomatch h) (Nat.zero_le _) ?_ ?_
  · exact ForgetTo.same' (Nat.zero_le _) (by simp [EWe, Env.look, allW]) (by simp [townB, allW])
  rintro i hi hn
  refine AWP.run (fun _ => false) tt_ok (fun _ h => nomatch h) (Nat.zero_le _) rfl ?_
  simp only [go_sem, townB, List.length_map]
  refine Br_split (fun hd => ?_) (fun hd => ?_) <;> simp only [go_sem, hd]
  · have hlt : i < t.ch.length := by simpa using hd
    have hix : idx? (t.ch.map Chg.d) (i : Int) = some t.ch[i].d := by simp [idx?, List.getElem?_eq_getElem hlt]
    have hcd : t.ch[i].d = .agg [.int .i64 t.ch[i].at', .int .i64 t.ch[i].st, .str t.ch[i].name] := rfl
    have hnx : IntKind.i64.wrap ((i : Int) + 1) = ((i + 1 : Nat) : Int) := by rw [w64 (by omega) (by omega)]; omega
    have hsu := allW_succ t l hlt
    have hln : (allW t l i).length ≤ 60 := by simp [allW]; omega
    have fin : ∀ (A : List ByteArray) (E : Env), A = allW t l (i + 1) → EWe E [(6, .d (.int .i64 ((i + 1 : Nat) : Int))), (5, .ref 1 A.length 0 A.length), (2, .ptr 0 0)] →
        ∃ s', s' ≤ t.ch.length ∧ t.ch.length - s' < t.ch.length - i ∧ ForgetTo 0 E [townB t, .arr 1 false (A.map .str)] [(6, .d (.int .i64 s')), (5, .ref 1 (allW t l s').length 0 (allW t l s').length), (2, .ptr 0 0)] [townB t, .arr 1 false ((allW t l s').map .str)] := fun A E hA hE => by
      subst hA
      exact ⟨i + 1, hlt, by omega, ForgetTo.same' (Nat.zero_le _) hE rfl⟩
    rw [hsu] at fin
    clear hsu
    simp only [townB] at fin
    rw [hcd] at hix
    generalize allW t l i = A at *
    generalize t.ch[i].at' = x1 at *
    generalize t.ch[i].st = x2 at *
    generalize t.ch[i].name = x3 at *
    have s3 : sized 1 [D.str x3] = true := rfl
    have b5 : A.length + 1 ≤ 4294967296 := by omega
    simp only [go_sem, hix, s3, List.length_map, List.length_cons, List.length_nil, b5, hnx]
    have f2 := fun E => fin (A ++ [x3]) E rfl
    simp only [List.map_append, List.map_cons, List.map_nil, List.length_append, List.length_cons, List.length_nil, Nat.zero_add] at f2
    exact f2 _ ⟨rfl, rfl, rfl, trivial⟩
  · have hie : i = t.ch.length := by simp only [decide_eq_false_iff_not] at hd; omega
    subst hie
    have hln : (allW t l t.ch.length).length ≤ 60 := by simp [allW]; omega
    generalize allW t l t.ch.length = A at *
    refine ALoop.by (S := Nat) (fun i => [(7, .d (.int .i64 i)), (5, .ref 1 A.length 0 A.length)]) (fun _ => [townB t, .arr 1 false (A.map .str)]) (fun i => A.length - i)
      (fun i => i ≤ A.length ∧ (A.take i).any (fun s => decide (40 < s.size)) = false) 0 (Nat.zero_le _) (fun _ h => nomatch h) ⟨Nat.zero_le _, rfl⟩ (ForgetTo.same' (Nat.zero_le _) ⟨rfl, rfl, trivial⟩ rfl) ?_
    rintro i ⟨hi, hx⟩ hn2
    refine AWP.run (fun _ => false) tt_ok (fun _ h => nomatch h) (Nat.zero_le _) rfl ?_
    simp only [go_sem, townB, List.length_map]
    refine Br_split (fun he => ?_) (fun he => ?_) <;> simp only [go_sem, he]
    · have hlt : i < A.length := by simpa using he
      have hix : idx? (A.map D.str) (i : Int) = some (.str A[i]) := by simp [idx?, List.getElem?_eq_getElem hlt]
      have hnx : IntKind.i64.wrap ((i : Int) + 1) = ((i + 1 : Nat) : Int) := by rw [w64 (by omega) (by omega)]; omega
      have bad : 40 < A[i].size → A.any (fun s => decide (40 < s.size)) = true := fun e => List.any_eq_true.2 ⟨_, List.getElem_mem hlt, decide_eq_true e⟩
      have fin : ¬ 40 < A[i].size → (A.take (i + 1)).any (fun s => decide (40 < s.size)) = false := fun e => by rw [List.take_succ_eq_append_getElem hlt, List.any_append, hx]; simp; omega
      generalize A[i] = x at *
      have i1 : (0 : Int) ≤ (i : Int) ∧ (i : Int) < (A.length : Int) := by omega
      have hg : (A.map D.str)[i]? = some (.str x) := by simpa [idx?] using hix
      simp only [go_sem, hix, List.length_map, hlt, i1, Int.toNat_natCast, hg]
      refine Br_split (fun hf => ?_) (fun hf => ?_) <;> simp only [go_sem, hf]
      · rw [bad (by simp only [decide_eq_true_eq] at hf; omega)]
      · simp only [go_sem, hnx]
        exact ⟨i + 1, ⟨hlt, fin (by simp only [decide_eq_false_iff_not] at hf; omega)⟩, by omega, ForgetTo.same' (Nat.zero_le _) ⟨rfl, rfl, trivial⟩ rfl⟩
    · have hie : i = A.length := by simp only [decide_eq_false_iff_not] at he; omega
      subst hie
      rw [List.take_length] at hx
      rw [hx]
end Go.Aw
end

section
set_option maxRecDepth 100000
namespace Go.Aw
open Go Go.Proofs

theorem has_int {f : Nat} {y : D} (h : HasT Tryz.prog (f + 1) 3 y) : ∃ n, y = .int .i64 n ∧ (Lit.int .i64 n).wf = true := by
  unfold HasT at h
  rw [Tryz.underlying3] at h
  exact h

theorem has_list {α : Type} {enc : α → D} {p : D → Prop} (he : ∀ y, p y → ∃ s, y = enc s) : ∀ l : List D, (∀ y ∈ l, p y) → ∃ ss : List α, l = ss.map enc
  | [], _ => ⟨[], rfl⟩
  | y :: r, h => by
    obtain ⟨s, rfl⟩ := he y (h y (by simp))
    obtain ⟨ss, rfl⟩ := has_list he r fun z hz => h z (List.mem_cons_of_mem _ hz)
    exact ⟨s :: ss, rfl⟩

theorem has_str {f : Nat} {y : D} (h : HasT Tryz.prog (f + 1) 9 y) : ∃ s, y = .str s := by
  unfold HasT at h
  rw [Tryz.underlying9] at h
  obtain ⟨s, rfl, _⟩ := h
  exact ⟨s, rfl⟩

theorem has_strs {f : Nat} {y : D} (h : HasT Tryz.prog (f + 2) 22 y) : ∃ l : List ByteArray, y = .sl (l.map .str) := by
  unfold HasT at h
  rw [Tryz.underlying22] at h
  obtain ⟨l, rfl, h1, hl⟩ := h
  obtain ⟨ss, rfl⟩ := has_list (fun y hy => has_str (f := f) hy) l hl
  exact ⟨ss, rfl⟩

theorem has_chg {f : Nat} {y : D} (h : HasT Tryz.prog (f + 2) 60 y) : ∃ c : Chg, y = c.d := by
  unfold HasT at h
  rw [Tryz.underlying60] at h
  obtain ⟨l, rfl, h⟩ := h
  simp only [HasFs] at h
  obtain ⟨y1, r1, rfl, h1, y2, r2, rfl, h2, y3, r3, rfl, h3, rfl⟩ := h
  obtain ⟨n1, rfl, _⟩ := has_int h1
  obtain ⟨n2, rfl, _⟩ := has_int h2
  obtain ⟨n3, rfl⟩ := has_str h3
  exact ⟨⟨n1, n2, n3⟩, rfl⟩

theorem has_chgs {f : Nat} {y : D} (h : HasT Tryz.prog (f + 3) 23 y) : ∃ l : List Chg, y = .sl (l.map Chg.d) := by
  unfold HasT at h
  rw [Tryz.underlying23] at h
  obtain ⟨l, rfl, h1, hl⟩ := h
  obtain ⟨ss, rfl⟩ := has_list (fun y hy => has_chg (f := f) hy) l hl
  exact ⟨ss, rfl⟩

theorem has_town {f : Nat} {y : D} (h : HasT Tryz.prog (f + 4) 25 y) : ∃ t : Town, y = t.d := by
  unfold HasT at h
  rw [Tryz.underlying25] at h
  obtain ⟨l, rfl, h⟩ := h
  simp only [HasFs] at h
  obtain ⟨y1, r1, rfl, h1, y2, r2, rfl, h2, rfl⟩ := h
  obtain ⟨a, rfl⟩ := has_strs h1
  obtain ⟨b, rfl⟩ := has_chgs h2
  exact ⟨⟨a, b⟩, rfl⟩
end Go.Aw
end

section
set_option maxRecDepth 100000
namespace Go.Aw
open Go Go.Proofs.Tryz

abbrev post1 (r : Nat) : Ex → Env → Heap → Prop := FnPost Tt [.tmp r] 0 fun r H' => H' = [] ∧ r = .d (.bool true)

end Go.Aw
end

section
set_option maxRecDepth 100000
namespace Go.Aw
open Go Go.Proofs.Tryz

theorem c41 (l : List Int) (hl : l.length ≤ 100000) (n : Int) : PC prog 41 [.d (.sl (l.map (.int .i64))), .d (.int .i64 n)] (.d (.bool (hasI n l))) := by
  refine PC.run (fun _ => false) tt_ok (fn := f41) (rs := [.tmp 4]) rfl rfl rfl rfl rfl rfl rfl ?_
  simp only [go_sem]
  refine ALoop.by (S := Nat) (fun i => [(5, .d (.int .i64 i)), (1, .d (.int .i64 n)), (0, .d (.sl (l.map (.int .i64))))]) (fun _ => []) (fun i => l.length - i) (fun i => i ≤ l.length ∧ hasI n (l.take i) = false) 0 (Nat.zero_le _) (fun _ h => nomatch h) ⟨Nat.zero_le _, rfl⟩ (ForgetTo.same' (Nat.zero_le _) ⟨rfl, rfl, rfl, trivial⟩ rfl) ?_
  rintro i ⟨hi, hx⟩ hn
  refine AWP.run (fun _ => false) tt_ok (fun _ h => nomatch h) (Nat.zero_le _) rfl ?_
  simp only [go_sem, List.length_map]
  refine Br_split (fun hd => ?_) (fun hd => ?_) <;> simp only [go_sem, hd]
  · have hlt : i < l.length := by simpa using hd
    have hix : idx? (l.map (D.int .i64)) (i : Int) = some (.int .i64 l[i]) := by simp [idx?, List.getElem?_eq_getElem hlt]
    have hnx : IntKind.i64.wrap ((i : Int) + 1) = ((i + 1 : Nat) : Int) := by rw [w64 (by omega) (by omega)]; omega
    have hit : l[i] = n → hasI n l = true := fun e => by rw [hasI, List.any_eq_true]; exact ⟨n, e ▸ List.getElem_mem hlt, by simp⟩
    have nxt : l[i] ≠ n → hasI n (l.take (i + 1)) = false := fun e => by
      rw [List.take_succ_eq_append_getElem hlt, hasI, List.any_append]
      rw [hasI] at hx
      rw [hx]; simp; first | exact e | exact fun h => e h.symm
    generalize l[i] = x at *
    simp only [go_sem, hix]
    refine Br_split (fun he => ?_) (fun he => ?_) <;> simp only [go_sem, he]
    · rw [hit (by simpa using he)]
    · simp only [go_sem, hnx]
      exact ⟨i + 1, ⟨hlt, nxt (by simpa using he)⟩, by omega, ForgetTo.same' (Nat.zero_le _) ⟨rfl, rfl, rfl, trivial⟩ rfl⟩
  · have hie : i = l.length := by simp only [decide_eq_false_iff_not] at hd; omega
    subst hie
    rw [List.take_length] at hx
    rw [hx]

theorem c16r (t : Town) (h1 : t.first.length ≤ 1000) (h2 : t.ch.length ≤ 1000) : PCr prog 16 [.d t.d] [townB t, .cells [.d (.sl (t.first.map .str)), .ref 2 t.ch.length 0 t.ch.length], .arr 3 false (t.ch.map Chg.d)] (.agg [.d (.sl (t.first.map .str)), .ref 2 t.ch.length 0 t.ch.length]) := by
  refine PCr.of_body tt_ok (fn := f16) (rs := [.cell 2 25]) 3 rfl rfl rfl rfl rfl rfl ?_
  refine AWP.run (fun k => k == 10) tt_ok (fun _ h => nomatch h) (Nat.zero_le _) rfl ?_
  have s1 := sized_strs t.first
  have s2 := sized_chg t.ch
  have l1 : t.first.length ≤ 4294967296 := by omega
  have l2 : t.ch.length ≤ 4294967296 := by omega
  simp only [go_sem, Town.d]
  refine ADrw.treeG (fun k => k == 10) tt_ok (by kernel_rfl) (fun k => if k = 2 ∨ k = 6 then some .L else if k = 7 ∨ k = 9 then some .W else some .S) (.ones [0, 1, 2, 3, 4, 5, 6, 7, 8, 9] .done) (Nat.zero_le _) (fun _ h => nomatch h) rfl rfl (by kernel_rfl) ?_
  simp only [go_sem, s1, s2, l1, l2, List.length_map, show sized 1 [] = true from rfl, show sized 3 [] = true from rfl, townB]

theorem c40 (t : Town) (h1 : t.first.length ≤ 1000) (h2 : t.ch.length ≤ 1000) (c : Chg) : PC prog 40 [.d t.d, .d c.d] (.d (withT t c).d) := by
  refine PC.run (fun _ => false) tt_ok (fn := f40) (rs := [.cell 4 25]) rfl rfl rfl rfl rfl rfl rfl ?_
  have c16a := c16r t h1 h2
  have s2 := sized_chg t.ch
  have s3 : sized 3 [c.d] = true := rfl
  have b1 : t.ch.length + 1 ≤ 4294967296 := by omega
  have hcd : c.d = .agg [.int .i64 c.at', .int .i64 c.st, .str c.name] := rfl
  rw [hcd] at s3
  simp only [Town.d] at c16a
  simp only [go_sem, Town.d, hcd]
  refine c16a.call rfl rfl rfl ?_
  have hln : (t.ch.map Chg.d ++ [D.agg [.int .i64 c.at', .int .i64 c.st, .str c.name]]).length = t.ch.length + 1 := by simp
  have htk : List.take (t.ch.length + 1) (t.ch.map Chg.d ++ [D.agg [.int .i64 c.at', .int .i64 c.st, .str c.name]]) = t.ch.map Chg.d ++ [D.agg [.int .i64 c.at', .int .i64 c.st, .str c.name]] := List.take_of_length_le (by rw [hln]; exact Nat.le_refl _)
  simp only [go_sem, townB, s2, s3, List.length_map, List.length_cons, List.length_nil, b1]
  simp only [go_sem, hln, htk]
  simp only [withT, Town.d, List.map_append, List.map_cons, List.map_nil, hcd]

theorem c37 (t : Town) (h1 : t.first.length ≤ 1000) (l : List Ord) (hl : l.length ≤ 1000) (hs : ∀ o ∈ l, o.says.size ≤ 1000) : PC prog 37 [.d t.d, .d (.sl (l.map Ord.d))] (.d (.int .i64 (mustB t l).2.2)) := by
  refine PC.run (fun _ => false) tt_ok (fn := f37) (rs := [.tmp 4]) rfl rfl rfl rfl rfl rfl rfl ?_
  simp only [go_sem, Town.d, List.length_map]
  rw [mustB]
  refine Br_split (fun hc => ?_) (fun hc => ?_) <;> simp only [go_sem, hc]
  · rw [if_pos (by simp only [decide_eq_true_eq] at hc; omega)]
  · rw [if_neg (by simp only [decide_eq_false_iff_not] at hc; omega)]
    refine ALoop.by (S := Nat) (fun i => [(5, .d (.int .i64 i)), (2, .ptr 0 0), (1, .d (.sl (l.map Ord.d)))]) (fun _ => [townB t]) (fun i => l.length - i) (fun i => i ≤ l.length ∧ (l.take i).any (fun o => !ordOk t.first.length o) = false) 0 (Nat.zero_le _) (fun _ h => nomatch h) ⟨Nat.zero_le _, rfl⟩ (ForgetTo.same' (Nat.zero_le _) ⟨rfl, rfl, rfl, trivial⟩ rfl) ?_
    rintro i ⟨hi, hx⟩ hn
    refine AWP.run (fun _ => false) tt_ok (fun _ h => nomatch h) (Nat.zero_le _) rfl ?_
    simp only [go_sem, townB, List.length_map]
    refine Br_split (fun hd => ?_) (fun hd => ?_) <;> simp only [go_sem, hd]
    · have hlt : i < l.length := by simpa using hd
      have hix : idx? (l.map Ord.d) (i : Int) = some l[i].d := by simp [idx?, List.getElem?_eq_getElem hlt]
      have hcd : l[i].d = .agg [.int .i64 l[i].st, .int .i64 l[i].laid, .str l[i].says] := rfl
      rw [hcd] at hix
      have hnx : IntKind.i64.wrap ((i : Int) + 1) = ((i + 1 : Nat) : Int) := by rw [w64 (by omega) (by omega)]; omega
      have bad : ordOk t.first.length l[i] = false → l.any (fun o => !ordOk t.first.length o) = true := fun e => List.any_eq_true.2 ⟨_, List.getElem_mem hlt, by rw [e]; rfl⟩
      have fin : ordOk t.first.length l[i] = true → (l.take (i + 1)).any (fun o => !ordOk t.first.length o) = false := fun e => by rw [List.take_succ_eq_append_getElem hlt, List.any_append, hx]; simp [e]
      have hos := hs _ (List.getElem_mem hlt)
      have hok : ordOk t.first.length l[i] = (decide (0 ≤ l[i].st ∧ l[i].st < t.first.length) && decide (0 ≤ l[i].laid ∧ l[i].laid ≤ 1000) && nm l[i].says) := rfl
      rw [hok] at bad fin
      clear hok
      generalize l[i].st = x1 at *
      generalize l[i].laid = x2 at *
      generalize l[i].says = x3 at *
      have w1 : IntKind.i64.wrap ((t.first.length : Int) - 1) = (t.first.length : Int) - 1 := w64 (by omega) (by omega)
      have c26a := c26 x1 0 ((t.first.length : Int) - 1)
      have e1 : decide (0 ≤ x1 ∧ x1 ≤ (t.first.length : Int) - 1) = decide (0 ≤ x1 ∧ x1 < (t.first.length : Int)) := by rw [Bool.eq_iff_iff, decide_eq_true_eq, decide_eq_true_eq]; omega
      rw [e1] at c26a
      have c26b := c26 x2 0 1000
      have c28a := c28 x3 hos
      refine ADrw.treeG (fun _ => false) tt_ok (by kernel_rfl) (fun k => if k = 6 then some .L else some .S) (.ones [0, 1, 2, 3, 4, 5, 6, 7, 8, 9, 10, 11, 12, 13, 14, 15, 16, 17, 18, 19, 20, 21, 22, 23, 24, 25, 26, 27, 28] .done) (Nat.zero_le _) (fun _ h => nomatch h) rfl rfl (by kernel_rfl) ?_
      simp only [go_sem, hix, List.length_map, w1]
      refine c26a.callS rfl rfl rfl rfl rfl rfl ?_
      cases d1 : decide (0 ≤ x1 ∧ x1 < (t.first.length : Int)) with
      | false =>
        rw [if_pos (bad (by rw [d1]; rfl))]
        simp only [go_sem]
      | true =>
        simp only [go_sem, hix]
        refine c26b.callS rfl rfl rfl rfl rfl rfl ?_
        cases d2 : decide (0 ≤ x2 ∧ x2 ≤ 1000) with
        | false =>
          rw [if_pos (bad (by rw [d1, d2]; rfl))]
          simp only [go_sem]
        | true =>
          simp only [go_sem, hix]
          refine c28a.callS rfl rfl rfl rfl rfl rfl ?_
          cases d3 : nm x3 with
          | false =>
            rw [if_pos (bad (by rw [d1, d2, d3]; rfl))]
            simp only [go_sem]
          | true =>
            simp only [go_sem, hnx]
            exact ⟨i + 1, ⟨hlt, fin (by rw [d1, d2, d3]; rfl)⟩, by omega, ForgetTo.same' (Nat.zero_le _) ⟨rfl, rfl, rfl, trivial⟩ rfl⟩
    · have hie : i = l.length := by simp only [decide_eq_false_iff_not] at hd; omega
      subst hie
      rw [List.take_length] at hx
      rw [if_neg (by rw [hx]; simp)]
end Go.Aw
end

section
set_option maxRecDepth 100000
namespace Go.Aw
open Go Go.Proofs.Tryz

theorem c38 (t : Town) (h1 : t.first.length ≤ 1000) (h2 : t.ch.length ≤ 1000) (l : List Ord) (hl : l.length ≤ 1000) (hs : ∀ o ∈ l, 0 ≤ o.st ∧ o.st < t.first.length) :
    PC prog 38 [.d t.d, .d (.sl (l.map Ord.d))] (.tup [.d (.sl ((mustL t l).map .str)), .d (.sl ((natI (agnL t l)).map (.int .i64)))]) := by
  refine PC.run (fun k => k == 9 || k == 10) tt_ok (fn := f38) (rs := [.tmp 4, .tmp 5]) rfl rfl rfl rfl rfl rfl rfl ?_
  simp only [go_sem, Town.d]
  refine ALoop.by (S := Nat) (fun i => [(8, .d (.int .i64 i)), (7, .ref 2 (agnTo t l i).length 0 (agnTo t l i).length), (6, .ref 1 i 0 i), (2, .ptr 0 0), (1, .d (.sl (l.map Ord.d)))]) (fun i => [townB t, .arr 1 false (((mustL t l).take i).map .str), .arr 1 false ((agnTo t l i).map (.int .i64))]) (fun i => l.length - i) (fun i => i ≤ l.length) 0 (Nat.zero_le _) (fun _ h => nomatch h) (Nat.zero_le _) (ForgetTo.same' (Nat.zero_le _) ⟨rfl, rfl, rfl, rfl, rfl, trivial⟩ rfl) ?_
  rintro i hi hn
  refine AWP.run (fun _ => false) tt_ok (fun _ h => nomatch h) (Nat.zero_le _) rfl ?_
  have hml : (mustL t l).length = l.length := by simp [mustL]
  have hal := agnTo_len t l i
  simp only [go_sem, townB, List.length_map]
  refine Br_split (fun hd => ?_) (fun hd => ?_) <;> simp only [go_sem, hd]
  · have hlt : i < l.length := by simpa using hd
    have hnx : IntKind.i64.wrap ((i : Int) + 1) = ((i + 1 : Nat) : Int) := by rw [w64 (by omega) (by omega)]; omega
    have hix : idx? (l.map Ord.d) (i : Int) = some l[i].d := by simp [idx?, List.getElem?_eq_getElem hlt]
    have hcd : l[i].d = .agg [.int .i64 l[i].st, .int .i64 l[i].laid, .str l[i].says] := rfl
    rw [hcd] at hix
    have hst := hs _ (List.getElem_mem hlt)
    have c27a := c27 t h2 (s := l[i].st.toNat) (by omega) l[i].laid
    rw [show ((l[i].st.toNat : Nat) : Int) = l[i].st by omega] at c27a
    have hmt : (mustL t l).take (i + 1) = (mustL t l).take i ++ [calledT t l[i].st.toNat l[i].laid] := by
      rw [List.take_succ_eq_append_getElem (by omega)]; simp [mustL]
    have hlen : ((mustL t l).take i).length = i := by rw [List.length_take]; omega
    have hag := agnTo_succ t l i
    rw [getDG hlt] at hag
    have fin : ∀ A E, A = agnTo t l (i + 1) → EWe E [(8, .d (.int .i64 ((i + 1 : Nat) : Int))), (7, .ref 2 A.length 0 A.length), (6, .ref 1 (i + 1) 0 (i + 1)), (2, .ptr 0 0), (1, .d (.sl (l.map Ord.d)))] →
        ∃ s', s' ≤ l.length ∧ l.length - s' < l.length - i ∧ ForgetTo 0 E [.cells [.d (.sl (t.first.map .str)), .d (.sl (t.ch.map Chg.d))], .arr 1 false (((mustL t l).take (i + 1)).map .str), .arr 1 false (A.map (.int .i64))] [(8, .d (.int .i64 s')), (7, .ref 2 (agnTo t l s').length 0 (agnTo t l s').length), (6, .ref 1 s' 0 s'), (2, .ptr 0 0), (1, .d (.sl (l.map Ord.d)))]
          [.cells [.d (.sl (t.first.map .str)), .d (.sl (t.ch.map Chg.d))], .arr 1 false (((mustL t l).take s').map .str), .arr 1 false ((agnTo t l s').map (.int .i64))] := fun A E hA hE => by
      subst hA
      exact ⟨i + 1, hlt, by omega, ForgetTo.same' (Nat.zero_le _) hE rfl⟩
    rw [hag, hmt, List.map_append] at fin
    clear hag hmt hcd
    generalize agnTo t l i = A at *
    generalize (mustL t l).take i = M at *
    generalize calledT t l[i].st.toNat l[i].laid = nmx at *
    generalize l[i].st = x1 at *
    generalize l[i].laid = x2 at *
    generalize l[i].says = x3 at *
    have sx : sized 1 [D.str nmx] = true := rfl
    have bq : i + 1 ≤ 4294967296 := by omega
    have bA : A.length + 1 ≤ 4294967296 := by omega
    have bA2 : decide (A.length ≤ 4294967295) = true := decide_eq_true (by omega)
    refine ADrw.treeG (fun _ => false) tt_ok (by kernel_rfl) (fun k => if k = 1 then some .L else if k = 14 then some .W else some .S) (.ones [0, 1, 2, 3, 4, 5, 6, 7, 8, 9, 10, 11, 12, 13, 14, 15] .done) (Nat.zero_le _) (fun _ h => nomatch h) rfl rfl (by kernel_rfl) ?_
    simp only [go_sem, hix]
    simp only [Town.d] at c27a
    refine c27a.callS rfl rfl rfl rfl rfl rfl ?_
    simp only [go_sem, sx, hlen, List.length_map, bq]
    have c1 : (0 : Int) ≤ (i : Int) ∧ (i : Int) < ((i + 1 : Nat) : Int) := by omega
    have hg : (M.map D.str ++ [D.str nmx])[i]? = some (.str nmx) := by rw [List.getElem?_append_right (by simp [hlen])]; simp [hlen]
    have hln2 : (M.map D.str ++ [D.str nmx]).length = i + 1 := by simp [hlen]
    refine ADrw.treeG (fun _ => false) tt_ok (by kernel_rfl) (fun k => if k = 2 ∨ k = 3 then some .L else some .S) (.ones [0, 1, 2, 3, 4, 5, 6, 7, 8, 9] .done) (Nat.zero_le _) (fun _ h => nomatch h) rfl rfl (by kernel_rfl) ?_
    simp only [go_sem, hln2, c1, Int.toNat_natCast, hg, hix, beq_str]
    refine Br_split (fun he => ?_) (fun he => ?_) <;> simp only [go_sem, he]
    · have hne : ¬ nmx = x3 := by simpa using he
      rw [if_neg hne] at fin
      have f2 := fun E => fin _ E rfl
      simp only [List.map_append, List.map_cons, List.map_nil, List.length_append, List.length_cons, List.length_nil, Nat.zero_add] at f2
      have si : sized 1 [D.int .i64 (i : Int)] = true := rfl
      simp only [go_sem, si, List.length_map, bA, bA2, hnx]
      refine f2 _ ?_
      exact ⟨rfl, rfl, rfl, rfl, rfl, trivial⟩
    · have hne : nmx = x3 := by simpa using he
      rw [if_pos hne, List.append_nil] at fin
      simp only [go_sem, hnx]
      refine fin _ _ rfl ?_
      exact ⟨rfl, rfl, rfl, rfl, rfl, trivial⟩
  · have hie : i = l.length := by simp only [decide_eq_false_iff_not] at hd; omega
    subst hie
    have e1 : (mustL t l).take l.length = mustL t l := List.take_of_length_le (by omega)
    have e2 : agnTo t l l.length = natI (agnL t l) := rfl
    rw [e1, e2]
    have h1 : List.take l.length ((mustL t l).map D.str) = (mustL t l).map D.str := List.take_of_length_le (by simp [hml])
    have h2 : List.take (natI (agnL t l)).length ((natI (agnL t l)).map (D.int .i64)) = (natI (agnL t l)).map (D.int .i64) := List.take_of_length_le (by simp)
    simp only [go_sem, List.length_map, hml, h1, h2]
end Go.Aw
end

section
set_option maxRecDepth 100000
namespace Go.Aw
open Go Go.Proofs.Tryz

def chgK (c : Chg) : Blk := .cells [.d (.int .i64 c.at'), .d (.int .i64 c.st), .d (.str c.name)]

theorem sized_ord (l : List Ord) : sized 3 (l.map Ord.d) = true := by simp [sized, Ord.d, dcells]

theorem c6_a (t : Town) (l : List Ord) (c : Chg)
    (hrest : l.length ≤ 20 → longB t [c.name] = false → (∀ o ∈ l, o.says.size ≤ 40) → AWP prog f6.ntmps 0 none (restC 3 (bodyOf f6)) [(5, .ptr 1 0), (3, .ptr 0 0), (1, .d (.sl (l.map Ord.d)))] [townB t, chgK c] (post1 6)) :
    PC prog 6 [.d t.d, .d (.sl (l.map Ord.d)), .d c.d] (.d (.bool true)) := by
  refine PC.of_body tt_ok (fn := f6) (c := bodyOf f6) (rs := [.tmp 6]) rfl rfl rfl rfl rfl rfl ?_
  have hcd : c.d = .agg [.int .i64 c.at', .int .i64 c.st, .str c.name] := rfl
  have c14a := c14 t [c.name]
  have hb : decide ((20 : Int) < (l.length : Int)) = decide (20 < l.length) := by rw [Bool.eq_iff_iff, decide_eq_true_eq, decide_eq_true_eq]; omega
  simp only [Town.d] at c14a
  cases d1 : decide (20 < l.length) with
  | true =>
    refine AWP.runS (fun _ => false) tt_ok (fun _ h => nomatch h) (Nat.zero_le _) rfl ?_
    simp only [go_sem, Town.d, hcd, List.length_map, hb, d1]
    refine c15.call rfl rfl rfl ?_
    simp only [go_sem]
  | false =>
  have h20 : l.length ≤ 20 := by simp only [decide_eq_false_iff_not] at d1; omega
  cases d2 : longB t [c.name] with
  | true =>
    rw [d2] at c14a
    refine AWP.runS (fun _ => false) tt_ok (fun _ h => nomatch h) (Nat.zero_le _) rfl ?_
    simp only [go_sem, Town.d, hcd, List.length_map, hb, d1]
    refine c14a.call rfl rfl rfl ?_
    simp only [go_sem]
    refine c15.call rfl rfl rfl ?_
    simp only [go_sem]
  | false =>
  rw [d2] at c14a
  by_cases hall : ∀ o ∈ l, o.says.size ≤ 40
  · refine AWP.stepN 3 _ _ (fun _ => false) tt_ok (fun _ h => nomatch h) (Nat.zero_le _) rfl ?_ (hrest h20 d2 hall)
    clear hrest
    simp only [go_sem, Town.d, hcd, List.length_map, hb, d1]
    refine c14a.call rfl rfl rfl ?_
    simp only [go_sem]
    refine ALoop.by (S := Nat) (fun i => [(7, .d (.int .i64 i)), (5, .ptr 1 0), (3, .ptr 0 0), (1, .d (.sl (l.map Ord.d)))]) (fun _ => [townB t, chgK c]) (fun i => l.length - i) (fun i => i ≤ l.length) 0 (Nat.zero_le _) (fun _ h => nomatch h) (Nat.zero_le _) (ForgetTo.same' (Nat.zero_le _) ⟨rfl, rfl, rfl, rfl, trivial⟩ rfl) ?_
    rintro i hi hn
    refine AWP.run (fun _ => false) tt_ok (fun _ h => nomatch h) (Nat.zero_le _) rfl ?_
    simp only [go_sem, List.length_map]
    refine Br_split (fun hd => ?_) (fun hd => ?_) <;> simp only [go_sem, hd]
    · have hlt : i < l.length := by simpa using hd
      have hix : idx? (l.map Ord.d) (i : Int) = some l[i].d := by simp [idx?, List.getElem?_eq_getElem hlt]
      have hod : l[i].d = .agg [.int .i64 l[i].st, .int .i64 l[i].laid, .str l[i].says] := rfl
      rw [hod] at hix
      have hnx : IntKind.i64.wrap ((i : Int) + 1) = ((i + 1 : Nat) : Int) := by rw [w64 (by omega) (by omega)]; omega
      have h40 := hall _ (List.getElem_mem hlt)
      generalize l[i].st = x1 at *
      generalize l[i].laid = x2 at *
      generalize l[i].says = x3 at *
      have d3 : decide ((40 : Int) < (x3.size : Int)) = false := decide_eq_false (by omega)
      simp only [go_sem, hix, d3, hnx]
      exact ⟨i + 1, hlt, by omega, ForgetTo.same' (Nat.zero_le _) ⟨rfl, rfl, rfl, rfl, trivial⟩ rfl⟩
    · exact ForgetTo.same' (Nat.zero_le _) ⟨rfl, rfl, rfl, trivial⟩ rfl
  · clear hrest
    refine AWP.runS (fun _ => false) tt_ok (fun _ h => nomatch h) (Nat.zero_le _) rfl ?_
    simp only [go_sem, Town.d, hcd, List.length_map, hb, d1]
    refine c14a.call rfl rfl rfl ?_
    simp only [go_sem]
    refine ALoop.by (S := Nat) (fun i => [(7, .d (.int .i64 i)), (5, .ptr 1 0), (3, .ptr 0 0), (1, .d (.sl (l.map Ord.d)))]) (fun _ => [townB t, chgK c]) (fun i => l.length - i) (fun i => i ≤ l.length ∧ ∀ o ∈ l.take i, o.says.size ≤ 40) 0 (Nat.zero_le _) (fun _ h => nomatch h) ⟨Nat.zero_le _, fun o ho => by simp at ho⟩ (ForgetTo.same' (Nat.zero_le _) ⟨rfl, rfl, rfl, rfl, trivial⟩ rfl) ?_
    rintro i ⟨hi, hx⟩ hn
    refine AWP.run (fun _ => false) tt_ok (fun _ h => nomatch h) (Nat.zero_le _) rfl ?_
    simp only [go_sem, List.length_map]
    refine Br_split (fun hd => ?_) (fun hd => ?_) <;> simp only [go_sem, hd]
    · have hlt : i < l.length := by simpa using hd
      have hix : idx? (l.map Ord.d) (i : Int) = some l[i].d := by simp [idx?, List.getElem?_eq_getElem hlt]
      have hod : l[i].d = .agg [.int .i64 l[i].st, .int .i64 l[i].laid, .str l[i].says] := rfl
      rw [hod] at hix
      have hnx : IntKind.i64.wrap ((i : Int) + 1) = ((i + 1 : Nat) : Int) := by rw [w64 (by omega) (by omega)]; omega
      have nxt : l[i].says.size ≤ 40 → ∀ o ∈ l.take (i + 1), o.says.size ≤ 40 := fun h o ho => by
        rw [List.take_succ_eq_append_getElem hlt, List.mem_append, List.mem_singleton] at ho
        rcases ho with ho | rfl
        · exact hx o ho
        · exact h
      generalize l[i].st = x1 at *
      generalize l[i].laid = x2 at *
      generalize l[i].says = x3 at *
      simp only [go_sem, hix]
      refine Br_split (fun he => ?_) (fun he => ?_) <;> simp only [go_sem, he]
      · refine c15.call rfl rfl rfl ?_
        simp only [go_sem]
      · simp only [go_sem, hnx]
        exact ⟨i + 1, ⟨hlt, nxt (by simp only [decide_eq_false_iff_not] at he; omega)⟩, by omega, ForgetTo.same' (Nat.zero_le _) ⟨rfl, rfl, rfl, rfl, trivial⟩ rfl⟩
    · have hie : i = l.length := by simp only [decide_eq_false_iff_not] at hd; omega
      subst hie
      rw [List.take_length] at hx
      exact absurd hx hall

def mV (t : Town) (l : List Ord) : V := if openE t ≠ 0 then .slx (some true) [] else .d (.sl ((mustP t l).1.map .str))
def aV (t : Town) (l : List Ord) : V := if openE t ≠ 0 then .slx (some true) [] else .d (.sl ((mustP t l).2.1.map (.int .i64)))
def e6b (t : Town) (l : List Ord) (c : Chg) : Env := [(14, .d (.int .i64 (changedP t l c).2)), (13, chdV (changedP t l c)), (12, .d (.int .i64 (mustP t l).2.2)), (11, aV t l), (10, mV t l), (5, .ptr 1 0), (3, .ptr 0 0), (1, .d (.sl (l.map Ord.d)))]
def h6b (t : Town) (c : Chg) : Heap := [townB t, chgK c, townB t]

theorem c6_b (t : Town) (l : List Ord) (c : Chg) (h20 : l.length ≤ 20) (hlong : longB t [c.name] = false) (hall : ∀ o ∈ l, o.says.size ≤ 40)
    (hrest : AWP prog f6.ntmps 0 none (restC 5 (restC 3 (bodyOf f6))) (e6b t l c) (h6b t c) (post1 6)) :
    AWP prog f6.ntmps 0 none (restC 3 (bodyOf f6)) [(5, .ptr 1 0), (3, .ptr 0 0), (1, .d (.sl (l.map Ord.d)))] [townB t, chgK c] (post1 6) := by
  obtain ⟨hs, l1, l2, _, m1, m2, m3⟩ := long_fits hlong
  have hcd : c.d = .agg [.int .i64 c.at', .int .i64 c.st, .str c.name] := rfl
  refine AWP.stepN 5 _ _ (fun _ => false) tt_ok (fun _ h => nomatch h) (Nat.zero_le _) rfl ?_ hrest
  clear hrest
  have c16a := c16 t (by omega) (by omega)
  have c20a := c20 t (by omega) (by omega)
  have hls : ∀ o ∈ l, o.says.size ≤ 1000 := fun o ho => by have := hall o ho; omega
  have hcs : c.name.size ≤ 1000 := by have := m3 c.name (by simp); omega
  have c35a := c35 t hs l (by omega) hls
  have c36a := c36 t hs l (by omega) hls c hcs
  simp only [Town.d, hcd] at c16a c20a c35a c36a
  have s1 := sized_ord l
  have b1 : l.length ≤ 4294967296 := by omega
  have eM : (if openE t ≠ 0 then V.slx (some true) [] else .d (.sl ((mustP t l).1.map .str))) = mV t l := rfl
  have eA : (if openE t ≠ 0 then V.slx (some true) [] else .d (.sl ((mustP t l).2.1.map (.int .i64)))) = aV t l := rfl
  rw [eM, eA] at c35a
  have hpM : ∀ n H, pubV n H (mV t l) = some (mV t l) := fun n H => by rw [mV]; split <;> rfl
  have hpA : ∀ n H, pubV n H (aV t l) = some (aV t l) := fun n H => by rw [aV]; split <;> rfl
  have hvM : VB 0 (mV t l) = true := by rw [mV]; split <;> rfl
  have hvA : VB 0 (aV t l) = true := by rw [aV]; split <;> rfl
  have hvC : VB 0 (chdV (changedP t l c)) = true := by rw [chdV]; split <;> rfl
  have hpC : ∀ n H, pubV n H (chdV (changedP t l c)) = some (chdV (changedP t l c)) := fun n H => by rw [chdV]; split <;> rfl
  simp only [e6b, h6b]
  generalize mustP t l = M at *
  generalize mV t l = vM at *
  generalize aV t l = vA at *
  generalize changedP t l c = C at *
  generalize chdV C = vC at *
  simp only [townB, chgK, hcd]
  simp only [go_sem]
  refine c16a.call rfl rfl rfl ?_
  simp only [go_sem, s1, List.length_map, b1]
  refine c35a.call rfl rfl (by simp [VB, VBs, hvM, hvA]) ?_
  simp only [go_sem]
  refine c36a.call rfl rfl (by simp [VB, VBs, hvC]) ?_
  simp only [go_sem]
  refine c20a.call rfl rfl rfl ?_
  simp only [go_sem]
  refine ALoop.by (S := Nat) (fun i => [(15, .d (.int .i64 i)), (14, .d (.int .i64 C.2)), (13, vC), (12, .d (.int .i64 M.2.2)), (11, vA), (10, vM), (9, .d (.sl (l.map Ord.d))), (5, .ptr 1 0), (3, .ptr 0 0), (1, .d (.sl (l.map Ord.d)))]) (fun _ => h6b t c) (fun i => l.length - i) (fun i => i ≤ l.length) 0 (Nat.zero_le _) (fun _ h => nomatch h) (Nat.zero_le _) (ForgetTo.same' (Nat.zero_le _) ⟨rfl, rfl, rfl, rfl, rfl, rfl, rfl, rfl, rfl, rfl, trivial⟩ rfl) ?_
  rintro i hi hn
  refine AWP.run (fun _ => false) tt_ok (fun _ h => nomatch h) (Nat.zero_le _) rfl ?_
  simp only [go_sem, List.length_map]
  refine Br_split (fun hd => ?_) (fun hd => ?_) <;> simp only [go_sem, hd]
  · have hlt : i < l.length := by simpa using hd
    have hix : idx? (l.map Ord.d) (i : Int) = some l[i].d := by simp [idx?, List.getElem?_eq_getElem hlt]
    have hod : l[i].d = .agg [.int .i64 l[i].st, .int .i64 l[i].laid, .str l[i].says] := rfl
    rw [hod] at hix
    have hnx : IntKind.i64.wrap ((i : Int) + 1) = ((i + 1 : Nat) : Int) := by rw [w64 (by omega) (by omega)]; omega
    generalize l[i].st = x1 at *
    generalize l[i].laid = x2 at *
    generalize l[i].says = x3 at *
    refine ADrw.treeG (fun _ => false) tt_ok (by kernel_rfl) (fun k => some .S) (.ones [0, 1, 2, 3, 4, 5, 6, 7, 8] .done) (Nat.zero_le _) (fun _ h => nomatch h) rfl rfl (by kernel_rfl) ?_
    simp only [go_sem, hix, beq_self_dec, beq_ba, hnx]
    exact ⟨i + 1, hlt, by omega, ForgetTo.same' (Nat.zero_le _) ⟨rfl, rfl, rfl, rfl, rfl, rfl, rfl, rfl, rfl, rfl, trivial⟩ rfl⟩
  · exact ForgetTo.same' (Nat.zero_le _) ⟨rfl, rfl, rfl, rfl, rfl, rfl, rfl, rfl, trivial⟩ rfl
end Go.Aw
end

section
set_option maxRecDepth 100000
namespace Go.Aw
open Go Go.Proofs.Tryz

theorem keepI_take (w l : List Int) {i : Nat} (h : i < l.length) : keepI w (l.take (i + 1)) = keepI w (l.take i) ++ if hasI l[i] w = true then [] else [l[i]] := by
  rw [List.take_succ_eq_append_getElem h, keepI, keepI, List.filter_append]
  congr 1
  rw [List.filter_cons, List.filter_nil]
  cases hasI l[i] w <;> rfl

theorem agnL_len (t : Town) (l : List Ord) : (natI (agnL t l)).length ≤ l.length := by
  have := agnTo_len t l l.length
  exact this

theorem c6_c (t : Town) (l : List Ord) (c : Chg) (h20 : l.length ≤ 20) (hlong : longB t [c.name] = false) (hall : ∀ o ∈ l, o.says.size ≤ 40) :
    AWP prog f6.ntmps 0 none (restC 5 (restC 3 (bodyOf f6))) (e6b t l c) (h6b t c) (post1 6) := by
  obtain ⟨hs, l1, l2, _, m1, m2, m3⟩ := long_fits hlong
  have hcd : c.d = .agg [.int .i64 c.at', .int .i64 c.st, .str c.name] := rfl
  have hls : ∀ o ∈ l, o.says.size ≤ 1000 := fun o ho => by have := hall o ho; omega
  have hcs : c.name.size ≤ 1000 := by have := m3 c.name (by simp); omega
  have c25a := c25 t (by omega) (by omega) hs.fn hs.cn
  have c37a := c37 t (by omega) l (by omega) hls
  have c39a := c39 c t.first.length (by omega) hcs
  have c40a := c40 t (by omega) (by omega) c
  have hwf : (withT t c).first = t.first := rfl
  have hwc : (withT t c).ch.length = t.ch.length + 1 := by simp [withT]
  have c25b := c25 (withT t c) (by rw [hwf]; omega) (by rw [hwc]; omega) hs.fn (fun d hd => by
    rcases List.mem_append.1 hd with h | h
    · exact hs.cn d h
    · rw [List.mem_singleton.1 h]; exact hcs)
  have hd0 : ∀ {α : Type} [DecidableEq α] (l : α), decide (l = l) = true := fun l => by simp
  have hC : changedP t l c = if openE t ≠ 0 then ([], openE t) else if (mustB t l).2.2 ≠ 0 then ([], (mustB t l).2.2) else if t.ch.length ≥ 8 then ([], 8) else if chgOk t.first.length c = false then ([], 2)
    else if openE (withT t c) ≠ 0 then ([], openE (withT t c)) else (keepI (natI (agnL t l)) (natI (agnL (withT t c) l)), 0) := rfl
  have hM : mustP t l = if openE t ≠ 0 then ([], [], openE t) else mustB t l := rfl
  have hmV : mV t l = if openE t ≠ 0 then .slx (some true) [] else .d (.sl ((mustP t l).1.map .str)) := rfl
  have haV : aV t l = if openE t ≠ 0 then .slx (some true) [] else .d (.sl ((mustP t l).2.1.map (.int .i64))) := rfl
  have hw0 : IntKind.i64.wrap (0 + 0) = 0 := rfl
  have hch : ∀ p : List Int × Int, p.2 ≠ 0 → chdV p = .slx (some true) [] := fun p h => by rw [chdV, if_pos h]
  simp only [Town.d, hcd] at c25a c37a c39a
  by_cases ho : openE t = 0
  · rw [if_neg (by simpa using ho)] at hM hmV haV hC
    rw [hM] at hmV haV
    rw [ho] at c25a
    by_cases hb : (mustB t l).2.2 = 0
    · obtain ⟨hl8, hok, hmb⟩ := mustB_z hb
      have hst : ∀ o ∈ l, 0 ≤ o.st ∧ o.st < t.first.length := fun o ho2 => by
        have := List.any_eq_false.1 hok o ho2
        simp only [Bool.not_eq_true, Bool.not_eq_false', ordOk, Bool.and_eq_true, decide_eq_true_eq] at this
        exact this.1.1
      have c38a := c38 t (by omega) (by omega) l (by omega) hst
      have hml : (mustL t l).length = l.length := by simp [mustL]
      have hal := agnL_len t l
      rw [if_neg (by simpa using hb)] at hC
      rw [hmb] at hmV haV hM c37a
      simp only at hmV haV
      have c31a := c31 (mustL t l) (mustL t l) (by omega) (by omega)
      have c22a := c22 (natI (agnL t l)) (natI (agnL t l)) (by omega) (by omega)
      simp only [Town.d] at c38a
      have hge : decide ((8 : Int) ≤ (t.ch.length : Int)) = decide (t.ch.length ≥ 8) := by rw [Bool.eq_iff_iff, decide_eq_true_eq, decide_eq_true_eq]; omega
      simp only [e6b, h6b, hM, hmV, haV, townB, chgK]
      by_cases h8 : t.ch.length ≥ 8
      · rw [if_pos h8] at hC
        rw [hC, hch _ (show (([] : List Int), (8 : Int)).2 ≠ 0 from by decide)]
        refine AWP.runS (fun _ => false) tt_ok (fun _ h => nomatch h) (Nat.zero_le _) rfl ?_
        simp only [go_sem]
        refine c25a.call rfl rfl rfl ?_
        simp only [go_sem]
        refine c37a.call rfl rfl rfl ?_
        simp only [go_sem]
        refine c38a.call rfl rfl rfl ?_
        simp only [go_sem]
        refine c31a.call rfl rfl rfl ?_
        simp only [go_sem, hd0]
        refine c22a.call rfl rfl rfl ?_
        simp only [go_sem, hd0, List.length_map, hge, decide_eq_true h8, List.length_nil]
        refine c15.call rfl rfl rfl ?_
        simp only [go_sem]
      rw [if_neg h8] at hC
      cases hcg : chgOk t.first.length c with
      | false =>
        rw [hcg, if_pos rfl] at hC
        rw [hcg] at c39a
        rw [hC, hch _ (show (([] : List Int), (2 : Int)).2 ≠ 0 from by decide)]
        refine AWP.runS (fun _ => false) tt_ok (fun _ h => nomatch h) (Nat.zero_le _) rfl ?_
        simp only [go_sem]
        refine c25a.call rfl rfl rfl ?_
        simp only [go_sem]
        refine c37a.call rfl rfl rfl ?_
        simp only [go_sem]
        refine c38a.call rfl rfl rfl ?_
        simp only [go_sem]
        refine c31a.call rfl rfl rfl ?_
        simp only [go_sem, hd0]
        refine c22a.call rfl rfl rfl ?_
        simp only [go_sem, hd0, List.length_map, hge, decide_eq_false h8, List.length_nil]
        refine c39a.call rfl rfl rfl ?_
        simp only [go_sem, List.length_nil]
        refine c15.call rfl rfl rfl ?_
        simp only [go_sem]
      | true =>
      rw [hcg, if_neg (by simp)] at hC
      rw [hcg] at c39a
      simp only [Town.d, hcd] at c40a c25b
      by_cases hw : openE (withT t c) = 0
      · rw [if_neg (by simpa using hw)] at hC
        rw [hw] at c25b
        rw [hC]
        have c38b := c38 (withT t c) (by rw [hwf]; omega) (by rw [hwc]; omega) l (by omega) hst
        have hal2 := agnL_len (withT t c) l
        simp only [Town.d] at c38b
        rw [chdV, if_neg (show ¬ ((keepI (natI (agnL t l)) (natI (agnL (withT t c) l)), (0 : Int)).2 ≠ 0) from by simp)]
        simp only
        generalize natI (agnL (withT t c) l) = Y at *
        generalize natI (agnL t l) = W at *
        have hK : ∀ i, (keepI W (Y.take i)).length ≤ i := fun i => by
          have := List.length_filter_le (fun v => !hasI v W) (Y.take i)
          rw [List.length_take] at this
          rw [keepI]; omega
        have c22k := c22 (keepI W Y) (keepI W Y) (by have := hK Y.length; rw [List.take_length] at this; omega) (by have := hK Y.length; rw [List.take_length] at this; omega)
        refine AWP.runS (fun k => k == 178) tt_ok (fun _ h => nomatch h) (Nat.zero_le _) rfl ?_
        simp only [go_sem]
        refine c25a.call rfl rfl rfl ?_
        simp only [go_sem]
        refine c37a.call rfl rfl rfl ?_
        simp only [go_sem]
        refine c38a.call rfl rfl rfl ?_
        simp only [go_sem]
        refine c31a.call rfl rfl rfl ?_
        simp only [go_sem, hd0]
        refine c22a.call rfl rfl rfl ?_
        simp only [go_sem, hd0, List.length_map, hge, decide_eq_false h8]
        refine c39a.call rfl rfl rfl ?_
        simp only [go_sem]
        refine c40a.call rfl rfl rfl ?_
        simp only [go_sem]
        refine c25b.call rfl rfl rfl ?_
        simp only [go_sem]
        refine c40a.call rfl rfl rfl ?_
        simp only [go_sem]
        refine c38b.call rfl rfl rfl ?_
        simp only [go_sem]
        refine ALoop.by (S := Nat) (fun i => [(22, .d (.int .i64 i)), (21, .ref 3 (keepI W (Y.take i)).length 0 (keepI W (Y.take i)).length), (20, .d (.sl (Y.map (.int .i64)))), (18, .d (.sl (W.map (.int .i64)))), (14, .d (.int .i64 0)), (13, .d (.sl ((keepI W Y).map (.int .i64))))])
          (fun i => [townB t, chgK c, townB t, .arr 1 false ((keepI W (Y.take i)).map (.int .i64))]) (fun i => Y.length - i) (fun i => i ≤ Y.length) 0 (Nat.zero_le _) (fun _ h => nomatch h) (Nat.zero_le _) (ForgetTo.same' (Nat.zero_le _) ⟨rfl, rfl, rfl, rfl, rfl, rfl, trivial⟩ rfl) ?_
        rintro i hi hn
        refine AWP.run (fun _ => false) tt_ok (fun _ h => nomatch h) (Nat.zero_le _) rfl ?_
        simp only [go_sem, List.length_map]
        refine Br_split (fun hd => ?_) (fun hd => ?_) <;> simp only [go_sem, hd]
        · have hlt : i < Y.length := by simpa using hd
          have hix : idx? (Y.map (D.int .i64)) (i : Int) = some (.int .i64 Y[i]) := by simp [idx?, List.getElem?_eq_getElem hlt]
          have hnx : IntKind.i64.wrap ((i : Int) + 1) = ((i + 1 : Nat) : Int) := by rw [w64 (by omega) (by omega)]; omega
          have hkt := keepI_take W Y hlt
          have hkl := hK i
          have c41a := c41 W (by omega) Y[i]
          have fin : ∀ A E, A = keepI W (Y.take (i + 1)) → EWe E [(22, .d (.int .i64 ((i + 1 : Nat) : Int))), (21, .ref 3 A.length 0 A.length), (20, .d (.sl (Y.map (.int .i64)))), (18, .d (.sl (W.map (.int .i64)))), (14, .d (.int .i64 0)), (13, .d (.sl ((keepI W Y).map (.int .i64))))] →
              ∃ s', s' ≤ Y.length ∧ Y.length - s' < Y.length - i ∧ ForgetTo 0 E [townB t, chgK c, townB t, .arr 1 false (A.map (.int .i64))] [(22, .d (.int .i64 s')), (21, .ref 3 (keepI W (Y.take s')).length 0 (keepI W (Y.take s')).length), (20, .d (.sl (Y.map (.int .i64)))), (18, .d (.sl (W.map (.int .i64)))), (14, .d (.int .i64 0)), (13, .d (.sl ((keepI W Y).map (.int .i64))))]
                [townB t, chgK c, townB t, .arr 1 false ((keepI W (Y.take s')).map (.int .i64))] := fun A E hA hE => by
            subst hA
            exact ⟨i + 1, hlt, by omega, ForgetTo.same' (Nat.zero_le _) hE rfl⟩
          rw [hkt] at fin
          generalize keepI W (Y.take i) = A at *
          generalize Y[i] = y at *
          simp only [go_sem, hix]
          refine c41a.call rfl rfl rfl ?_
          cases hh : hasI y W with
          | true =>
            rw [hh, if_pos rfl, List.append_nil] at fin
            simp only [go_sem, hnx]
            refine fin _ _ rfl ?_
            exact ⟨rfl, rfl, rfl, rfl, rfl, rfl, trivial⟩
          | false =>
            rw [hh, if_neg (by simp)] at fin
            have f2 := fun E => fin _ E rfl
            simp only [List.map_append, List.map_cons, List.map_nil, List.length_append, List.length_cons, List.length_nil, Nat.zero_add] at f2
            have si : sized 1 [D.int .i64 y] = true := rfl
            have bA : A.length + 1 ≤ 4294967296 := by omega
            have bA2 : decide (A.length ≤ 4294967295) = true := decide_eq_true (by omega)
            simp only [go_sem, hix, si, List.length_map, bA, bA2, hnx]
            refine f2 _ ?_
            exact ⟨rfl, rfl, rfl, rfl, rfl, rfl, trivial⟩
        · have hie : i = Y.length := by simp only [decide_eq_false_iff_not] at hd; omega
          subst hie
          rw [List.take_length]
          have htk : List.take (keepI W Y).length ((keepI W Y).map (D.int .i64)) = (keepI W Y).map (D.int .i64) := List.take_of_length_le (by simp)
          generalize keepI W Y = K at *
          simp only [go_sem]
          refine c22k.callL rfl (by simp [pubVs, pubV, dz, htk]) rfl ?_
          simp only [go_sem, hd0]
          refine c15.call rfl rfl rfl ?_
          simp only [go_sem]
      · rw [if_pos (by simpa using hw)] at hC
        have d1 : decide (openE (withT t c) = 0) = false := decide_eq_false hw
        rw [hC, hch _ (show (([] : List Int), openE (withT t c)).2 ≠ 0 from hw)]
        refine AWP.runS (fun _ => false) tt_ok (fun _ h => nomatch h) (Nat.zero_le _) rfl ?_
        simp only [go_sem]
        refine c25a.call rfl rfl rfl ?_
        simp only [go_sem]
        refine c37a.call rfl rfl rfl ?_
        simp only [go_sem]
        refine c38a.call rfl rfl rfl ?_
        simp only [go_sem]
        refine c31a.call rfl rfl rfl ?_
        simp only [go_sem, hd0]
        refine c22a.call rfl rfl rfl ?_
        simp only [go_sem, hd0, List.length_map, hge, decide_eq_false h8]
        refine c39a.call rfl rfl rfl ?_
        simp only [go_sem]
        refine c40a.call rfl rfl rfl ?_
        simp only [go_sem]
        refine c25b.call rfl rfl rfl ?_
        simp only [go_sem, d1, hd0, List.length_nil]
        refine c15.call rfl rfl rfl ?_
        simp only [go_sem]
    · have hne := mustB_ne hb
      rw [if_pos (by simpa using hb)] at hC
      rw [hne.1] at hmV
      rw [hne.2] at haV
      simp only [e6b, h6b, hM, hmV, haV, hC]
      rw [hch _ (show (([] : List Int), (mustB t l).2.2).2 ≠ 0 from hb)]
      have d1 : decide ((mustB t l).2.2 = 0) = false := decide_eq_false hb
      generalize (mustB t l).2.2 = e at *
      simp only [townB, chgK]
      refine AWP.runS (fun _ => false) tt_ok (fun _ h => nomatch h) (Nat.zero_le _) rfl ?_
      simp only [go_sem]
      refine c25a.call rfl rfl rfl ?_
      simp only [go_sem]
      refine c37a.call rfl rfl rfl ?_
      simp only [go_sem, d1, hd0, List.length_map, List.length_nil, hw0]
      refine c15.call rfl rfl rfl ?_
      simp only [go_sem]
  · rw [if_pos (by simpa using ho)] at hM hmV haV hC
    have d1 : decide (openE t = 0) = false := decide_eq_false ho
    simp only [e6b, h6b, hM, hmV, haV, hC]
    rw [hch _ (show (([] : List Int), openE t).2 ≠ 0 from ho)]
    simp only [townB, chgK]
    refine AWP.runS (fun _ => false) tt_ok (fun _ h => nomatch h) (Nat.zero_le _) rfl ?_
    simp only [go_sem]
    refine c25a.call rfl rfl rfl ?_
    simp only [go_sem, d1, hd0, List.length_nil, hw0]
    refine c15.call rfl rfl rfl ?_
    simp only [go_sem]

theorem c6 (t : Town) (l : List Ord) (c : Chg) : PC prog 6 [.d t.d, .d (.sl (l.map Ord.d)), .d c.d] (.d (.bool true)) :=
  c6_a t l c fun h1 h2 h3 => c6_b t l c h1 h2 h3 (c6_c t l c h1 h2 h3)
end Go.Aw
end

section
set_option maxRecDepth 100000
namespace Go.Aw
open Go Go.Proofs

theorem has_ord {f : Nat} {y : D} (h : HasT Tryz.prog (f + 2) 62 y) : ∃ c : Ord, y = c.d := by
  unfold HasT at h
  rw [Tryz.underlying62] at h
  obtain ⟨l, rfl, h⟩ := h
  simp only [HasFs] at h
  obtain ⟨y1, r1, rfl, h1, y2, r2, rfl, h2, y3, r3, rfl, h3, rfl⟩ := h
  obtain ⟨n1, rfl, _⟩ := has_int h1
  obtain ⟨n2, rfl, _⟩ := has_int h2
  obtain ⟨n3, rfl⟩ := has_str h3
  exact ⟨⟨n1, n2, n3⟩, rfl⟩

theorem has_ords {f : Nat} {y : D} (h : HasT Tryz.prog (f + 3) 58 y) : ∃ l : List Ord, y = .sl (l.map Ord.d) := by
  unfold HasT at h
  rw [Tryz.underlying58] at h
  obtain ⟨l, rfl, h1, hl⟩ := h
  obtain ⟨ss, rfl⟩ := has_list (fun y hy => has_ord (f := f) hy) l hl
  exact ⟨ss, rfl⟩
end Go.Aw
end
