/- The reference: Name, Change, Copy, Same, Called, Check. The reference: Clash, First. The reference: First, Check, Open; the law's long. The law's long. Towns as arguments of the laws. The reference: Names of all hours, Holds. The reference: History, hour by hour. Hour by hour, and page by page: the plain law. Texts compared by less; a sort by swaps. Again: the plain law. The reference: Again. The law StreetHistories. -/
import Derived.Test.YtifknkikeobejaaGreatL2
set_option linter.unusedSimpArgs false
set_option linter.unusedVariables false

section
set_option maxRecDepth 100000
namespace Go.Aw
open Go Go.Proofs.Tryz

theorem c28 (s : ByteArray) (hs : s.size ≤ 1000) : PC prog 28 [.d (.str s)] (.d (.bool (nm s))) := by
  refine PC.run (fun _ => false) tt_ok (fn := f28) (rs := [.tmp 2]) rfl rfl rfl rfl rfl rfl rfl ?_
  simp only [go_sem]
  refine ALoop.by (S := Nat) (fun i => [(3, .d (.int .i64 i)), (0, .d (.str s))]) (fun _ => []) (fun i => s.size - i) (fun i => i ≤ s.size ∧ lettersTo s i = true) 0 (Nat.zero_le _) (fun _ h => nomatch h) ⟨Nat.zero_le _, rfl⟩ (ForgetTo.same' (Nat.zero_le _) ⟨rfl, rfl, trivial⟩ rfl) ?_
  rintro i ⟨hi, hli⟩ hn
  refine AWP.run (fun _ => false) tt_ok (fun _ h => nomatch h) (Nat.zero_le _) rfl ?_
  simp only [go_sem]
  refine Br_split (fun hd => ?_) (fun hd => ?_) <;> simp only [go_sem, hd]
  · have hlt : i < s.size := by simpa using hd
    have hai := aindex_str (T := Tt) (z := ⟨#[]⟩) (k := .i64) hlt
    have hgd : s.data.toList.getD i 0 = s.get! i := by rw [get_data hlt, List.getD_eq_getElem?_getD, List.getElem?_eq_getElem (by simpa using hlt)]; rfl
    rw [hgd] at hai
    have hls := lettersTo_succ hlt
    have hno := nm_no hlt
    rw [hli, Bool.true_and] at hls
    have hlet : letter (s.get! i) = (decide (97 ≤ (s.get! i).toNat) && decide ((s.get! i).toNat ≤ 122)) := rfl
    have hnx : IntKind.i64.wrap ((i : Int) + 1) = ((i + 1 : Nat) : Int) := by rw [w64 (by omega) (by omega)]; omega
    generalize (s.get! i).toNat = b at *
    generalize letter (s.get! i) = L at *
    simp only [go_sem, hai]
    cases d1 : decide ((b : Int) < 97) with
    | true =>
      have : decide (97 ≤ b) = false := by simp only [decide_eq_true_eq, decide_eq_false_iff_not] at d1 ⊢; omega
      rw [this, Bool.false_and] at hlet
      simp only [go_sem, d1]
      rw [hno hlet]
    | false =>
      have h97 : decide (97 ≤ b) = true := by simp only [decide_eq_true_eq, decide_eq_false_iff_not] at d1 ⊢; omega
      cases d2 : decide ((122 : Int) < b) with
      | true =>
        have : decide (b ≤ 122) = false := by simp only [decide_eq_true_eq, decide_eq_false_iff_not] at d2 ⊢; omega
        rw [this, Bool.and_false] at hlet
        simp only [go_sem, d1, d2, hai]
        rw [hno hlet]
      | false =>
        have h122 : decide (b ≤ 122) = true := by simp only [decide_eq_true_eq, decide_eq_false_iff_not] at d2 ⊢; omega
        rw [h97, h122] at hlet
        simp only [go_sem, d1, d2, hai, hnx]
        exact ⟨i + 1, ⟨hlt, by rw [hls, hlet]; rfl⟩, by omega, ForgetTo.same' (Nat.zero_le _) ⟨rfl, rfl, trivial⟩ rfl⟩
  · have hie : i = s.size := by simp only [decide_eq_false_iff_not] at hd; omega
    subst hie
    refine (c26 (s.size : Int) 1 10).call rfl rfl rfl ?_
    simp only [go_sem]
    rw [nm_end hli]

theorem c39 (c : Chg) (n : Nat) (hn : n ≤ 1000000) (hs : c.name.size ≤ 1000) : PC prog 39 [.d c.d, .d (.int .i64 n)] (.d (.bool (chgOk n c))) := by
  rw [chgOk]
  refine PC.run (fun _ => false) tt_ok (fn := f39) (rs := [.tmp 4]) rfl rfl rfl rfl rfl rfl rfl ?_
  have c26a := c26 c.at' 1 1000
  have w1 : IntKind.i64.wrap ((n : Int) - 1) = (n : Int) - 1 := w64 (by omega) (by omega)
  have c26b := c26 c.st 0 ((n : Int) - 1)
  have e : decide (0 ≤ c.st ∧ c.st ≤ (n : Int) - 1) = decide (0 ≤ c.st ∧ c.st < (n : Int)) := by rw [Bool.eq_iff_iff, decide_eq_true_eq, decide_eq_true_eq]; omega
  rw [e] at c26b
  have c28a := c28 c.name hs
  simp only [go_sem, Chg.d, w1]
  refine c26a.call rfl rfl rfl ?_
  simp only [go_sem, w1]
  cases d1 : decide (1 ≤ c.at' ∧ c.at' ≤ 1000) with
  | false => simp only [go_sem, d1]
  | true =>
    simp only [go_sem, d1, w1]
    refine c26b.call rfl rfl rfl ?_
    cases d2 : decide (0 ≤ c.st ∧ c.st < (n : Int)) with
    | false => simp only [go_sem, d1, d2]
    | true =>
      simp only [go_sem, d1, d2]
      refine c28a.call rfl rfl rfl ?_
      simp only [go_sem]

theorem c16 (t : Town) (h1 : t.first.length ≤ 1000) (h2 : t.ch.length ≤ 1000) : PC prog 16 [.d t.d] (.d t.d) := by
  refine PC.run (fun _ => false) tt_ok (fn := f16) (rs := [.cell 2 25]) rfl rfl rfl rfl rfl rfl rfl ?_
  have s1 := sized_strs t.first
  have s2 := sized_chg t.ch
  have l1 : t.first.length ≤ 4294967296 := by omega
  have l2 : t.ch.length ≤ 4294967296 := by omega
  simp only [go_sem, Town.d]
  refine ADrw.treeG (fun _ => false) tt_ok (by kernel_rfl) (fun k => if k = 2 ∨ k = 6 then some .L else if k = 9 then some .W else some .S) (.ones [0, 1, 2, 3, 4, 5, 6, 7, 8, 9] .done) (Nat.zero_le _) (fun _ h => nomatch h) rfl rfl (by kernel_rfl) ?_
  simp only [go_sem, s1, s2, l1, l2, List.length_map, show sized 1 [] = true from rfl, show sized 3 [] = true from rfl]

theorem beq_self_dec {α : Type} [DecidableEq α] (l : α) : decide (l = l) = true := by simp

theorem c20 (t : Town) (h1 : t.first.length ≤ 1000) (h2 : t.ch.length ≤ 1000) : PC prog 20 [.d t.d, .d t.d] (.d (.bool true)) := by
  refine PC.run (fun _ => false) tt_ok (fn := f20) (rs := [.tmp 4]) rfl rfl rfl rfl rfl rfl rfl ?_
  simp only [go_sem, Town.d]
  refine (c31 t.first t.first (by omega) (by omega)).call rfl rfl rfl ?_
  simp only [go_sem, beq_self_dec, List.length_map]
  refine ALoop.by (S := Nat) (fun i => [(5, .d (.int .i64 i)), (3, .ptr 1 0), (2, .ptr 0 0)]) (fun _ => [townB t, townB t]) (fun i => t.ch.length - i) (fun i => i ≤ t.ch.length) 0 (Nat.zero_le _) (fun _ h => nomatch h) (Nat.zero_le _) (ForgetTo.same' (Nat.zero_le _) ⟨rfl, rfl, rfl, trivial⟩ rfl) ?_
  rintro i hi hn
  refine AWP.run (fun _ => false) tt_ok (fun _ h => nomatch h) (Nat.zero_le _) rfl ?_
  simp only [go_sem, townB, List.length_map]
  refine Br_split (fun hd => ?_) (fun hd => ?_) <;> simp only [go_sem, hd]
  have hlt : i < t.ch.length := by simpa using hd
  have hix : idx? (t.ch.map Chg.d) (i : Int) = some t.ch[i].d := by simp [idx?, List.getElem?_eq_getElem hlt]
  have hcd : t.ch[i].d = .agg [.int .i64 t.ch[i].at', .int .i64 t.ch[i].st, .str t.ch[i].name] := rfl
  have hnx : IntKind.i64.wrap ((i : Int) + 1) = ((i + 1 : Nat) : Int) := by rw [w64 (by omega) (by omega)]; omega
  rw [hcd] at hix
  generalize t.ch[i].at' = x1 at *
  generalize t.ch[i].st = x2 at *
  generalize t.ch[i].name = x3 at *
  refine ADrw.treeG (fun _ => false) tt_ok (by kernel_rfl) (fun k => if k = 1 ∨ k = 6 then some .L else some .S) (.ones [0, 1, 2, 3, 4, 5, 6, 7, 8, 9, 10] .done) (Nat.zero_le _) (fun _ h => nomatch h) rfl rfl (by kernel_rfl) ?_
  simp only [go_sem, hix, beq_self_dec, beq_ba, hnx]
  exact ⟨i + 1, hlt, by omega, ForgetTo.same' (Nat.zero_le _) ⟨rfl, rfl, rfl, trivial⟩ rfl⟩

theorem callP_succ (l : List Chg) (z : ByteArray) (s : Nat) (hour : Int) {i : Nat} (hi : i < l.length) : callP (l.take (i + 1)) z s hour = if l[i].st = (s : Int) ∧ l[i].at' ≤ hour ∧ (callP (l.take i) z s hour).2 ≤ l[i].at' then (l[i].name, l[i].at') else callP (l.take i) z s hour := by
  rw [List.take_succ_eq_append_getElem hi, callP, List.foldl_append]; rfl

theorem c27 (t : Town) (h2 : t.ch.length ≤ 1000) {s : Nat} (hs : s < t.first.length) (hour : Int) : PC prog 27 [.d t.d, .d (.int .i64 s), .d (.int .i64 hour)] (.d (.str (calledT t s hour))) := by
  refine PC.run (fun _ => false) tt_ok (fn := f27) (rs := [.tmp 6]) rfl rfl rfl rfl rfl rfl rfl ?_
  have hix : idx? (t.first.map D.str) (s : Int) = some (.str (t.first.getD s default)) := by rw [getDG hs]; simp [idx?, List.getElem?_eq_getElem hs]
  simp only [go_sem, Town.d, hix]
  rw [calledT]
  generalize t.first.getD s default = z at *
  refine ALoop.by (S := Nat) (fun i => [(9, .d (.int .i64 i)), (8, .d (.int .i64 (callP (t.ch.take i) z s hour).2)), (7, .d (.str (callP (t.ch.take i) z s hour).1)), (3, .ptr 0 0), (2, .d (.int .i64 hour)), (1, .d (.int .i64 s))]) (fun _ => [townB t]) (fun i => t.ch.length - i) (fun i => i ≤ t.ch.length) 0 (Nat.zero_le _) (fun _ h => nomatch h) (Nat.zero_le _) (ForgetTo.same' (Nat.zero_le _) ⟨rfl, rfl, rfl, rfl, rfl, rfl, trivial⟩ rfl) ?_
  rintro i hi hn
  refine AWP.run (fun _ => false) tt_ok (fun _ h => nomatch h) (Nat.zero_le _) rfl ?_
  simp only [go_sem, townB, List.length_map]
  refine Br_split (fun hd => ?_) (fun hd => ?_) <;> simp only [go_sem, hd]
  · have hlt : i < t.ch.length := by simpa using hd
    have hix : idx? (t.ch.map Chg.d) (i : Int) = some t.ch[i].d := by simp [idx?, List.getElem?_eq_getElem hlt]
    have hcd : t.ch[i].d = .agg [.int .i64 t.ch[i].at', .int .i64 t.ch[i].st, .str t.ch[i].name] := rfl
    have hnx : IntKind.i64.wrap ((i : Int) + 1) = ((i + 1 : Nat) : Int) := by rw [w64 (by omega) (by omega)]; omega
    have hsu := callP_succ t.ch z s hour hlt
    rw [hcd] at hix
    have fin : ∀ (p : ByteArray × Int) (E : Env), p = callP (t.ch.take (i + 1)) z s hour → EWp 1 [townB t, .cells [.d (.int .i64 t.ch[i].at'), .d (.int .i64 t.ch[i].st), .d (.str t.ch[i].name)]] E [(9, .d (.int .i64 ((i + 1 : Nat) : Int))), (8, .d (.int .i64 p.2)), (7, .d (.str p.1)), (3, .ptr 0 0), (2, .d (.int .i64 hour)), (1, .d (.int .i64 s))] →
        ∃ s', s' ≤ t.ch.length ∧ t.ch.length - s' < t.ch.length - i ∧ ForgetTo 0 E [townB t, .cells [.d (.int .i64 t.ch[i].at'), .d (.int .i64 t.ch[i].st), .d (.str t.ch[i].name)]] [(9, .d (.int .i64 s')), (8, .d (.int .i64 (callP (t.ch.take s') z s hour).2)), (7, .d (.str (callP (t.ch.take s') z s hour).1)), (3, .ptr 0 0), (2, .d (.int .i64 hour)), (1, .d (.int .i64 s))] [townB t] := fun p E hp hE => by
      subst hp
      exact ⟨i + 1, hlt, by omega, ForgetTo.drop (H0 := [_]) (Y := [_]) (Nat.zero_le _) rfl (by simp [BBs, BB, VBs, VB, townB]) hE⟩
    rw [hsu] at fin
    simp only [townB] at fin
    generalize callP (t.ch.take i) z s hour = p at *
    generalize t.ch[i].at' = x1 at *
    generalize t.ch[i].st = x2 at *
    generalize t.ch[i].name = x3 at *
    simp only [go_sem, hix]
    by_cases h1 : x2 = (s : Int)
    · simp only [go_sem, decide_eq_true h1]
      by_cases h3 : x1 ≤ hour
      · simp only [go_sem, decide_eq_true h3]
        by_cases h4 : p.2 ≤ x1
        · rw [if_pos ⟨h1, h3, h4⟩] at fin
          simp only [go_sem, decide_eq_true h4]
          refine ADrw.treeG (fun _ => false) tt_ok (by kernel_rfl) (fun k => if k = 1 ∨ k = 3 then some .L else some .S) (.ones [0, 1, 2, 3, 4, 5] .done) (Nat.zero_le _) (fun _ h => nomatch h) rfl rfl (by kernel_rfl) ?_
          simp only [go_sem, hnx]
          exact fin (x3, x1) _ rfl (by simp [EWp, Env.look, pubV])
        · rw [if_neg (fun h => h4 h.2.2)] at fin
          simp only [go_sem, decide_eq_false h4, hnx]
          exact fin p _ rfl (by simp [EWp, Env.look, pubV])
      · rw [if_neg (fun h => h3 h.2.1)] at fin
        simp only [go_sem, decide_eq_false h3, hnx]
        exact fin p _ rfl (by simp [EWp, Env.look, pubV])
    · rw [if_neg (fun h => h1 h.1)] at fin
      simp only [go_sem, decide_eq_false h1, hnx]
      exact fin p _ rfl (by simp [EWp, Env.look, pubV])
  · have hie : i = t.ch.length := by simp only [decide_eq_false_iff_not] at hd; omega
    subst hie
    rw [List.take_length]
end Go.Aw
end

section
set_option maxRecDepth 100000
namespace Go.Aw
open Go Go.Proofs.Tryz

/-- How many changes of a street there are in an hour, among the first ones. -/
def cntC (t : Town) (h : Int) (s i : Nat) : Nat := ((t.ch.take i).filter fun c => decide (c.at' = h ∧ c.st = (s : Int))).length
theorem cntC_succ (t : Town) (h : Int) (s : Nat) {i : Nat} (hi : i < t.ch.length) : cntC t h s (i + 1) = cntC t h s i + if t.ch[i].at' = h ∧ t.ch[i].st = (s : Int) then 1 else 0 := by
  rw [cntC, cntC, List.take_succ_eq_append_getElem hi, List.filter_append, List.length_append]
  congr 1
  rw [List.filter_cons, List.filter_nil]
  split <;> simp_all
theorem cntC_le (t : Town) (h : Int) (s i : Nat) : cntC t h s i ≤ i := by
  have := List.length_filter_le (fun c : Chg => decide (c.at' = h ∧ c.st = (s : Int))) (t.ch.take i)
  have h2 := List.length_take_le i t.ch
  rw [cntC]; omega

/-- Is a street called as another one of the first ones? -/
def likeC (t : Town) (h : Int) (s o : Nat) : Bool := (List.range o).any fun o => !decide (o = s) && decide (calledT t o h = calledT t s h)
theorem likeC_succ (t : Town) (h : Int) (s o : Nat) : likeC t h s (o + 1) = (likeC t h s o || (!decide (o = s) && decide (calledT t o h = calledT t s h))) := by
  rw [likeC, List.range_succ, List.any_append]; simp [likeC]

theorem count_two {α : Type} [DecidableEq α] [Inhabited α] : ∀ (l : List α) (s : Nat), s < l.length → (1 < cntL (l.getD s default) l ↔ ∃ o, o < l.length ∧ o ≠ s ∧ l.getD o default = l.getD s default)
  | [], s, h => by simp at h
  | a :: l, 0, _ => by
    have e : cntL ((a :: l).getD 0 default) (a :: l) = cntL a l + 1 := by simp [cntL]
    rw [e]
    constructor
    · intro h
      have hm : a ∈ l := List.count_pos_iff.1 (by rw [cntL] at h; omega)
      obtain ⟨i, hi, he⟩ := List.getElem_of_mem hm
      exact ⟨i + 1, by simpa using hi, by omega, by simp [List.getElem?_eq_getElem hi, he]⟩
    · rintro ⟨o, h1, h2, h3⟩
      obtain ⟨i, rfl⟩ : ∃ i, o = i + 1 := ⟨o - 1, by omega⟩
      have hi : i < l.length := by simpa using h1
      have hm : a ∈ l := by
        simp [List.getElem?_eq_getElem hi] at h3
        rw [← h3]; exact List.getElem_mem _
      have : 0 < cntL a l := List.count_pos_iff.2 hm
      omega
  | a :: l, s + 1, h => by
    have hs : s < l.length := by simpa using h
    have ih := count_two l s hs
    have e0 : (a :: l).getD (s + 1) default = l.getD s default := by simp
    rw [e0]
    have e : cntL (l.getD s default) (a :: l) = cntL (l.getD s default) l + if a = l.getD s default then 1 else 0 := by
      rw [cntL, cntL, List.count_cons]
      simp
    have hp : 0 < cntL (l.getD s default) l := List.count_pos_iff.2 (by rw [getDG hs]; exact List.getElem_mem _)
    rw [e]
    by_cases ha : a = l.getD s default
    · rw [if_pos ha]
      exact ⟨fun _ => ⟨0, by simp, by omega, by simpa using ha⟩, fun _ => by omega⟩
    · rw [if_neg ha, Nat.add_zero, ih]
      constructor
      · rintro ⟨o, h1, h2, h3⟩
        exact ⟨o + 1, by simpa using h1, by omega, by simpa using h3⟩
      · rintro ⟨o, h1, h2, h3⟩
        cases o with
        | zero => exact absurd (by simpa using h3) ha
        | succ o => exact ⟨o, by simpa using h1, by omega, by simpa using h3⟩

theorem like_iff (t : Town) (h : Int) {s : Nat} (hs : s < t.first.length) : likeC t h s t.first.length = decide (1 < cntL (calledT t s h) (namesT t h)) := by
  have := count_two (namesT t h) s (by rw [namesT_len]; exact hs)
  rw [namesT_get hs, namesT_len] at this
  rw [Bool.eq_iff_iff, decide_eq_true_eq, this, likeC, List.any_eq_true]
  constructor
  · rintro ⟨o, h1, h2⟩
    simp only [Bool.and_eq_true, Bool.not_eq_true', decide_eq_false_iff_not, decide_eq_true_eq, List.mem_range] at h1 h2
    exact ⟨o, h1, h2.1, by rw [namesT_get h1]; exact h2.2⟩
  · rintro ⟨o, h1, h2, h3⟩
    rw [namesT_get h1] at h3
    exact ⟨o, List.mem_range.2 h1, by simp [h2, h3]⟩

def twC (t : Town) (h : Int) (k : Nat) : List Int := natI ((List.range k).filter fun s => decide (1 < cntC t h s t.ch.length))
def alC (t : Town) (h : Int) (k : Nat) : List Int := natI ((List.range k).filter fun s => likeC t h s t.first.length)
theorem twC_succ (t : Town) (h : Int) (k : Nat) : twC t h (k + 1) = twC t h k ++ if 1 < cntC t h k t.ch.length then [(k : Int)] else [] := by
  rw [twC, twC, natI, natI, List.range_succ, List.filter_append, List.map_append]
  congr 1
  rw [List.filter_cons, List.filter_nil]
  split <;> simp_all
theorem alC_succ (t : Town) (h : Int) (k : Nat) : alC t h (k + 1) = alC t h k ++ if likeC t h k t.first.length = true then [(k : Int)] else [] := by
  rw [alC, alC, natI, natI, List.range_succ, List.filter_append, List.map_append]
  congr 1
  rw [List.filter_cons, List.filter_nil]
  split <;> simp_all
theorem twC_len (t : Town) (h : Int) (k : Nat) : (twC t h k).length ≤ k := by
  have := List.length_filter_le (fun s => decide (1 < cntC t h s t.ch.length)) (List.range k)
  rw [twC, natI, List.length_map]; simpa using this
theorem alC_len (t : Town) (h : Int) (k : Nat) : (alC t h k).length ≤ k := by
  have := List.length_filter_le (fun s => likeC t h s t.first.length) (List.range k)
  rw [alC, natI, List.length_map]; simpa using this

theorem clash_C (t : Town) (h : Int) : natI (clashT t h) = if twC t h t.first.length = [] then alC t h t.first.length else twC t h t.first.length := by
  have e1 : twC t h t.first.length = natI (twiceT t h) := by
    rw [twC, twiceT]
    congr 1
    refine List.filter_congr fun s _ => ?_
    rw [cntC, List.take_length]
  have e2 : alC t h t.first.length = natI (alikeT t h) := by
    rw [alC, alikeT]
    congr 1
    refine List.filter_congr fun s hs => ?_
    exact like_iff t h (by simpa using hs)
  rw [e1, e2, clashT]
  by_cases h0 : twiceT t h = []
  · rw [if_neg (by rw [h0]; simp), if_pos (by rw [h0]; rfl)]
  · rw [if_pos h0, if_neg (show ¬ natI (twiceT t h) = [] from fun e => h0 (List.map_eq_nil_iff.1 e))]

theorem c75 (t : Town) (h1 : t.first.length ≤ 1000) (h2 : t.ch.length ≤ 1000) (hour : Int) : PC prog 75 [.d t.d, .d (.int .i64 hour)] (.d (.sl ((natI (clashT t hour)).map (.int .i64)))) := by
  refine PC.run (fun k => k == 12 || k == 13) tt_ok (fn := f75) (rs := [.tmp 4]) rfl rfl rfl rfl rfl rfl rfl ?_
  simp only [go_sem, Town.d]
  refine ALoop.by (S := Nat) (fun s => [(7, .d (.int .i64 s)), (6, .ref 2 (alC t hour s).length 0 (alC t hour s).length), (5, .ref 1 (twC t hour s).length 0 (twC t hour s).length), (2, .ptr 0 0), (1, .d (.int .i64 hour))])
    (fun s => [townB t, .arr 1 false ((twC t hour s).map (.int .i64)), .arr 1 false ((alC t hour s).map (.int .i64))]) (fun s => t.first.length - s) (fun s => s ≤ t.first.length) 0 (Nat.zero_le _) (fun _ h => nomatch h) (Nat.zero_le _) (ForgetTo.same' (Nat.zero_le _) ⟨rfl, rfl, rfl, rfl, rfl, trivial⟩ rfl) ?_
  rintro s hs hn
  refine AWP.run (fun _ => false) tt_ok (fun _ h => nomatch h) (Nat.zero_le _) rfl ?_
  simp only [go_sem, townB, List.length_map]
  refine Br_split (fun hd => ?_) (fun hd => ?_) <;> simp only [go_sem, hd]
  · have hlt : s < t.first.length := by simpa using hd
    have hnx : IntKind.i64.wrap ((s : Int) + 1) = ((s + 1 : Nat) : Int) := by rw [w64 (by omega) (by omega)]; omega
    have hu1 := twC_succ t hour s
    have hu2 := alC_succ t hour s
    have hl1 := twC_len t hour s
    have hl2 := alC_len t hour s
    have fin : ∀ (A B : List Int) (E : Env), A = twC t hour (s + 1) → B = alC t hour (s + 1) → EWe E [(7, .d (.int .i64 ((s + 1 : Nat) : Int))), (6, .ref 2 B.length 0 B.length), (5, .ref 1 A.length 0 A.length), (2, .ptr 0 0), (1, .d (.int .i64 hour))] →
        ∃ s', s' ≤ t.first.length ∧ t.first.length - s' < t.first.length - s ∧ ForgetTo 0 E [townB t, .arr 1 false (A.map (.int .i64)), .arr 1 false (B.map (.int .i64))] [(7, .d (.int .i64 s')), (6, .ref 2 (alC t hour s').length 0 (alC t hour s').length), (5, .ref 1 (twC t hour s').length 0 (twC t hour s').length), (2, .ptr 0 0), (1, .d (.int .i64 hour))]
          [townB t, .arr 1 false ((twC t hour s').map (.int .i64)), .arr 1 false ((alC t hour s').map (.int .i64))] := fun A B E hA hB hE => by
      subst hA hB
      exact ⟨s + 1, hlt, by omega, ForgetTo.same' (Nat.zero_le _) hE rfl⟩
    rw [hu1, hu2] at fin
    clear hu1 hu2
    simp only [townB] at fin
    generalize twC t hour s = A at *
    generalize alC t hour s = B at *
    refine ALoop.by (S := Nat) (fun i => [(10, .d (.int .i64 i)), (9, .d (.bool false)), (8, .d (.int .i64 (cntC t hour s i))), (7, .d (.int .i64 s)), (6, .ref 2 B.length 0 B.length), (5, .ref 1 A.length 0 A.length), (2, .ptr 0 0), (1, .d (.int .i64 hour))])
      (fun _ => [townB t, .arr 1 false (A.map (.int .i64)), .arr 1 false (B.map (.int .i64))]) (fun i => t.ch.length - i) (fun i => i ≤ t.ch.length) 0 (Nat.zero_le _) (fun _ h => nomatch h) (Nat.zero_le _) (ForgetTo.same' (Nat.zero_le _) ⟨rfl, rfl, rfl, rfl, rfl, rfl, rfl, rfl, trivial⟩ rfl) ?_
    rintro i hi hn2
    refine AWP.run (fun _ => false) tt_ok (fun _ h => nomatch h) (Nat.zero_le _) rfl ?_
    simp only [go_sem, townB, List.length_map]
    refine Br_split (fun hd => ?_) (fun hd => ?_) <;> simp only [go_sem, hd]
    · have hit : i < t.ch.length := by simpa using hd
      have hix : idx? (t.ch.map Chg.d) (i : Int) = some t.ch[i].d := by simp [idx?, List.getElem?_eq_getElem hit]
      have hcd : t.ch[i].d = .agg [.int .i64 t.ch[i].at', .int .i64 t.ch[i].st, .str t.ch[i].name] := rfl
      have hni : IntKind.i64.wrap ((i : Int) + 1) = ((i + 1 : Nat) : Int) := by rw [w64 (by omega) (by omega)]; omega
      have hcs := cntC_succ t hour s hit
      have hcl := cntC_le t hour s i
      have hnc : IntKind.i64.wrap ((cntC t hour s i : Int) + 1) = ((cntC t hour s i + 1 : Nat) : Int) := by rw [w64 (by omega) (by omega)]; omega
      rw [hcd] at hix
      generalize t.ch[i].at' = x1 at *
      generalize t.ch[i].st = x2 at *
      generalize t.ch[i].name = x3 at *
      simp only [go_sem, hix]
      by_cases g1 : x1 = hour
      · simp only [go_sem, decide_eq_true g1, hix]
        by_cases g2 : x2 = (s : Int)
        · rw [if_pos ⟨g1, g2⟩] at hcs
          simp only [go_sem, decide_eq_true g2, hni, hnc]
          exact ⟨i + 1, hit, by omega, ForgetTo.same' (Nat.zero_le _) (by simp [EWe, Env.look, hcs]) rfl⟩
        · rw [if_neg (fun h => g2 h.2)] at hcs
          simp only [go_sem, decide_eq_false g2, hni]
          exact ⟨i + 1, hit, by omega, ForgetTo.same' (Nat.zero_le _) (by simp [EWe, Env.look, hcs]) rfl⟩
      · rw [if_neg (fun h => g1 h.1)] at hcs
        simp only [go_sem, decide_eq_false g1, hni]
        exact ⟨i + 1, hit, by omega, ForgetTo.same' (Nat.zero_le _) (by simp [EWe, Env.look, hcs]) rfl⟩
    · have hie : i = t.ch.length := by simp only [decide_eq_false_iff_not] at hd; omega
      subst hie
      have hcle := cntC_le t hour s t.ch.length
      generalize hC : cntC t hour s t.ch.length = C at *
      refine ALoop.by (S := Nat) (fun o => [(11, .d (.int .i64 o)), (9, .d (.bool (likeC t hour s o))), (8, .d (.int .i64 C)), (7, .d (.int .i64 s)), (6, .ref 2 B.length 0 B.length), (5, .ref 1 A.length 0 A.length), (2, .ptr 0 0), (1, .d (.int .i64 hour))])
        (fun _ => [townB t, .arr 1 false (A.map (.int .i64)), .arr 1 false (B.map (.int .i64))]) (fun o => t.first.length - o) (fun o => o ≤ t.first.length) 0 (Nat.zero_le _) (fun _ h => nomatch h) (Nat.zero_le _) (ForgetTo.same' (Nat.zero_le _) ⟨rfl, rfl, rfl, rfl, rfl, rfl, rfl, rfl, trivial⟩ rfl) ?_
      rintro o ho hn3
      refine AWP.run (fun _ => false) tt_ok (fun _ h => nomatch h) (Nat.zero_le _) rfl ?_
      simp only [go_sem, townB, List.length_map]
      refine Br_split (fun hd => ?_) (fun hd => ?_) <;> simp only [go_sem, hd]
      · have hot : o < t.first.length := by simpa using hd
        have hno : IntKind.i64.wrap ((o : Int) + 1) = ((o + 1 : Nat) : Int) := by rw [w64 (by omega) (by omega)]; omega
        have hls := likeC_succ t hour s o
        have c27a := c27 t h2 hot hour
        have c27b := c27 t h2 hlt hour
        simp only [Town.d] at c27a c27b
        generalize calledT t o hour = co at *
        generalize calledT t s hour = cs at *
        refine ADrw.treeG (fun _ => false) tt_ok (by kernel_rfl) (fun k => if k = 6 ∨ k = 10 then some .L else some .S) (.ones [0, 1, 2, 3, 4, 5, 6, 7, 8, 9, 10, 11, 12, 13, 14, 15, 16, 17] .done) (Nat.zero_le _) (fun _ h => nomatch h) rfl rfl (by kernel_rfl) ?_
        cases hlk : likeC t hour s o with
        | true =>
          rw [hlk, Bool.true_or] at hls
          simp only [go_sem, hno]
          exact ⟨o + 1, hot, by omega, ForgetTo.same' (Nat.zero_le _) (by simp [EWe, Env.look, hls]) rfl⟩
        | false =>
          rw [hlk, Bool.false_or] at hls
          by_cases hos : o = s
          · rw [decide_eq_true hos, Bool.not_true, Bool.false_and] at hls
            have d1 : decide ((o : Int) = (s : Int)) = true := decide_eq_true (by omega)
            simp only [go_sem, d1, hno]
            exact ⟨o + 1, hot, by omega, ForgetTo.same' (Nat.zero_le _) (by simp [EWe, Env.look, hls]) rfl⟩
          · rw [decide_eq_false hos, Bool.not_false, Bool.true_and] at hls
            have d1 : decide ((o : Int) = (s : Int)) = false := decide_eq_false (by omega)
            simp only [go_sem, d1]
            refine c27a.callS rfl rfl rfl rfl rfl rfl ?_
            simp only [go_sem]
            refine c27b.callS rfl rfl rfl rfl rfl rfl ?_
            simp only [go_sem, beq_str, hno]
            exact ⟨o + 1, hot, by omega, ForgetTo.same' (Nat.zero_le _) (by simp [EWe, Env.look, hls]) rfl⟩
      · have hoe : o = t.first.length := by simp only [decide_eq_false_iff_not] at hd; omega
        subst hoe
        have lA : (A.map (D.int .i64)).length = A.length := by simp
        have lB : (B.map (D.int .i64)).length = B.length := by simp
        have dA : decide (A.length ≤ 4294967295) = true := decide_eq_true (by omega)
        have dB : decide (B.length ≤ 4294967295) = true := decide_eq_true (by omega)
        have mA : (A ++ [(s : Int)]).map (D.int .i64) = A.map (.int .i64) ++ [.int .i64 s] := by simp
        have mB : (B ++ [(s : Int)]).map (D.int .i64) = B.map (.int .i64) ++ [.int .i64 s] := by simp
        generalize likeC t hour s t.first.length = K at *
        by_cases g1 : 1 < C
        · have d1 : decide ((1 : Int) < (C : Int)) = true := decide_eq_true (by omega)
          rw [if_pos g1] at fin
          cases K with
          | true =>
            rw [if_pos rfl] at fin
            have fin := fun E => fin (A ++ [(s : Int)]) (B ++ [(s : Int)]) E rfl rfl
            rw [mA, mB] at fin
            simp only [go_sem, d1, lA, lB, dA, dB, hnx]
            exact fin _ (by simp [EWe, Env.look])
          | false =>
            rw [if_neg (by simp), List.append_nil] at fin
            have fin := fun E => fin (A ++ [(s : Int)]) B E rfl rfl
            rw [mA] at fin
            simp only [go_sem, d1, lA, lB, dA, dB, hnx]
            exact fin _ (by simp [EWe, Env.look])
        · have d1 : decide ((1 : Int) < (C : Int)) = false := decide_eq_false (by omega)
          rw [if_neg g1, List.append_nil] at fin
          cases K with
          | true =>
            rw [if_pos rfl] at fin
            have fin := fun E => fin A (B ++ [(s : Int)]) E rfl rfl
            rw [mB] at fin
            simp only [go_sem, d1, lA, lB, dA, dB, hnx]
            exact fin _ (by simp [EWe, Env.look])
          | false =>
            rw [if_neg (by simp), List.append_nil] at fin
            have fin := fun E => fin A B E rfl rfl
            simp only [go_sem, d1, hnx]
            exact fin _ (by simp [EWe, Env.look])
  · have hie : s = t.first.length := by simp only [decide_eq_false_iff_not] at hd; omega
    subst hie
    rw [clash_C]
    have t1 : ((twC t hour t.first.length).map (D.int .i64)).take (twC t hour t.first.length).length = (twC t hour t.first.length).map (.int .i64) := List.take_of_length_le (by simp)
    have t2 : ((alC t hour t.first.length).map (D.int .i64)).take (alC t hour t.first.length).length = (alC t hour t.first.length).map (.int .i64) := List.take_of_length_le (by simp)
    by_cases h0 : twC t hour t.first.length = []
    · rw [if_pos h0]
      have d1 : decide ((0 : Int) < ((twC t hour t.first.length).length : Int)) = false := decide_eq_false (by rw [h0]; simp)
      simp only [go_sem, List.length_map, d1, t2]
    · rw [if_neg h0]
      have d1 : decide ((0 : Int) < ((twC t hour t.first.length).length : Int)) = true := decide_eq_true (by have := List.length_pos_iff.2 h0; omega)
      simp only [go_sem, List.length_map, d1, t1]
end Go.Aw
end

section
set_option maxRecDepth 100000
namespace Go.Aw
open Go Go.Proofs.Tryz

def firstV (t : Town) : List V :=
  if (nbT t).2.2 = [] then [.d (.int .i64 1001), .slx (some true) []] else [.d (.int .i64 (nbT t).2.1), .d (.sl ((nbT t).2.2.map (.int .i64)))]

theorem c21 (t : Town) (ht : t.Ok) : PC prog 21 [.d t.d] (.tup (firstV t)) := by
  have hl1 := ht.len.2
  have hl2 := ht.chl
  refine PC.run (fun _ => false) tt_ok (fn := f21) (rs := [.tmp 2, .tmp 3]) rfl rfl rfl rfl rfl rfl rfl ?_
  simp only [go_sem, Town.d]
  refine ALoop.by (S := Nat) (fun h => [(4, .d (.int .i64 h)), (1, .ptr 0 0)]) (fun _ => [townB t]) (fun h => 1001 - h) (fun h => (1 ≤ h ∧ h ≤ 1001) ∧ ∀ k : Int, 1 ≤ k → k < h → clashT t k = []) 1 (Nat.zero_le _) (fun _ h => nomatch h) ⟨by omega, fun k h1 h2 => by omega⟩ (ForgetTo.same' (Nat.zero_le _) ⟨rfl, rfl, trivial⟩ rfl) ?_
  rintro h ⟨⟨h1, h2⟩, hcl⟩ hn
  refine AWP.run (fun _ => false) tt_ok (fun _ h => nomatch h) (Nat.zero_le _) rfl ?_
  simp only [go_sem, townB]
  refine Br_split (fun hd => ?_) (fun hd => ?_) <;> simp only [go_sem, hd]
  · have hle : h ≤ 1000 := by simp only [decide_eq_true_eq] at hd; omega
    have hnx : IntKind.i64.wrap ((h : Int) + 1) = ((h + 1 : Nat) : Int) := by rw [w64 (by omega) (by omega)]; omega
    refine (c75 t (by omega) (by omega) h).call rfl rfl rfl ?_
    simp only [go_sem, List.length_map]
    refine Br_split (fun he => ?_) (fun he => ?_) <;> simp only [go_sem, he]
    · have hne : clashT t h ≠ [] := fun e => by rw [e] at he; simp [natI] at he
      have hv : firstV t = [.d (.int .i64 h), .d (.sl ((natI (clashT t h)).map (.int .i64)))] := by
        rcases nbT_spec ht with ⟨k, hk, e, hne2, hb⟩ | ⟨_, h3, _⟩
        · have hkh : k = h := by
            rcases Int.lt_trichotomy k h with hh | hh | hh
            · exact absurd (hcl k hk.1 hh) hne2
            · exact hh
            · exact absurd (hb h (by omega) hh) hne
          subst hkh
          rw [firstV, e, if_neg (show ¬ natI (clashT t h) = [] from fun e => hne (List.map_eq_nil_iff.1 e))]
        · exact absurd (h3 h (by omega)) hne
      rw [hv]
    · have hne : clashT t h = [] := by
        cases hc : clashT t h with
        | nil => rfl
        | cons a b => rw [hc] at he; simp [natI] at he
      simp only [go_sem, hnx]
      refine ⟨h + 1, ⟨⟨by omega, by omega⟩, fun k k1 k2 => ?_⟩, by omega, ForgetTo.same' (Nat.zero_le _) ⟨rfl, rfl, trivial⟩ rfl⟩
      rcases Int.lt_or_le k h with hh | hh
      · exact hcl k k1 hh
      · rw [show k = h by omega]; exact hne
  · have hh : h = 1001 := by simp only [decide_eq_false_iff_not] at hd; omega
    have hv : firstV t = [.d (.int .i64 1001), .slx (some true) []] := by
      rcases nbT_spec ht with ⟨k, hk, e, hne2, hb⟩ | ⟨e, _, _⟩
      · exact absurd (hcl k hk.1 (by omega)) hne2
      · rw [firstV, e]; rfl
    rw [hv]

theorem chk4 {t : Town} (h : ¬ (1 ≤ t.first.length ∧ t.first.length ≤ 6) ∨ (∃ i, i < t.first.length ∧ nm (t.first.getD i default) = false) ∨ ∃ k i, k < i ∧ i < t.first.length ∧ t.first.getD k default = t.first.getD i default) : checkT t = 4 := by
  rw [checkT]
  by_cases h1 : (!(decide (1 ≤ t.first.length) && decide (t.first.length ≤ 6)) || t.first.any fun s => !nm s) = true
  · rw [if_pos h1]
  · rw [if_neg h1, if_pos]
    simp only [Bool.not_eq_true, Bool.or_eq_false_iff, Bool.not_eq_false', Bool.and_eq_true, decide_eq_true_eq, List.any_eq_false, Bool.not_eq_true', Bool.not_eq_false] at h1
    rcases h with h | ⟨i, hi, h⟩ | ⟨k, i, hk, hi, h⟩
    · exact absurd h1.1 h
    · rw [getDG hi] at h
      exact absurd (h1.2 _ (List.getElem_mem hi)) (by simp [h])
    · intro e
      have : i ∈ twinsP t.first := List.mem_filter.2 ⟨List.mem_range.2 hi, decide_eq_true ((count_two t.first i hi).2 ⟨k, by omega, by omega, h⟩)⟩
      rw [e] at this; cases this

theorem chkR {t : Town} (h0 : 1 ≤ t.first.length ∧ t.first.length ≤ 6) (h1 : ∀ i, i < t.first.length → nm (t.first.getD i default) = true) (h2 : ∀ i k, k < i → i < t.first.length → t.first.getD k default ≠ t.first.getD i default) :
    checkT t = if t.ch.length > 8 then 5 else if t.ch.any (fun c => !chgOk t.first.length c) then 2 else 0 := by
  rw [checkT, if_neg, if_neg]
  · rw [ne_eq, Classical.not_not, twinsP, List.filter_eq_nil_iff]
    intro i hi
    rw [decide_eq_true_eq, count_two t.first i (List.mem_range.1 hi)]
    rintro ⟨o, ho, hne, e⟩
    rcases Nat.lt_or_gt_of_ne hne with h | h
    · exact h2 i o h (List.mem_range.1 hi) e
    · exact h2 o i h ho e.symm
  · simp only [Bool.not_eq_true, Bool.or_eq_false_iff, Bool.not_eq_false', Bool.and_eq_true, decide_eq_true_eq, List.any_eq_false, Bool.not_eq_true', Bool.not_eq_false]
    refine ⟨h0, fun s hs => ?_⟩
    obtain ⟨i, hi, e⟩ := List.getElem_of_mem hs
    have := h1 i hi
    rwa [getDG hi, e] at this

theorem c19 (t : Town) (h1 : t.first.length ≤ 1000) (h2 : t.ch.length ≤ 1000) (hfn : ∀ s ∈ t.first, s.size ≤ 1000) (hcn : ∀ c ∈ t.ch, c.name.size ≤ 1000) : PC prog 19 [.d t.d] (.d (.int .i64 (checkT t))) := by
  refine PC.run (fun _ => false) tt_ok (fn := f19) (rs := [.tmp 2]) rfl rfl rfl rfl rfl rfl rfl ?_
  simp only [go_sem, Town.d, List.length_map]
  refine (c26 t.first.length 1 6).call rfl rfl rfl ?_
  cases hc : decide ((1 : Int) ≤ (t.first.length : Int) ∧ (t.first.length : Int) ≤ 6) with
  | false =>
    have : checkT t = 4 := chk4 (.inl (by simp only [decide_eq_false_iff_not] at hc; omega))
    rw [this]
    simp only [go_sem]
  | true =>
    have h0 : 1 ≤ t.first.length ∧ t.first.length ≤ 6 := by simp only [decide_eq_true_eq] at hc; omega
    simp only [go_sem]
    refine ALoop.by (S := Nat) (fun i => [(4, .d (.int .i64 i)), (3, .d (.int .i64 t.first.length)), (1, .ptr 0 0)]) (fun _ => [townB t]) (fun i => t.first.length - i)
      (fun i => i ≤ t.first.length ∧ (∀ j, j < i → nm (t.first.getD j default) = true) ∧ ∀ j k, k < j → j < i → t.first.getD k default ≠ t.first.getD j default) 0 (Nat.zero_le _) (fun _ h => nomatch h) ⟨Nat.zero_le _, fun _ h => by omega, fun _ _ _ h => by omega⟩ (ForgetTo.same' (Nat.zero_le _) ⟨rfl, rfl, rfl, trivial⟩ rfl) ?_
    rintro i ⟨hi, hA, hB⟩ hn
    refine AWP.run (fun _ => false) tt_ok (fun _ h => nomatch h) (Nat.zero_le _) rfl ?_
    simp only [go_sem, townB]
    refine Br_split (fun hd => ?_) (fun hd => ?_) <;> simp only [go_sem, hd]
    · have hlt : i < t.first.length := by simpa using hd
      have hix : idx? (t.first.map D.str) (i : Int) = some (.str (t.first.getD i default)) := by rw [getDG hlt]; simp [idx?, List.getElem?_eq_getElem hlt]
      have hsz : (t.first.getD i default).size ≤ 1000 := by rw [getDG hlt]; exact hfn _ (List.getElem_mem hlt)
      have hnx : IntKind.i64.wrap ((i : Int) + 1) = ((i + 1 : Nat) : Int) := by rw [w64 (by omega) (by omega)]; omega
      have bad := fun e => chk4 (t := t) (.inr (.inl ⟨i, hlt, e⟩))
      have bad2 := fun k hk e => chk4 (t := t) (.inr (.inr ⟨k, i, hk, hlt, e⟩))
      have c28a := c28 (t.first.getD i default) hsz
      have fin : (nm (t.first.getD i default) = true) → (∀ k, k < i → t.first.getD k default ≠ t.first.getD i default) → (∀ j, j < i + 1 → nm (t.first.getD j default) = true) ∧ ∀ j k, k < j → j < i + 1 → t.first.getD k default ≠ t.first.getD j default := fun e1 e2 => by
        refine ⟨fun j hj => ?_, fun j k hk hj => ?_⟩
        · rcases Nat.lt_or_ge j i with h | h
          · exact hA j h
          · rw [show j = i by omega]; exact e1
        · rcases Nat.lt_or_ge j i with h | h
          · exact hB j k hk h
          · rw [show j = i by omega] at hk ⊢; exact e2 k hk
      generalize hz : t.first.getD i default = z at *
      simp only [go_sem, hix]
      refine c28a.call rfl rfl rfl ?_
      cases hm : nm z with
      | false =>
        rw [bad hm]
        simp only [go_sem]
      | true =>
        simp only [go_sem]
        refine ALoop.by (S := Nat) (fun k => [(5, .d (.int .i64 k)), (4, .d (.int .i64 i)), (3, .d (.int .i64 t.first.length)), (1, .ptr 0 0)]) (fun _ => [townB t]) (fun k => i - k)
          (fun k => k ≤ i ∧ ∀ o, o < k → t.first.getD o default ≠ z) 0 (Nat.zero_le _) (fun _ h => nomatch h) ⟨Nat.zero_le _, fun _ h => by omega⟩ (ForgetTo.same' (Nat.zero_le _) ⟨rfl, rfl, rfl, rfl, trivial⟩ rfl) ?_
        rintro k ⟨hk, hC⟩ hn2
        refine AWP.run (fun _ => false) tt_ok (fun _ h => nomatch h) (Nat.zero_le _) rfl ?_
        simp only [go_sem, townB]
        refine Br_split (fun he => ?_) (fun he => ?_) <;> simp only [go_sem, he]
        · have hki : k < i := by simpa using he
          have hkx : idx? (t.first.map D.str) (k : Int) = some (.str (t.first.getD k default)) := by rw [getDG (show k < t.first.length by omega)]; simp [idx?, List.getElem?_eq_getElem (show k < t.first.length by omega)]
          have hnk : IntKind.i64.wrap ((k : Int) + 1) = ((k + 1 : Nat) : Int) := by rw [w64 (by omega) (by omega)]; omega
          refine ADrw.treeG (fun _ => false) tt_ok (by kernel_rfl) (fun k => if k = 1 ∨ k = 6 then some .L else some .S) (.ones [0, 1, 2, 3, 4, 5, 6, 7, 8, 9, 10] .done) (Nat.zero_le _) (fun _ h => nomatch h) rfl rfl (by kernel_rfl) ?_
          simp only [go_sem, hix, hkx, beq_str]
          refine Br_split (fun hf => ?_) (fun hf => ?_) <;> simp only [go_sem, hf]
          · rw [bad2 k hki (by simpa using hf)]
          · simp only [go_sem, hnk]
            refine ⟨k + 1, ⟨by omega, fun o ho => ?_⟩, by omega, ForgetTo.same' (Nat.zero_le _) ⟨rfl, rfl, rfl, rfl, trivial⟩ rfl⟩
            rcases Nat.lt_or_ge o k with h | h
            · exact hC o h
            · rw [show o = k by omega]; simpa using hf
        · have hki : k = i := by simp only [decide_eq_false_iff_not] at he; omega
          simp only [go_sem, hnx]
          exact ⟨i + 1, ⟨hlt, fin hm (hki ▸ hC)⟩, by omega, ForgetTo.same' (Nat.zero_le _) ⟨rfl, rfl, rfl, trivial⟩ rfl⟩
    · have hie : i = t.first.length := by simp only [decide_eq_false_iff_not] at hd; omega
      subst hie
      rw [chkR h0 hA hB]
      simp only [go_sem, List.length_map]
      refine Br_split (fun he => ?_) (fun he => ?_) <;> simp only [go_sem, he]
      · rw [if_pos (by simp only [decide_eq_true_eq] at he; omega)]
      · rw [if_neg (by simp only [decide_eq_false_iff_not] at he; omega)]
        refine ALoop.by (S := Nat) (fun i => [(6, .d (.int .i64 i)), (3, .d (.int .i64 t.first.length)), (1, .ptr 0 0)]) (fun _ => [townB t]) (fun i => t.ch.length - i)
          (fun i => i ≤ t.ch.length ∧ (t.ch.take i).any (fun c => !chgOk t.first.length c) = false) 0 (Nat.zero_le _) (fun _ h => nomatch h) ⟨Nat.zero_le _, rfl⟩ (ForgetTo.same' (Nat.zero_le _) ⟨rfl, rfl, rfl, trivial⟩ rfl) ?_
        rintro j ⟨hj, hx⟩ hn2
        refine AWP.run (fun _ => false) tt_ok (fun _ h => nomatch h) (Nat.zero_le _) rfl ?_
        simp only [go_sem, townB, List.length_map]
        refine Br_split (fun hf => ?_) (fun hf => ?_) <;> simp only [go_sem, hf]
        · have hlt : j < t.ch.length := by simpa using hf
          have hix : idx? (t.ch.map Chg.d) (j : Int) = some t.ch[j].d := by simp [idx?, List.getElem?_eq_getElem hlt]
          have hnj : IntKind.i64.wrap ((j : Int) + 1) = ((j + 1 : Nat) : Int) := by rw [w64 (by omega) (by omega)]; omega
          have c39a := c39 t.ch[j] t.first.length (by omega) (hcn _ (List.getElem_mem hlt))
          have bad : chgOk t.first.length t.ch[j] = false → t.ch.any (fun c => !chgOk t.first.length c) = true := fun e => List.any_eq_true.2 ⟨_, List.getElem_mem hlt, by rw [e]; rfl⟩
          have fin : chgOk t.first.length t.ch[j] = true → (t.ch.take (j + 1)).any (fun c => !chgOk t.first.length c) = false := fun e => by rw [List.take_succ_eq_append_getElem hlt, List.any_append, hx]; simp [e]
          generalize t.ch[j] = c at *
          simp only [go_sem, hix]
          refine c39a.call rfl rfl rfl ?_
          cases hm : chgOk t.first.length c with
          | false =>
            rw [bad hm]
            simp only [go_sem, if_true]
          | true =>
            simp only [go_sem, hnj]
            exact ⟨j + 1, ⟨hlt, fin hm⟩, by omega, ForgetTo.same' (Nat.zero_le _) ⟨rfl, rfl, rfl, trivial⟩ rfl⟩
        · have hje : j = t.ch.length := by simp only [decide_eq_false_iff_not] at hf; omega
          subst hje
          rw [List.take_length] at hx
          rw [hx]
          simp only [go_sem, Bool.false_eq_true, if_false]

theorem c25 (t : Town) (h1 : t.first.length ≤ 1000) (h2 : t.ch.length ≤ 1000) (hfn : ∀ s ∈ t.first, s.size ≤ 1000) (hcn : ∀ c ∈ t.ch, c.name.size ≤ 1000) : PC prog 25 [.d t.d] (.d (.int .i64 (openE t))) := by
  refine PC.run (fun _ => false) tt_ok (fn := f25) (rs := [.tmp 2]) rfl rfl rfl rfl rfl rfl rfl ?_
  simp only [go_sem, Town.d]
  refine (c19 t h1 h2 hfn hcn).call rfl rfl rfl ?_
  by_cases hc : checkT t = 0
  · have hok := checkT_iff.1 hc
    have e2 : openE t = if (nbT t).2.2 ≠ [] then 9 else 0 := by rw [openE, if_neg (by rw [hc]; simp)]
    rw [e2, hc]
    simp only [go_sem]
    have c21a := c21 t hok
    rw [firstV] at c21a
    by_cases hl : (nbT t).2.2 = []
    · rw [if_pos hl] at c21a
      rw [if_neg (by simpa using hl)]
      refine c21a.call rfl rfl rfl ?_
      simp only [go_sem]
    · rw [if_neg hl] at c21a
      rw [if_pos hl]
      refine c21a.call rfl rfl rfl ?_
      have : decide ((nbT t).2.1 ≤ 1000) = true := by
        rcases nbT_spec hok with ⟨k, hk, e, _⟩ | ⟨e, _⟩
        · rw [e]; exact decide_eq_true hk.2
        · rw [e]; rfl
      simp only [go_sem, this]
  · have e2 : openE t = checkT t := by rw [openE, if_pos hc]
    rw [e2]
    have d1 : decide (checkT t = 0) = false := decide_eq_false hc
    simp only [go_sem, d1]
end Go.Aw
end

section
set_option maxRecDepth 100000
namespace Go.Aw
open Go Go.Proofs.Tryz

def allW (t : Town) (l : List ByteArray) (i : Nat) : List ByteArray := (l ++ t.first) ++ (t.ch.take i).map (·.name)
def longB (t : Town) (l : List ByteArray) : Bool :=
  decide (20 < t.first.length) || (decide (20 < t.ch.length) || (decide (20 < l.length) || (allW t l t.ch.length).any fun s => decide (40 < s.size)))

theorem long_fits {t : Town} {l : List ByteArray} (h : longB t l = false) : t.Small ∧ t.first.length ≤ 20 ∧ t.ch.length ≤ 20 ∧ l.length ≤ 20 ∧ (∀ s ∈ t.first, s.size ≤ 40) ∧ (∀ c ∈ t.ch, c.name.size ≤ 40) ∧ ∀ s ∈ l, s.size ≤ 40 := by
  simp only [longB, Bool.or_eq_false_iff, decide_eq_false_iff_not, Nat.not_lt, List.any_eq_false, decide_eq_true_eq, allW, List.take_length, List.mem_append, List.mem_map] at h
  obtain ⟨h1, h2, h3, h4⟩ := h
  have f1 : ∀ s ∈ t.first, s.size ≤ 40 := fun s hs => h4 s (.inl (.inr hs))
  have f2 : ∀ c ∈ t.ch, c.name.size ≤ 40 := fun c hc => h4 _ (.inr ⟨c, hc, rfl⟩)
  exact ⟨⟨by omega, by omega, fun s hs => by have := f1 s hs; omega, fun c hc => by have := f2 c hc; omega⟩, h1, h2, h3, f1, f2, fun s hs => h4 s (.inl (.inl hs))⟩

theorem allW_succ (t : Town) (l : List ByteArray) {i : Nat} (h : i < t.ch.length) : allW t l (i + 1) = allW t l i ++ [t.ch[i].name] := by
  rw [allW, List.take_succ_eq_append_getElem h, List.map_append, ← List.append_assoc]; rfl

theorem c14 (t : Town) (l : List ByteArray) : PC prog 14 [.d t.d, .d (.sl (l.map .str))] (.d (.bool (longB t l))) := by
  refine PC.run (fun k => k == 23) tt_ok (fn := f14) (rs := [.tmp 4]) rfl rfl rfl rfl rfl rfl rfl ?_
  simp only [go_sem, Town.d, List.length_map]
  have hb : ∀ n : Nat, decide ((20 : Int) < (n : Int)) = decide (20 < n) := fun n => by rw [Bool.eq_iff_iff, decide_eq_true_eq, decide_eq_true_eq]; omega
  rw [longB]
  simp only [hb]
  cases d1 : decide (20 < t.first.length) with
  | true => simp only [go_sem, hb, d1, Bool.true_or]
  | false =>
  cases d2 : decide (20 < t.ch.length) with
  | true => simp only [go_sem, hb, d1, d2, Bool.true_or, Bool.false_or, List.length_map]
  | false =>
  simp only [go_sem, hb, d1, d2, Bool.true_or, Bool.false_or, List.length_map]
  have h1 : t.first.length ≤ 20 := by simp only [decide_eq_false_iff_not] at d1; omega
  have h2 : t.ch.length ≤ 20 := by simp only [decide_eq_false_iff_not] at d2; omega
  have s1 := sized_strs t.first
  have s2 := sized_strs l
  cases d3 : decide (20 < l.length) with
  | true =>
    simp only [go_sem, hb, d1, d2, d3, Bool.true_or, Bool.false_or, List.length_map]
    try simp only [go_sem]
  | false =>
  have h3 : l.length ≤ 20 := by simp only [decide_eq_false_iff_not] at d3; omega
  have b1 : t.first.length ≤ 4294967296 := by omega
  have b2 : l.length ≤ 4294967296 := by omega
  have b3 : l.length + t.first.length ≤ 4294967296 := by omega
  have b4 : 0 + l.length + t.first.length ≤ 4294967296 := by omega
  simp only [go_sem, hb, d1, d2, d3, Bool.true_or, Bool.false_or, List.length_map, s1, s2, List.length_nil, List.map_nil, b1, b2, b3]
  try simp only [go_sem, hb, d1, d2, d3, Bool.true_or, Bool.false_or, List.length_map, s1, s2, List.length_nil, List.map_nil, b1, b2, b3]
  simp only [Bool.false_or]
  refine ALoop.by (S := Nat) (fun i => [(6, .d (.int .i64 i)), (5, .ref 1 (allW t l i).length 0 (allW t l i).length), (2, .ptr 0 0)]) (fun i => [townB t, .arr 1 false ((allW t l i).map .str)]) (fun i => t.ch.length - i) (fun i => i ≤ t.ch.length) 0 (Nat.zero_le _) (fun _ h => nomatch h) (Nat.zero_le _) ?_ ?_
  · exact ForgetTo.same' (Nat.zero_le _) (by simp [EWe, Env.look, allW]) (by simp [townB, allW])
  rintro i hi hn
  refine AWP.run (fun _ => false) tt_ok (fun _ h => nomatch h) (Nat.zero_le _) rfl ?_
  simp only [go_sem, townB, List.length_map]
  refine Br_split (fun hd => ?_) (fun hd => ?_) <;> simp only [go_sem, hd]
  · have hlt : i < t.ch.length := by simpa using hd
    have hix : idx? (t.ch.map Chg.d) (i : Int) = some t.ch[i].d := by simp [idx?, List.getElem?_eq_getElem hlt]
    have hcd : t.ch[i].d = .agg [.int .i64 t.ch[i].at', .int .i64 t.ch[i].st, .str t.ch[i].name] := rfl
    have hnx : IntKind.i64.wrap ((i : Int) + 1) = ((i + 1 : Nat) : Int) := by rw [w64 (by omega) (by omega)]; omega
    have hsu := allW_succ t l hlt
    have hln : (allW t l i).length ≤ 60 := by simp [allW]; omega
    have fin : ∀ (A : List ByteArray) (E : Env), A = allW t l (i + 1) → EWe E [(6, .d (.int .i64 ((i + 1 : Nat) : Int))), (5, .ref 1 A.length 0 A.length), (2, .ptr 0 0)] →
        ∃ s', s' ≤ t.ch.length ∧ t.ch.length - s' < t.ch.length - i ∧ ForgetTo 0 E [townB t, .arr 1 false (A.map .str)] [(6, .d (.int .i64 s')), (5, .ref 1 (allW t l s').length 0 (allW t l s').length), (2, .ptr 0 0)] [townB t, .arr 1 false ((allW t l s').map .str)] := fun A E hA hE => by
      subst hA
      exact ⟨i + 1, hlt, by omega, ForgetTo.same' (Nat.zero_le _) hE rfl⟩
    rw [hsu] at fin
    clear hsu
    simp only [townB] at fin
    rw [hcd] at hix
    generalize allW t l i = A at *
    generalize t.ch[i].at' = x1 at *
    generalize t.ch[i].st = x2 at *
    generalize t.ch[i].name = x3 at *
    have s3 : sized 1 [D.str x3] = true := rfl
    have b5 : A.length + 1 ≤ 4294967296 := by omega
    simp only [go_sem, hix, s3, List.length_map, List.length_cons, List.length_nil, b5, hnx]
    have f2 := fun E => fin (A ++ [x3]) E rfl
    simp only [List.map_append, List.map_cons, List.map_nil, List.length_append, List.length_cons, List.length_nil, Nat.zero_add] at f2
    exact f2 _ ⟨rfl, rfl, rfl, trivial⟩
  · have hie : i = t.ch.length := by simp only [decide_eq_false_iff_not] at hd; omega
    subst hie
    have hln : (allW t l t.ch.length).length ≤ 60 := by simp [allW]; omega
    generalize allW t l t.ch.length = A at *
    refine ALoop.by (S := Nat) (fun i => [(7, .d (.int .i64 i)), (5, .ref 1 A.length 0 A.length)]) (fun _ => [townB t, .arr 1 false (A.map .str)]) (fun i => A.length - i)
      (fun i => i ≤ A.length ∧ (A.take i).any (fun s => decide (40 < s.size)) = false) 0 (Nat.zero_le _) (fun _ h => nomatch h) ⟨Nat.zero_le _, rfl⟩ (ForgetTo.same' (Nat.zero_le _) ⟨rfl, rfl, trivial⟩ rfl) ?_
    rintro i ⟨hi, hx⟩ hn2
    refine AWP.run (fun _ => false) tt_ok (fun _ h => nomatch h) (Nat.zero_le _) rfl ?_
    simp only [go_sem, townB, List.length_map]
    refine Br_split (fun he => ?_) (fun he => ?_) <;> simp only [go_sem, he]
    · have hlt : i < A.length := by simpa using he
      have hix : idx? (A.map D.str) (i : Int) = some (.str A[i]) := by simp [idx?, List.getElem?_eq_getElem hlt]
      have hnx : IntKind.i64.wrap ((i : Int) + 1) = ((i + 1 : Nat) : Int) := by rw [w64 (by omega) (by omega)]; omega
      have bad : 40 < A[i].size → A.any (fun s => decide (40 < s.size)) = true := fun e => List.any_eq_true.2 ⟨_, List.getElem_mem hlt, decide_eq_true e⟩
      have fin : ¬ 40 < A[i].size → (A.take (i + 1)).any (fun s => decide (40 < s.size)) = false := fun e => by rw [List.take_succ_eq_append_getElem hlt, List.any_append, hx]; simp; omega
      generalize A[i] = x at *
      have i1 : (0 : Int) ≤ (i : Int) ∧ (i : Int) < (A.length : Int) := by omega
      have hg : (A.map D.str)[i]? = some (.str x) := by simpa [idx?] using hix
      simp only [go_sem, hix, List.length_map, hlt, i1, Int.toNat_natCast, hg]
      refine Br_split (fun hf => ?_) (fun hf => ?_) <;> simp only [go_sem, hf]
      · rw [bad (by simp only [decide_eq_true_eq] at hf; omega)]
      · simp only [go_sem, hnx]
        exact ⟨i + 1, ⟨hlt, fin (by simp only [decide_eq_false_iff_not] at hf; omega)⟩, by omega, ForgetTo.same' (Nat.zero_le _) ⟨rfl, rfl, trivial⟩ rfl⟩
    · have hie : i = A.length := by simp only [decide_eq_false_iff_not] at he; omega
      subst hie
      rw [List.take_length] at hx
      rw [hx]
end Go.Aw
end

section
set_option maxRecDepth 100000
namespace Go.Aw
open Go Go.Proofs

theorem has_int {f : Nat} {y : D} (h : HasT Tryz.prog (f + 1) 3 y) : ∃ n, y = .int .i64 n ∧ (Lit.int .i64 n).wf = true := by
  unfold HasT at h
  rw [Tryz.underlying3] at h
  exact h

theorem has_list {α : Type} {enc : α → D} {p : D → Prop} (he : ∀ y, p y → ∃ s, y = enc s) : ∀ l : List D, (∀ y ∈ l, p y) → ∃ ss : List α, l = ss.map enc
  | [], _ => ⟨[], rfl⟩
  | y :: r, h => by
    obtain ⟨s, rfl⟩ := he y (h y (by simp))
    obtain ⟨ss, rfl⟩ := has_list he r fun z hz => h z (List.mem_cons_of_mem _ hz)
    exact ⟨s :: ss, rfl⟩

theorem has_str {f : Nat} {y : D} (h : HasT Tryz.prog (f + 1) 9 y) : ∃ s, y = .str s := by
  unfold HasT at h
  rw [Tryz.underlying9] at h
  obtain ⟨s, rfl, _⟩ := h
  exact ⟨s, rfl⟩

theorem has_strs {f : Nat} {y : D} (h : HasT Tryz.prog (f + 2) 22 y) : ∃ l : List ByteArray, y = .sl (l.map .str) := by
  unfold HasT at h
  rw [Tryz.underlying22] at h
  obtain ⟨l, rfl, h1, hl⟩ := h
  obtain ⟨ss, rfl⟩ := has_list (fun y hy => has_str (f := f) hy) l hl
  exact ⟨ss, rfl⟩

theorem has_chg {f : Nat} {y : D} (h : HasT Tryz.prog (f + 2) 60 y) : ∃ c : Chg, y = c.d := by
  unfold HasT at h
  rw [Tryz.underlying60] at h
  obtain ⟨l, rfl, h⟩ := h
  simp only [HasFs] at h
  obtain ⟨y1, r1, rfl, h1, y2, r2, rfl, h2, y3, r3, rfl, h3, rfl⟩ := h
  obtain ⟨n1, rfl, _⟩ := has_int h1
  obtain ⟨n2, rfl, _⟩ := has_int h2
  obtain ⟨n3, rfl⟩ := has_str h3
  exact ⟨⟨n1, n2, n3⟩, rfl⟩

theorem has_chgs {f : Nat} {y : D} (h : HasT Tryz.prog (f + 3) 23 y) : ∃ l : List Chg, y = .sl (l.map Chg.d) := by
  unfold HasT at h
  rw [Tryz.underlying23] at h
  obtain ⟨l, rfl, h1, hl⟩ := h
  obtain ⟨ss, rfl⟩ := has_list (fun y hy => has_chg (f := f) hy) l hl
  exact ⟨ss, rfl⟩

theorem has_town {f : Nat} {y : D} (h : HasT Tryz.prog (f + 4) 25 y) : ∃ t : Town, y = t.d := by
  unfold HasT at h
  rw [Tryz.underlying25] at h
  obtain ⟨l, rfl, h⟩ := h
  simp only [HasFs] at h
  obtain ⟨y1, r1, rfl, h1, y2, r2, rfl, h2, rfl⟩ := h
  obtain ⟨a, rfl⟩ := has_strs h1
  obtain ⟨b, rfl⟩ := has_chgs h2
  exact ⟨⟨a, b⟩, rfl⟩
end Go.Aw
end

section
set_option maxRecDepth 100000
namespace Go.Aw
open Go Go.Proofs.Tryz

def nmsD (l : List ByteArray) : D := .sl (l.map .str)
def namesA (t : Town) (n : Nat) : List (List ByteArray) := (List.range n).map fun h : Nat => namesT t h
theorem namesA_succ (t : Town) (n : Nat) : namesA t (n + 1) = namesA t n ++ [namesT t n] := by rw [namesA, List.range_succ, List.map_append]; rfl
theorem namesA_len (t : Town) (n : Nat) : (namesA t n).length = n := by simp [namesA]
theorem namesA_get {t : Town} {n h : Nat} (hh : h < n) : (namesA t n)[h]? = some (namesT t h) := by rw [namesA, List.getElem?_map, List.getElem?_range hh]; rfl

theorem c50 (t : Town) (h1 : t.first.length ≤ 1000) (h2 : t.ch.length ≤ 1000) : PC prog 50 [.d t.d] (.d (.sl ((namesA t 1001).map nmsD))) := by
  refine PC.run (fun k => k == 7 || k == 12) tt_ok (fn := f50) (rs := [.tmp 2]) rfl rfl rfl rfl rfl rfl rfl ?_
  simp only [go_sem, Town.d]
  refine ALoop.by (S := Nat) (fun h => [(4, .d (.int .i64 h)), (3, .ref 1 h 0 h), (1, .ptr 0 0)]) (fun h => [townB t, .arr 1 false ((namesA t h).map nmsD)]) (fun h => 1001 - h) (fun h => h ≤ 1001) 0 (Nat.zero_le _) (fun _ h => nomatch h) (Nat.zero_le _) (ForgetTo.same' (Nat.zero_le _) ⟨rfl, rfl, rfl, trivial⟩ rfl) ?_
  rintro h hh hn
  refine AWP.run (fun k => k == 12) tt_ok (fun _ h => nomatch h) (Nat.zero_le _) rfl ?_
  simp only [go_sem, townB]
  refine Br_split (fun hd => ?_) (fun hd => ?_) <;> simp only [go_sem, hd]
  · have hle : h < 1001 := by simp only [decide_eq_true_eq] at hd; omega
    have hnh : IntKind.i64.wrap ((h : Int) + 1) = ((h + 1 : Nat) : Int) := by rw [w64 (by omega) (by omega)]; omega
    refine ALoop.by (S := Nat) (fun s => [(6, .d (.int .i64 s)), (5, .ref 2 s 0 s), (4, .d (.int .i64 h)), (3, .ref 1 h 0 h), (1, .ptr 0 0)]) (fun s => [townB t, .arr 1 false ((namesA t h).map nmsD), .arr 1 false (((namesT t h).take s).map .str)]) (fun s => t.first.length - s) (fun s => s ≤ t.first.length) 0 (Nat.zero_le _) (fun _ h => nomatch h) (Nat.zero_le _) (ForgetTo.same' (Nat.zero_le _) ⟨rfl, rfl, rfl, rfl, rfl, trivial⟩ rfl) ?_
    rintro s hs hn2
    refine AWP.run (fun _ => false) tt_ok (fun _ h => nomatch h) (Nat.zero_le _) rfl ?_
    simp only [go_sem, townB, List.length_map]
    refine Br_split (fun he => ?_) (fun he => ?_) <;> simp only [go_sem, he]
    · have hlt : s < t.first.length := by simpa using he
      have hns : IntKind.i64.wrap ((s : Int) + 1) = ((s + 1 : Nat) : Int) := by rw [w64 (by omega) (by omega)]; omega
      have c27a := c27 t (by omega) hlt h
      have htk : (namesT t h).take (s + 1) = (namesT t h).take s ++ [calledT t s h] := by
        rw [List.take_succ_eq_append_getElem (by rw [namesT_len]; exact hlt)]
        have := namesT_get (t := t) hlt (h : Int)
        rw [getDG (by rw [namesT_len]; exact hlt)] at this
        rw [this]
      have hl : ((namesT t h).take s).length = s := by rw [List.length_take, namesT_len]; omega
      generalize calledT t s h = c at *
      have s3 : sized 1 [D.str c] = true := rfl
      have b5 : s + 1 ≤ 4294967296 := by omega
      simp only [Town.d] at c27a
      refine c27a.call rfl rfl rfl ?_
      simp only [go_sem, s3, List.length_map, hl, b5, hns]
      refine ⟨s + 1, hlt, by omega, ?_⟩
      rw [htk]
      exact ForgetTo.same' (Nat.zero_le _) ⟨rfl, rfl, rfl, rfl, rfl, trivial⟩ (by simp [townB])
    · have hse : s = t.first.length := by simp only [decide_eq_false_iff_not] at he; omega
      subst hse
      rw [List.take_of_length_le (by rw [namesT_len]; exact Nat.le_refl _)]
      have hNl : (namesT t h).length = t.first.length := namesT_len t h
      have htk : List.take t.first.length ((namesT t h).map D.str) = (namesT t h).map D.str := List.take_of_length_le (by rw [List.length_map, hNl]; exact Nat.le_refl _)
      have s3 : sized 1 [D.sl ((namesT t h).map D.str)] = true := rfl
      have b5 : h + 1 ≤ 4294967296 := by omega
      simp only [go_sem, List.length_map, hNl, htk, s3, b5, namesA_len, hnh]
      refine ⟨h + 1, hle, by omega, ?_⟩
      rw [namesA_succ, List.map_append]
      exact ForgetTo.drop (H0 := [_, _]) (Y := [_]) (Nat.zero_le _) rfl (by simp [BBs, BB, VBs, VB]) ⟨⟨rfl, rfl⟩, ⟨rfl, rfl⟩, ⟨rfl, rfl⟩, trivial⟩
  · have hhe : h = 1001 := by simp only [decide_eq_false_iff_not] at hd; omega
    subst hhe
    simp only [go_sem, List.length_map, namesA_len]
    rw [List.take_of_length_le (by rw [List.length_map, namesA_len]; exact Nat.le_refl _)]

theorem c84 (l : List ByteArray) (hl : l.length ≤ 100000) (s : ByteArray) : PC prog 84 [.d (.sl (l.map .str)), .d (.str s)] (.d (.bool (hasS s l))) := by
  refine PC.run (fun _ => false) tt_ok (fn := f84) (rs := [.tmp 4]) rfl rfl rfl rfl rfl rfl rfl ?_
  simp only [go_sem]
  refine ALoop.by (S := Nat) (fun i => [(5, .d (.int .i64 i)), (1, .d (.str s)), (0, .d (.sl (l.map .str)))]) (fun _ => []) (fun i => l.length - i) (fun i => i ≤ l.length ∧ hasS s (l.take i) = false) 0 (Nat.zero_le _) (fun _ h => nomatch h) ⟨Nat.zero_le _, rfl⟩ (ForgetTo.same' (Nat.zero_le _) ⟨rfl, rfl, rfl, trivial⟩ rfl) ?_
  rintro i ⟨hi, hx⟩ hn
  refine AWP.run (fun _ => false) tt_ok (fun _ h => nomatch h) (Nat.zero_le _) rfl ?_
  simp only [go_sem, List.length_map]
  refine Br_split (fun hd => ?_) (fun hd => ?_) <;> simp only [go_sem, hd]
  · have hlt : i < l.length := by simpa using hd
    have hix : idx? (l.map D.str) (i : Int) = some (.str l[i]) := by simp [idx?, List.getElem?_eq_getElem hlt]
    have hnx : IntKind.i64.wrap ((i : Int) + 1) = ((i + 1 : Nat) : Int) := by rw [w64 (by omega) (by omega)]; omega
    have hit : l[i] = s → hasS s l = true := fun e => hasS_iff.2 (e ▸ List.getElem_mem hlt)
    have nxt : l[i] ≠ s → hasS s (l.take (i + 1)) = false := fun e => by
      rw [List.take_succ_eq_append_getElem hlt, hasS, List.any_append]
      rw [hasS] at hx
      rw [hx]; simp; exact fun h => e h.symm
    generalize l[i] = x at *
    simp only [go_sem, hix, beq_str]
    refine Br_split (fun he => ?_) (fun he => ?_) <;> simp only [go_sem, he]
    · rw [hit (by simpa using he)]
    · simp only [go_sem, hnx]
      exact ⟨i + 1, ⟨hlt, nxt (by simpa using he)⟩, by omega, ForgetTo.same' (Nat.zero_le _) ⟨rfl, rfl, rfl, trivial⟩ rfl⟩
  · have hie : i = l.length := by simp only [decide_eq_false_iff_not] at hd; omega
    subst hie
    rw [List.take_length] at hx
    rw [hx]
end Go.Aw
end

section
set_option maxRecDepth 100000
namespace Go.Aw
open Go Go.Proofs.Tryz

def hisT (t : Town) (s : Nat) (n : Nat) : List Tm := (List.range n).foldl (fun acc (h : Nat) => histS acc (calledT t s h) h h) []
theorem hisT_succ (t : Town) (s n : Nat) : hisT t s (n + 1) = histS (hisT t s n) (calledT t s n) n n := by rw [hisT, List.range_succ, List.foldl_append]; rfl
theorem hisT_len (t : Town) (s : Nat) : ∀ n, (hisT t s n).length ≤ n
  | 0 => Nat.le_refl _
  | n + 1 => by
    rw [hisT_succ]
    have h1 := hisT_len t s n
    have h2 := histS_len (hisT t s n) (calledT t s n) n n
    omega

theorem c34 (t : Town) (h2 : t.ch.length ≤ 1000) {s : Nat} (hs : s < t.first.length) : PC prog 34 [.d t.d, .d (.int .i64 s)] (.d (.sl ((hisT t s 1001).map Tm.d))) := by
  refine PC.run (fun k => k == 9) tt_ok (fn := f34) (rs := [.tmp 4]) rfl rfl rfl rfl rfl rfl rfl ?_
  simp only [go_sem, Town.d]
  refine ALoop.by (S := Nat) (fun h => [(6, .d (.int .i64 h)), (5, .ref 1 (hisT t s h).length 0 (hisT t s h).length), (2, .ptr 0 0), (1, .d (.int .i64 s))]) (fun h => [townB t, .arr 3 false ((hisT t s h).map Tm.d)]) (fun h => 1001 - h) (fun h => h ≤ 1001) 0 (Nat.zero_le _) (fun _ h => nomatch h) (Nat.zero_le _) (ForgetTo.same' (Nat.zero_le _) ⟨rfl, rfl, rfl, rfl, trivial⟩ rfl) ?_
  rintro h hh hn
  refine AWP.run (fun _ => false) tt_ok (fun _ h => nomatch h) (Nat.zero_le _) rfl ?_
  simp only [go_sem, townB]
  refine Br_split (fun hd => ?_) (fun hd => ?_) <;> simp only [go_sem, hd]
  · have hle : h < 1001 := by simp only [decide_eq_true_eq] at hd; omega
    have hnh : IntKind.i64.wrap ((h : Int) + 1) = ((h + 1 : Nat) : Int) := by rw [w64 (by omega) (by omega)]; omega
    have c27a := c27 t (by omega) hs h
    have hsn := hisT_succ t s h
    have hln := hisT_len t s h
    have fin : ∀ acc E, acc = hisT t s (h + 1) → EWe E [(6, .d (.int .i64 ((h + 1 : Nat) : Int))), (5, .ref 1 acc.length 0 acc.length), (2, .ptr 0 0), (1, .d (.int .i64 s))] →
        ∃ s', s' ≤ 1001 ∧ 1001 - s' < 1001 - h ∧ ForgetTo 0 E [.cells [.d (.sl (t.first.map .str)), .d (.sl (t.ch.map Chg.d))], .arr 3 false (acc.map Tm.d)] [(6, .d (.int .i64 s')), (5, .ref 1 (hisT t s s').length 0 (hisT t s s').length), (2, .ptr 0 0), (1, .d (.int .i64 s))] [.cells [.d (.sl (t.first.map .str)), .d (.sl (t.ch.map Chg.d))], .arr 3 false ((hisT t s s').map Tm.d)] := fun acc E hA hE => by
      subst hA
      exact ⟨h + 1, hle, by omega, ForgetTo.same' (Nat.zero_le _) hE rfl⟩
    rw [hsn] at fin
    simp only [Town.d] at c27a
    refine c27a.call rfl rfl rfl ?_
    clear c27a hsn
    generalize calledT t s h = name at *
    generalize hisT t s h = acc at *
    rcases List.eq_nil_or_concat acc with rfl | ⟨ac, y, rfl⟩
    · have fin := fun E => fin _ E rfl
      rw [histS] at fin
      simp only [go_sem, hnh]
      exact fin _ ⟨rfl, rfl, rfl, rfl, trivial⟩
    · rw [List.concat_eq_append] at *
      have hal : ((ac ++ [y]).map Tm.d).length = ac.length + 1 := by simp
      have hl1 : (ac ++ [y]).length = ac.length + 1 := by simp
      have w1 : IntKind.i64.wrap (((ac.length + 1 : Nat) : Int) - 1) = (ac.length : Int) := by rw [w64 (by omega) (by omega)]; omega
      have d0 : decide ((0 : Int) < ((ac.length + 1 : Nat) : Int)) = true := decide_eq_true (by omega)
      have hg : ((ac ++ [y]).map Tm.d)[ac.length]? = some (.agg [.str y.name, .int .i64 y.lo, .int .i64 y.hi]) := by simp [Tm.d]
      have hset : ((ac ++ [y]).map Tm.d).set ac.length (.agg [.str y.name, .int .i64 y.lo, .int .i64 h]) = (ac ++ [(⟨y.name, y.lo, h⟩ : Tm)]).map Tm.d := by simp [Tm.d]
      have c1 : (0 : Int) ≤ (ac.length : Int) := by omega
      have c2 : (ac.length : Int) < ((ac.length + 1 : Nat) : Int) := by omega
      have hhi : histS (ac ++ [y]) name h h = if y.name = name then ac ++ [⟨y.name, y.lo, h⟩] else ac ++ [y] ++ [⟨name, h, h⟩] := by simp [histS]
      rw [hhi] at fin
      simp only [go_sem, hl1, w1, hal, d0, c1, c2, Int.toNat_natCast, hg]
      by_cases hnm : y.name = name
      · rw [if_pos hnm] at fin
        have fin := fun E => fin _ E rfl
        have hll2 : (ac ++ [(⟨y.name, y.lo, h⟩ : Tm)]).length = ac.length + 1 := by simp
        rw [hll2, ← hset] at fin
        have hb1 : (y.name == name) = true := by rw [beq_str, decide_eq_true hnm]
        simp only [go_sem, hb1, hal, c1, c2, w1, Int.toNat_natCast, hg, hnh]
        exact fin _ ⟨rfl, rfl, rfl, rfl, trivial⟩
      · rw [if_neg hnm] at fin
        have fin := fun E => fin _ E rfl
        have hll2 : (ac ++ [y] ++ [(⟨name, h, h⟩ : Tm)]).length = ac.length + 1 + 1 := by simp
        rw [hll2, List.map_append] at fin
        have hb1 : (y.name == name) = false := by rw [beq_str, decide_eq_false hnm]
        generalize (ac ++ [y]).map Tm.d = M at *
        have b5 : ac.length + 1 + 1 ≤ 4294967296 := by omega
        simp only [go_sem, hb1, hal, b5, hnh]
        exact fin _ ⟨rfl, rfl, rfl, rfl, trivial⟩
  · have hhe : h = 1001 := by simp only [decide_eq_false_iff_not] at hd; omega
    subst hhe
    rw [List.take_of_length_le (by rw [List.length_map]; exact Nat.le_refl _)]
end Go.Aw
end

section
set_option maxRecDepth 100000
namespace Go.Aw
open Go Go.Proofs.Tryz

def foldH {α : Type} (G : α → Nat → α) (a : α) (lo : Nat) : Nat → α
  | 0 => a
  | n + 1 => G (foldH G a lo n) (lo + n)

theorem foldH_range {α : Type} (G : α → Nat → α) (a : α) (lo : Nat) : ∀ n, (List.range (lo + n)).foldl G a = foldH G ((List.range lo).foldl G a) lo n
  | 0 => rfl
  | n + 1 => by rw [← Nat.add_assoc, List.range_succ, List.foldl_append, foldH_range G a lo n]; rfl

theorem foldH_congr {α : Type} {G G' : α → Nat → α} (a : α) (lo : Nat) : ∀ n, (∀ k a, lo ≤ k → k < lo + n → G a k = G' a k) → foldH G a lo n = foldH G' a lo n
  | 0, _ => rfl
  | n + 1, h => by rw [foldH, foldH, foldH_congr a lo n fun k a h1 h2 => h k a h1 (by omega)]; exact h _ _ (by omega) (by omega)

def endN (P : List Page) (i : Nat) : Nat := match P[i]? with
  | some p => p.hour.toNat
  | none => 1001

theorem hours_fold {α : Type} {t : Town} (ht : t.Ok) {P : List Page} (hP : PgOk t P) (F : α → Int × Int × List ByteArray → α) (G : α → List ByteArray → Nat → α)
    (hFG : ∀ (a : α) (ns : List ByteArray) (lo n : Nat), lo + n ≤ 1000 → (∀ k, lo ≤ k → k ≤ lo + n → ns = namesT t k) → foldH (fun a h => G a ns h) a lo (n + 1) = F a ((lo : Int), ((lo + n : Nat) : Int), ns)) (a : α) :
    (List.range 1001).foldl (fun a (h : Nat) => G a (namesT t h) h) a = (timesL P).foldl F a := by
  have ha := List.pairwise_iff_getElem.1 hP.asc
  obtain ⟨r, hr⟩ := hP.head
  have key : ∀ i, i ≤ P.length → (List.range (endN P i)).foldl (fun a (h : Nat) => G a (namesT t h) h) a = ((timesL P).take i).foldl F a := by
    intro i
    induction i with
    | zero =>
      intro _
      have : endN P 0 = 0 := by rw [endN, hr]; rfl
      rw [this]; rfl
    | succ i ih =>
      intro hi
      have hil : i < P.length := by omega
      have hlo : endN P i = P[i].hour.toNat := by rw [endN, List.getElem?_eq_getElem hil]
      have hb := hP.hrs _ (List.getElem_mem hil)
      have hhi : endN P i < endN P (i + 1) ∧ endN P (i + 1) ≤ 1001 ∧ hiP (P.drop (i + 1)) = ((endN P (i + 1) : Nat) : Int) - 1 ∧ ∀ h3 : i + 1 < P.length, P[i + 1].hour = ((endN P (i + 1) : Nat) : Int) := by
        rcases Nat.lt_or_ge (i + 1) P.length with h | h
        · have e : endN P (i + 1) = P[i + 1].hour.toNat := by rw [endN, List.getElem?_eq_getElem h]
          have hb2 := hP.hrs _ (List.getElem_mem h)
          have := ha i (i + 1) hil h (by omega)
          refine ⟨by omega, by omega, ?_, fun _ => by omega⟩
          rw [List.drop_eq_getElem_cons h, hiP]; omega
        · have e : endN P (i + 1) = 1001 := by rw [endN, List.getElem?_eq_none h]
          refine ⟨by omega, by omega, ?_, fun h3 => by omega⟩
          rw [List.drop_eq_nil_of_le h, e]; rfl
      obtain ⟨h1, h2, h3, h4⟩ := hhi
      obtain ⟨n, hn⟩ : ∃ n, endN P (i + 1) = endN P i + (n + 1) := ⟨endN P (i + 1) - endN P i - 1, by omega⟩
      have hT : i < (timesL P).length := by rw [timesL_len]; exact hil
      rw [hn, foldH_range, ih (by omega), List.take_succ_eq_append_getElem hT, List.foldl_append, List.foldl_cons, List.foldl_nil, timesL_get P i hil, h3, hn]
      have hnm : ∀ k : Nat, endN P i ≤ k → k ≤ endN P i + n → P[i].names = namesT t k := fun k k1 k2 => page_names ht hP hil (by omega) fun h5 => by have := h4 h5; omega
      rw [foldH_congr (G' := fun a h => G a P[i].names h) _ _ _ fun k a k1 k2 => by rw [← hnm k k1 (by omega)], hFG _ _ _ _ (by omega) hnm]
      congr 1
      rw [hlo]
      refine Prod.ext ?_ (Prod.ext ?_ rfl)
      · show ((P[i].hour.toNat : Nat) : Int) = P[i].hour; omega
      · show ((P[i].hour.toNat + n : Nat) : Int) = ((P[i].hour.toNat + (n + 1) : Nat) : Int) - 1; omega
  have := key P.length (Nat.le_refl _)
  rw [List.take_of_length_le (by rw [timesL_len]; exact Nat.le_refl _)] at this
  rw [← this, endN, List.getElem?_eq_none (Nat.le_refl _)]

/-- One name in some hours, one after another. -/
theorem histS_run (acc : List Tm) (name : ByteArray) (lo : Nat) : ∀ n : Nat, foldH (fun a h => histS a name (h : Int) (h : Int)) acc lo (n + 1) = histS acc name lo ((lo + n : Nat) : Int)
  | 0 => rfl
  | n + 1 => by
    rw [foldH, histS_run acc name lo n]
    rcases List.eq_nil_or_concat acc with rfl | ⟨ac, y, rfl⟩
    · simp [histS]
    · rw [List.concat_eq_append]
      by_cases h : y.name = name
      · simp [histS, h]
      · simp [histS, h]

theorem hist_eq {t : Town} (ht : t.Ok) {P : List Page} (hP : PgOk t P) {s : Nat} (hs : s < t.first.length) : hisT t s 1001 = histP s (timesL P) := by
  have := hours_fold ht hP (fun acc x => histS acc (x.2.2.getD s default) x.1 x.2.1) (fun acc ns h => histS acc (ns.getD s default) (h : Int) (h : Int)) (fun a ns lo n _ _ => histS_run a _ lo n) []
  rw [histP, ← this, hisT]
  simp only [namesT_get hs]
end Go.Aw
end

section
set_option maxRecDepth 100000
namespace Go.Aw
open Go Go.Proofs.Tryz

theorem less_cmp : ∀ a b : List UInt8, Op.bytesLess a b = decide (Lib.compareBytes a b < 0)
  | [], [] => rfl
  | [], _ :: _ => rfl
  | _ :: _, [] => rfl
  | a :: x, b :: y => by
    rw [Op.bytesLess, Lib.compareBytes, less_cmp x y]
    by_cases h1 : a < b
    · simp [h1]
    · rw [if_neg h1]
      by_cases h2 : b < a
      · rw [if_pos h2]
        have : a ≠ b := fun e => by subst e; exact h1 h2
        simp [h1, this]
      · rw [if_neg h2]
        have : a = b := UInt8.le_antisymm (UInt8.not_lt.1 h2) (UInt8.not_lt.1 h1)
        simp [this, h1]

theorem bin_lssS {ty : Ty} {a b : ByteArray} {H : Heap} {K : V → Heap → Prop} : evBin .lss ty (.d (.str a)) (.d (.str b)) H K = K (.d (.bool (ltS a b))) H := by
  have : Op.bytesLess a.toList b.toList = ltS a b := by rw [less_cmp, ByteArray.toList_eq, ByteArray.toList_eq]; rfl
  simp [evBin, abin, Som, this]

/-- Sorted up to a place. -/
def SrtTo (l : List ByteArray) (i : Nat) : Prop := ∀ p q, p < q → q < i → ltS (l.getD q default) (l.getD p default) = false

theorem srt_sorted {l : List ByteArray} (h : SrtTo l l.length) : SortedG ltS l := by
  rw [SortedG, List.pairwise_iff_getElem]
  intro i j hi hj hij
  have := h i j hij hj
  rwa [getDG hi, getDG hj] at this

theorem getD_set {l : List ByteArray} {i : Nat} (hi : i < l.length) (x : ByteArray) (j : Nat) : (l.set i x).getD j default = if j = i then x else l.getD j default := by
  rw [List.getD_eq_getElem?_getD, List.getD_eq_getElem?_getD, List.getElem?_set]
  by_cases h : i = j
  · subst h; simp [hi]
  · rw [if_neg h, if_neg (fun e => h e.symm)]

/-- Two places swapped. -/
def swp (l : List ByteArray) (i k : Nat) : List ByteArray := (l.set i (l.getD k default)).set k (l.getD i default)

theorem swp_get {l : List ByteArray} {i k : Nat} (hi : i < l.length) (hk : k < l.length) (j : Nat) : (swp l i k).getD j default = if j = k then l.getD i default else if j = i then l.getD k default else l.getD j default := by
  rw [swp, getD_set (by simpa using hk), getD_set hi]

local instance : LawfulBEq ByteArray where
  eq_of_beq h := by rw [beq_str] at h; exact of_decide_eq_true h
  rfl := by intro a; rw [beq_str]; exact decide_eq_true rfl

theorem swp_perm {l : List ByteArray} {i k : Nat} (hi : i < l.length) (hk : k < l.length) : (swp l i k).Perm l := by
  rw [List.perm_iff_count]
  intro a
  have e1 : l.getD k default = l[k] := getDG hk
  have e2 : l.getD i default = l[i] := getDG hi
  rw [swp, e1, e2, List.count_set (by simpa using hk), List.count_set hi]
  by_cases h : i = k
  · subst h
    simp only [List.getElem_set_self, beq_iff_eq]
    have := List.count_pos_iff.2 (List.getElem_mem hi)
    by_cases h2 : l[i] = a
    · subst h2; simp
    · simp [h2]
  · rw [List.getElem_set_ne h]
    simp only [beq_iff_eq]
    have p1 := List.count_pos_iff.2 (List.getElem_mem hi)
    have p2 := List.count_pos_iff.2 (List.getElem_mem hk)
    by_cases h1 : l[i] = a <;> by_cases h2 : l[k] = a
    · simp only [h1, h2, if_true]; rw [h1] at p1; omega
    · simp only [h1, h2, if_true, if_false]; rw [h1] at p1; omega
    · simp only [h1, h2, if_true, if_false]; rw [h2] at p2; omega
    · simp only [h1, h2, if_false]; omega

/-- One step of the inner loop. -/
theorem srt_step {l : List ByteArray} {i k : Nat} (hi : i < l.length) (hk : k < i) (h1 : SrtTo l i) (h2 : ∀ j, j < k → ltS (l.getD i default) (l.getD j default) = false) (h : ltS (l.getD i default) (l.getD k default) = true) :
    SrtTo (swp l i k) i ∧ ∀ j, j < k + 1 → ltS ((swp l i k).getD i default) ((swp l i k).getD j default) = false := by
  have hkl : k < l.length := by omega
  have g := swp_get hi hkl
  have gi : (swp l i k).getD i default = l.getD k default := by rw [g, if_neg (by omega), if_pos rfl]
  have gk : (swp l i k).getD k default = l.getD i default := by rw [g, if_pos rfl]
  have go : ∀ j, j ≠ i → j ≠ k → (swp l i k).getD j default = l.getD j default := fun j a b => by rw [g, if_neg b, if_neg a]
  refine ⟨fun p q hpq hqi => ?_, fun j hj => ?_⟩
  · by_cases ep : p = k
    · subst ep
      rw [gk, go q (by omega) (by omega)]
      exact ltS_ok.trans _ _ _ (ltS_ok.asym _ _ h) (h1 p q hpq hqi)
    · by_cases eq : q = k
      · subst eq
        rw [gk, go p (by omega) ep]
        exact h2 p hpq
      · rw [go p (by omega) ep, go q (by omega) eq]
        exact h1 p q hpq hqi
  · rw [gi]
    by_cases ej : j = k
    · subst ej; rw [gk]; exact ltS_ok.asym _ _ h
    · rw [go j (by omega) ej]; exact h1 j k (by omega) hk

theorem srt_next {l : List ByteArray} {i : Nat} (h1 : SrtTo l i) (h2 : ∀ j, j < i → ltS (l.getD i default) (l.getD j default) = false) : SrtTo l (i + 1) := fun p q hpq hq => by
  rcases Nat.lt_or_ge q i with h | h
  · exact h1 p q hpq h
  · rw [show q = i by omega] at hpq ⊢; exact h2 p hpq

theorem srt_is {l o : List ByteArray} (hp : l.Perm o) (ho : o.Nodup) (h : SrtTo l l.length) : l = sortG ltS o :=
  sortS_ext (srt_sorted h) (sortG_sorted ltS_ok o) (hp.nodup_iff.2 ho) (sortG_nodup ltS o ho) fun x => by rw [hp.mem_iff, sortG_mem]
end Go.Aw
end

section
set_option maxRecDepth 100000
namespace Go.Aw
open Go Go.Proofs.Tryz

def agT (t : Town) (n : Nat) : AgS := (List.range n).foldl (fun a (h : Nat) => agS a (namesT t h)) ⟨[], [], none⟩
theorem agT_succ (t : Town) (n : Nat) : agT t (n + 1) = agS (agT t n) (namesT t n) := by rw [agT, List.range_succ, List.foldl_append]; rfl
theorem agT_before (t : Town) (n : Nat) : (agT t (n + 1)).before = some (namesT t n) := by rw [agT_succ]; rfl

theorem beF_in : ∀ (ns b : List ByteArray), (∀ x ∈ ns, x ∈ b) → beF b ns = b
  | [], _, _ => rfl
  | x :: ns, b, h => by
    have : insS b x = b := by rw [insS, if_pos (hasS_iff.2 (h x (by simp)))]
    rw [beF, List.foldl_cons, this]
    exact beF_in ns b fun y hy => h y (List.mem_cons_of_mem _ hy)

theorem beF_has : ∀ (ns b : List ByteArray) (x : ByteArray), x ∈ b ∨ x ∈ ns → x ∈ beF b ns
  | [], _, _, h => by rcases h with h | h; exact h; cases h
  | y :: ns, b, x, h => by
    rw [beF, List.foldl_cons]
    refine beF_has ns (insS b y) x ?_
    rw [insS_mem]
    rcases h with h | h
    · exact .inl (.inl h)
    · rcases List.mem_cons.1 h with rfl | h
      · exact .inl (.inr rfl)
      · exact .inr h

theorem beF_all : ∀ (ns b : List ByteArray), (b ++ ns).Nodup → beF b ns = b ++ ns
  | [], b, _ => by simp [beF]
  | y :: ns, b, h => by
    have hy : hasS y b = false := by
      cases hb : hasS y b with
      | false => rfl
      | true =>
        have := List.nodup_append.1 h
        exact absurd rfl (this.2.2 y (hasS_iff.1 hb) y (by simp))
    rw [beF, List.foldl_cons, insS, hy]
    simp only [Bool.false_eq_true, if_false]
    have := beF_all ns (b ++ [y]) (by rw [List.append_assoc]; exact h)
    rw [List.append_assoc] at this
    exact this

theorem agF_same (been ns ag : List ByteArray) : ∀ k, agF been (some ns) ns ag k = ag
  | 0 => rfl
  | k + 1 => by rw [agF_succ, agF_same been ns ag k, newS]; simp

theorem agS_twice (a : AgS) (ns : List ByteArray) : agS (agS a ns) ns = agS a ns := by
  rw [agS, agS]
  simp only [agF_same]
  rw [beF_in ns _ fun x hx => beF_has ns _ x (.inr hx)]

theorem agS_run (a : AgS) (ns : List ByteArray) (lo : Nat) : ∀ n, foldH (fun a _ => agS a ns) a lo (n + 1) = agS a ns
  | 0 => rfl
  | n + 1 => by rw [foldH, agS_run a ns lo n, agS_twice]

theorem agT_eq {t : Town} (ht : t.Ok) {P : List Page} (hP : PgOk t P) : agT t 1001 = againL (timesL P) :=
  hours_fold ht hP (fun a x => agS a x.2.2) (fun a ns _ => agS a ns) (fun a ns lo n _ _ => agS_run a ns lo n) _

theorem first_nodup {t : Town} (ht : t.Ok) : t.first.Nodup := by
  refine List.pairwise_iff_getElem.2 fun i j hi hj hij e => ?_
  have h1 : i ∈ twinsP t.first := List.mem_filter.2 ⟨List.mem_range.2 hi, decide_eq_true ((count_two t.first i hi).2 ⟨j, hj, by omega, by rw [getDG hi, getDG hj]; exact e.symm⟩)⟩
  rw [ht.one] at h1; cases h1

theorem names_0 {t : Town} (ht : t.Ok) {P : List Page} (hP : PgOk t P) : namesT t 0 = t.first := by
  obtain ⟨r, hr⟩ := hP.head
  have := hP.nms ⟨0, t.first⟩ (by rw [hr]; simp)
  exact this.symm

theorem agT_1 {t : Town} (ht : t.Ok) {P : List Page} (hP : PgOk t P) : agT t 1 = ⟨t.first, [], some t.first⟩ := by
  have hk : ∀ k, agF [] none t.first [] k = [] := fun k => by
    induction k with
    | zero => rfl
    | succ k ih => rw [agF_succ, ih]; simp [hasS]
  have h0 := names_0 ht hP
  rw [agT_succ]
  show agS ⟨[], [], none⟩ (namesT t 0) = _
  rw [h0, agS]
  simp only [hk]
  rw [beF_all t.first [] (by simpa using first_nodup ht)]; rfl

theorem agT_lens (t : Town) : ∀ n, (agT t n).been.length ≤ t.first.length * n ∧ (agT t n).again.length ≤ t.first.length * n
  | 0 => ⟨Nat.zero_le _, Nat.zero_le _⟩
  | n + 1 => by
    obtain ⟨h1, h2⟩ := agT_lens t n
    have hb : ∀ (ns b : List ByteArray), (beF b ns).length ≤ b.length + ns.length := fun ns => by
      induction ns with
      | nil => intro b; exact Nat.le_refl _
      | cons y ns ih =>
        intro b
        have h3 := ih (insS b y)
        have h4 := insS_len b y
        rw [beF, List.foldl_cons, ← beF, List.length_cons]
        omega
    rw [agT_succ, Nat.mul_succ]
    have h3 := hb (namesT t n) (agT t n).been
    have h4 := agF_len (been := (agT t n).been) (names := namesT t n) (before := (agT t n).before) (again := (agT t n).again) (namesT t n).length
    rw [namesT_len] at h3 h4
    exact ⟨by show (beF _ _).length ≤ _; omega, by show (agF _ _ _ _ _).length ≤ _; rw [namesT_len]; omega⟩
end Go.Aw
end

section
set_option maxRecDepth 100000
namespace Go.Aw
open Go Go.Proofs.Tryz

abbrev post32 (t : Town) : Ex → Env → Heap → Prop := FnPost Tt [.tmp 2] 0 fun r H' => H' = [] ∧ r = .d (.sl ((sortG ltS (agT t 1001).again).map .str))

theorem beF_len : ∀ (ns b : List ByteArray), (beF b ns).length ≤ b.length + ns.length
  | [], b => Nat.le_refl _
  | y :: ns, b => by
    have h3 := beF_len ns (insS b y)
    have h4 := insS_len b y
    rw [beF, List.foldl_cons, ← beF, List.length_cons]
    omega

def h32_1 (t : Town) (b o : List ByteArray) : Heap := [townB t, .arr 1 false ((⟨b, o, none⟩ : AgS).been.map .str), .arr 1 false ((⟨b, o, none⟩ : AgS).again.map .str)]
def e32_1 (t : Town) (b o : List ByteArray) : Env := [(5, .ref 2 o.length 0 o.length), (4, .ref 1 b.length 0 b.length), (3, .d (.sl ((namesA t 1001).map nmsD))), (1, .ptr 0 0)]

theorem c32_b_1 {t : Town} (ht : t.Ok) {P : List Page} (hP : PgOk t P)
    (hrest : AWP prog f32.ntmps 0 none (restC 1 (restC 2 (bodyOf f32))) [(5, .ref 2 (agT t 1001).again.length 0 (agT t 1001).again.length)] (h32_1 t (agT t 1001).been (agT t 1001).again) (post32 t)) :
    AWP prog f32.ntmps 0 none (restC 2 (bodyOf f32)) (e32_1 t t.first []) (h32_1 t t.first []) (post32 t) := by
  refine AWP.stepN 1 _ _ (fun _ => false) tt_ok (fun _ h => nomatch h) (Nat.zero_le _) rfl ?_ hrest
  clear hrest
  have hl6 := ht.len.2
  have h1e := agT_1 ht hP
  simp only [e32_1, h32_1]
  simp only [go_sem]
  refine ALoop.by (S := Nat) (fun g => (6, .d (.int .i64 ((g + 1 : Nat) : Int))) :: e32_1 t (agT t (g + 1)).been (agT t (g + 1)).again) (fun g => h32_1 t (agT t (g + 1)).been (agT t (g + 1)).again) (fun g => 1000 - g) (fun g => g ≤ 1000) 0 (Nat.zero_le _) (fun _ h => nomatch h) (Nat.zero_le _) ?_ ?_
  · rw [h1e]; exact ForgetTo.same' (Nat.zero_le _) ⟨rfl, rfl, rfl, rfl, rfl, trivial⟩ rfl
  rintro g hg hn
  refine AWP.run (fun _ => false) tt_ok (fun _ h => nomatch h) (Nat.zero_le _) rfl ?_
  simp only [e32_1, h32_1]
  simp only [go_sem, townB]
  refine Br_split (fun hd => ?_) (fun hd => ?_) <;> simp only [go_sem, hd]
  · have hlt : g < 1000 := by simp only [decide_eq_true_eq] at hd; omega
    have hnx : IntKind.i64.wrap (((g + 1 : Nat) : Int) + 1) = ((g + 1 + 1 : Nat) : Int) := by rw [w64 (by omega) (by omega)]; omega
    have hpv : IntKind.i64.wrap (((g + 1 : Nat) : Int) - 1) = (g : Int) := by rw [w64 (by omega) (by omega)]; omega
    have hi1 : idx? ((namesA t 1001).map nmsD) ((g + 1 : Nat) : Int) = some (.sl ((namesT t ((g + 1 : Nat) : Int)).map .str)) := by rw [idx_nat, List.getElem?_map, namesA_get (by omega)]; rfl
    have hi0 : idx? ((namesA t 1001).map nmsD) (g : Int) = some (.sl ((namesT t (g : Int)).map .str)) := by rw [idx_nat, List.getElem?_map, namesA_get (by omega)]; rfl
    have hbf := agT_before t g
    have hsu := agT_succ t (g + 1)
    have hlen := agT_lens t (g + 1)
    have hll : t.first.length * (g + 1) ≤ 6 * 1001 := Nat.mul_le_mul hl6 (by omega)
    have hN := namesT_len t ((g + 1 : Nat) : Int)
    have hM := namesT_len t (g : Int)
    have fin : ∀ b o E, b = (agT t (g + 1 + 1)).been → o = (agT t (g + 1 + 1)).again → EWe E ((6, .d (.int .i64 ((g + 1 + 1 : Nat) : Int))) :: e32_1 t b o) →
        ∃ s', s' ≤ 1000 ∧ 1000 - s' < 1000 - g ∧ ForgetTo 0 E (h32_1 t b o) ((6, .d (.int .i64 ((s' + 1 : Nat) : Int))) :: e32_1 t (agT t (s' + 1)).been (agT t (s' + 1)).again) (h32_1 t (agT t (s' + 1)).been (agT t (s' + 1)).again) := fun b o E h1 h2 hE => by
      subst h1 h2
      exact ⟨g + 1, hlt, by omega, ForgetTo.same' (Nat.zero_le _) hE rfl⟩
    rw [hsu, agS, hbf] at fin
    simp only [e32_1, h32_1, townB] at fin
    rw [hN] at fin
    generalize hNA : (namesA t 1001).map nmsD = NA at *
    generalize namesT t ((g + 1 : Nat) : Int) = N at *
    generalize namesT t (g : Int) = M at *
    generalize (agT t (g + 1)).been = b at *
    generalize (agT t (g + 1)).again = o at *
    have hb1 : b.length ≤ 6006 := by omega
    have ho1 : o.length ≤ 6006 := by omega
    have hb2 : List.take b.length (b.map D.str) = b.map D.str := List.take_of_length_le (by simp)
    have hagl := fun k => agF_len (been := b) (names := N) (before := some M) (again := o) k
    refine ALoop.by (S := Nat) (fun s => [(7, .d (.int .i64 s)), (6, .d (.int .i64 ((g + 1 : Nat) : Int))), (5, .ref 2 (agF b (some M) N o s).length 0 (agF b (some M) N o s).length), (4, .ref 1 b.length 0 b.length), (3, .d (.sl NA)), (1, .ptr 0 0)])
      (fun s => h32_1 t b (agF b (some M) N o s)) (fun s => t.first.length - s) (fun s => s ≤ t.first.length) 0 (Nat.zero_le _) (fun _ h => nomatch h) (Nat.zero_le _) (ForgetTo.same' (Nat.zero_le _) ⟨rfl, rfl, rfl, rfl, rfl, rfl, trivial⟩ rfl) ?_
    rintro s hs hn2
    refine AWP.run (fun _ => false) tt_ok (fun _ h => nomatch h) (Nat.zero_le _) rfl ?_
    simp only [h32_1]
    simp only [go_sem, townB, List.length_map]
    refine Br_split (fun he => ?_) (fun he => ?_) <;> simp only [go_sem, he]
    · have hsl : s < t.first.length := by simpa using he
      have hns : IntKind.i64.wrap ((s : Int) + 1) = ((s + 1 : Nat) : Int) := by rw [w64 (by omega) (by omega)]; omega
      have hj1 : idx? (N.map D.str) (s : Int) = some (.str (N.getD s default)) := by rw [getDG (by omega)]; simp [idx?, List.getElem?_eq_getElem (show s < N.length by omega)]
      have hj0 : idx? (M.map D.str) (s : Int) = some (.str (M.getD s default)) := by rw [getDG (by omega)]; simp [idx?, List.getElem?_eq_getElem (show s < M.length by omega)]
      have hag := agF_succ b (some M) N o s
      have fin2 : ∀ q E, q = agF b (some M) N o (s + 1) → EWe E [(7, .d (.int .i64 ((s + 1 : Nat) : Int))), (6, .d (.int .i64 ((g + 1 : Nat) : Int))), (5, .ref 2 q.length 0 q.length), (4, .ref 1 b.length 0 b.length), (3, .d (.sl NA)), (1, .ptr 0 0)] →
          ∃ s', s' ≤ t.first.length ∧ t.first.length - s' < t.first.length - s ∧ ForgetTo 0 E (h32_1 t b q) [(7, .d (.int .i64 s')), (6, .d (.int .i64 ((g + 1 : Nat) : Int))), (5, .ref 2 (agF b (some M) N o s').length 0 (agF b (some M) N o s').length), (4, .ref 1 b.length 0 b.length), (3, .d (.sl NA)), (1, .ptr 0 0)] (h32_1 t b (agF b (some M) N o s')) := fun q E hq hE => by
        subst hq
        exact ⟨s + 1, hsl, by omega, ForgetTo.same' (Nat.zero_le _) hE rfl⟩
      rw [hag, newS] at fin2
      simp only [h32_1, townB] at fin2
      have hol := hagl s
      generalize agF b (some M) N o s = q at *
      generalize N.getD s default = x at *
      generalize M.getD s default = y at *
      have hq1 : q.length ≤ 7000 := by omega
      have hq2 : List.take q.length (q.map D.str) = q.map D.str := List.take_of_length_le (by simp)
      have c84b := c84 b (by omega) x
      have c84q := c84 q (by omega) x
      have sx : sized 1 [D.str x] = true := rfl
      have bq : q.length + 1 ≤ 4294967296 := by omega
      simp only [go_sem, hi1, hj1, hpv, hi0, hj0, beq_str]
      by_cases hxy : x = y
      · have d1 : decide (x = y) = true := decide_eq_true hxy
        rw [decide_eq_true hxy.symm] at fin2
        simp only [Bool.not_true, Bool.false_and, Bool.false_eq_true, if_false] at fin2
        simp only [go_sem, d1, hns]
        exact fin2 _ _ rfl ⟨rfl, rfl, rfl, rfl, rfl, rfl, trivial⟩
      · have d1 : decide (x = y) = false := decide_eq_false hxy
        rw [decide_eq_false (show ¬ y = x from fun e => hxy e.symm)] at fin2
        simp only [Bool.not_false, Bool.true_and] at fin2
        simp only [go_sem, d1]
        refine c84b.callL rfl (by simp [pubVs, pubV, dz, hb2]) rfl ?_
        cases hh1 : hasS x b with
        | false =>
          rw [hh1] at fin2
          simp only [Bool.false_eq_true, if_false] at fin2
          simp only [go_sem, hns]
          exact fin2 _ _ rfl ⟨rfl, rfl, rfl, rfl, rfl, rfl, trivial⟩
        | true =>
          rw [hh1] at fin2
          simp only [if_true, insS] at fin2
          simp only [go_sem]
          refine c84q.callL rfl (by simp [pubVs, pubV, dz, hq2]) rfl ?_
          cases hh2 : hasS x q with
          | true =>
            rw [hh2] at fin2
            simp only [if_true] at fin2
            simp only [go_sem, hns]
            exact fin2 _ _ rfl ⟨rfl, rfl, rfl, rfl, rfl, rfl, trivial⟩
          | false =>
            rw [hh2] at fin2
            simp only [Bool.false_eq_true, if_false] at fin2
            have f2 := fun E => fin2 _ E rfl
            simp only [List.map_append, List.map_cons, List.map_nil, List.length_append, List.length_cons, List.length_nil, Nat.zero_add] at f2
            simp only [go_sem, sx, List.length_map, bq, hns]
            exact f2 _ ⟨rfl, rfl, rfl, rfl, rfl, rfl, trivial⟩
    · have hse : s = t.first.length := by simp only [decide_eq_false_iff_not] at he; omega
      subst hse
      generalize agF b (some M) N o t.first.length = q at *
      have hbel : ∀ s, s ≤ t.first.length → (beF b (N.take s)).length ≤ b.length + s := fun s hs => by
        have := beF_len (N.take s) b
        rw [List.length_take] at this; omega
      refine ALoop.by (S := Nat) (fun s => [(9, .d (.int .i64 s)), (6, .d (.int .i64 ((g + 1 : Nat) : Int))), (5, .ref 2 q.length 0 q.length), (4, .ref 1 (beF b (N.take s)).length 0 (beF b (N.take s)).length), (3, .d (.sl NA)), (1, .ptr 0 0)])
        (fun s => h32_1 t (beF b (N.take s)) q) (fun s => t.first.length - s) (fun s => s ≤ t.first.length) 0 (Nat.zero_le _) (fun _ h => nomatch h) (Nat.zero_le _) (ForgetTo.same' (Nat.zero_le _) ⟨rfl, rfl, rfl, rfl, rfl, rfl, trivial⟩ rfl) ?_
      rintro s hs hn2
      refine AWP.run (fun _ => false) tt_ok (fun _ h => nomatch h) (Nat.zero_le _) rfl ?_
      simp only [h32_1]
      simp only [go_sem, townB, List.length_map]
      refine Br_split (fun he => ?_) (fun he => ?_) <;> simp only [go_sem, he]
      · have hsl : s < t.first.length := by simpa using he
        have hns : IntKind.i64.wrap ((s : Int) + 1) = ((s + 1 : Nat) : Int) := by rw [w64 (by omega) (by omega)]; omega
        have hj1 : idx? (N.map D.str) (s : Int) = some (.str (N.getD s default)) := by rw [getDG (by omega)]; simp [idx?, List.getElem?_eq_getElem (show s < N.length by omega)]
        have hbs : beF b (N.take (s + 1)) = insS (beF b (N.take s)) (N.getD s default) := by
          rw [List.take_succ_eq_append_getElem (by omega), beF, List.foldl_append, getDG (show s < N.length by omega)]; rfl
        have fin2 : ∀ w E, w = beF b (N.take (s + 1)) → EWe E [(9, .d (.int .i64 ((s + 1 : Nat) : Int))), (6, .d (.int .i64 ((g + 1 : Nat) : Int))), (5, .ref 2 q.length 0 q.length), (4, .ref 1 w.length 0 w.length), (3, .d (.sl NA)), (1, .ptr 0 0)] →
            ∃ s', s' ≤ t.first.length ∧ t.first.length - s' < t.first.length - s ∧ ForgetTo 0 E (h32_1 t w q) [(9, .d (.int .i64 s')), (6, .d (.int .i64 ((g + 1 : Nat) : Int))), (5, .ref 2 q.length 0 q.length), (4, .ref 1 (beF b (N.take s')).length 0 (beF b (N.take s')).length), (3, .d (.sl NA)), (1, .ptr 0 0)] (h32_1 t (beF b (N.take s')) q) := fun w E hw hE => by
          subst hw
          exact ⟨s + 1, hsl, by omega, ForgetTo.same' (Nat.zero_le _) hE rfl⟩
        rw [hbs] at fin2
        simp only [h32_1, townB, insS] at fin2
        have hwl := hbel s (by omega)
        generalize beF b (N.take s) = w at *
        generalize N.getD s default = x at *
        have hw2 : List.take w.length (w.map D.str) = w.map D.str := List.take_of_length_le (by simp)
        have c84w := c84 w (by omega) x
        have sx : sized 1 [D.str x] = true := rfl
        have bw : w.length + 1 ≤ 4294967296 := by omega
        simp only [go_sem, hi1, hj1]
        refine c84w.callL rfl (by simp [pubVs, pubV, dz, hw2]) rfl ?_
        cases hh1 : hasS x w with
        | true =>
          rw [hh1] at fin2
          simp only [if_true] at fin2
          simp only [go_sem, hns]
          exact fin2 _ _ rfl ⟨rfl, rfl, rfl, rfl, rfl, rfl, trivial⟩
        | false =>
          rw [hh1] at fin2
          simp only [Bool.false_eq_true, if_false] at fin2
          have f2 := fun E => fin2 _ E rfl
          simp only [List.map_append, List.map_cons, List.map_nil, List.length_append, List.length_cons, List.length_nil, Nat.zero_add] at f2
          simp only [go_sem, hi1, hj1, sx, List.length_map, bw, hns]
          exact f2 _ ⟨rfl, rfl, rfl, rfl, rfl, rfl, trivial⟩
      · have hse : s = t.first.length := by simp only [decide_eq_false_iff_not] at he; omega
        subst hse
        rw [List.take_of_length_le (by omega)]
        simp only [go_sem, hnx]
        refine fin _ _ _ rfl rfl ?_
        exact ⟨rfl, rfl, rfl, rfl, rfl, trivial⟩
  · have hge : g = 1000 := by simp only [decide_eq_false_iff_not] at hd; omega
    subst hge
    exact ForgetTo.same' (Nat.zero_le _) ⟨rfl, trivial⟩ rfl

theorem c32_c_1 (t : Town) (hnd : (agT t 1001).again.Nodup) (hln : (agT t 1001).again.length ≤ 100000) :
    AWP prog f32.ntmps 0 none (restC 1 (restC 2 (bodyOf f32))) [(5, .ref 2 (agT t 1001).again.length 0 (agT t 1001).again.length)] (h32_1 t (agT t 1001).been (agT t 1001).again) (post32 t) := by
  have hres : ∀ l : List ByteArray, l.Perm (agT t 1001).again → SrtTo l l.length → sortG ltS (agT t 1001).again = l := fun l h1 h2 => (srt_is h1 hnd h2).symm
  rw [post32]
  generalize (agT t 1001).again = o at *
  generalize (agT t 1001).been = b at *
  refine AWP.runS (fun _ => false) tt_ok (fun _ h => nomatch h) (Nat.zero_le _) rfl ?_
  simp only [h32_1]
  simp only [go_sem]
  refine ALoop.by (S := Nat × List ByteArray) (fun s => [(10, .d (.int .i64 s.1)), (5, .ref 2 o.length 0 o.length)]) (fun s => h32_1 t b s.2) (fun s => o.length - s.1) (fun s => s.1 ≤ o.length ∧ s.2.Perm o ∧ SrtTo s.2 s.1) (0, o) (Nat.zero_le _) (fun _ h => nomatch h) ⟨Nat.zero_le _, List.Perm.refl _, fun _ _ _ h => by omega⟩ (ForgetTo.same' (Nat.zero_le _) ⟨rfl, rfl, trivial⟩ rfl) ?_
  rintro ⟨i, l⟩ ⟨hi, hp, hst⟩ hn
  dsimp only at hi hp hst ⊢
  refine AWP.run (fun _ => false) tt_ok (fun _ h => nomatch h) (Nat.zero_le _) rfl ?_
  have hml : l.length = o.length := hp.length_eq
  simp only [h32_1]
  simp only [go_sem, townB, List.length_map, hml]
  refine Br_split (fun hd => ?_) (fun hd => ?_) <;> simp only [go_sem, hd]
  · have hil : i < o.length := by simpa using hd
    have hni : IntKind.i64.wrap ((i : Int) + 1) = ((i + 1 : Nat) : Int) := by rw [w64 (by omega) (by omega)]; omega
    refine ALoop.by (S := Nat × List ByteArray) (fun s => [(11, .d (.int .i64 s.1)), (10, .d (.int .i64 i)), (5, .ref 2 o.length 0 o.length)]) (fun s => h32_1 t b s.2) (fun s => i - s.1)
      (fun s => s.1 ≤ i ∧ s.2.Perm o ∧ SrtTo s.2 i ∧ ∀ j, j < s.1 → ltS (s.2.getD i default) (s.2.getD j default) = false) (0, l) (Nat.zero_le _) (fun _ h => nomatch h) ⟨Nat.zero_le _, hp, hst, fun _ h => by omega⟩ (ForgetTo.same' (Nat.zero_le _) ⟨rfl, rfl, rfl, trivial⟩ rfl) ?_
    clear hp hst hn hml
    rintro ⟨k, m⟩ ⟨hk, hp, hst, hb⟩ hn
    dsimp only at hk hp hst hb ⊢
    refine AWP.run (fun _ => false) tt_ok (fun _ h => nomatch h) (Nat.zero_le _) rfl ?_
    simp only [h32_1]
    simp only [go_sem, townB, List.length_map]
    refine Br_split (fun he => ?_) (fun he => ?_) <;> simp only [go_sem, he]
    · have hkl : k < i := by simpa using he
      have hnk : IntKind.i64.wrap ((k : Int) + 1) = ((k + 1 : Nat) : Int) := by rw [w64 (by omega) (by omega)]; omega
      have hml : m.length = o.length := hp.length_eq
      have c1 : (0 : Int) ≤ (i : Int) ∧ (i : Int) < (o.length : Int) := by omega
      have c2 : (0 : Int) ≤ (k : Int) ∧ (k : Int) < (o.length : Int) := by omega
      have g1 : (m.map D.str)[i]? = some (.str (m.getD i default)) := by rw [getDG (by omega), List.getElem?_map, List.getElem?_eq_getElem (by omega)]; rfl
      have g2 : (m.map D.str)[k]? = some (.str (m.getD k default)) := by rw [getDG (by omega), List.getElem?_map, List.getElem?_eq_getElem (by omega)]; rfl
      refine ADrw.treeG (fun _ => false) tt_ok (by kernel_rfl) (fun k => if k = 2 ∨ k = 3 ∨ k = 6 ∨ k = 7 then some .L else some .S) (.ones [0, 1, 2, 3, 4, 5, 6, 7, 8] .done) (Nat.zero_le _) (fun _ h => nomatch h) rfl rfl (by kernel_rfl) ?_
      simp only [go_sem, List.length_map, hml, c1, c2, Int.toNat_natCast, g1, g2, bin_lssS]
      have hset : ((m.map D.str).set i (.str (m.getD k default))).set k (.str (m.getD i default)) = (swp m i k).map D.str := by simp [swp, List.map_set]
      have hs1 : ((m.map D.str).set i (.str (m.getD k default)))[k]? = some (.str (m.getD k default)) := by rw [List.getElem?_set_ne (by omega), g2]
      have hstp := srt_step (l := m) (by omega) hkl hst hb
      have hsp : (swp m i k).Perm o := (swp_perm (by omega) (by omega)).trans hp
      refine Br_split (fun hf => ?_) (fun hf => ?_) <;> simp only [go_sem, hf]
      · obtain ⟨q1, q2⟩ := hstp hf
        simp only [go_sem, List.length_map, List.length_set, hml, c1, c2, Int.toNat_natCast, g1, g2, hs1, hset, hnk]
        exact ⟨(k + 1, swp m i k), ⟨hkl, hsp, q1, q2⟩, by show i - (k + 1) < i - k; omega, ForgetTo.same' (Nat.zero_le _) ⟨rfl, rfl, rfl, trivial⟩ rfl⟩
      · simp only [go_sem, hnk]
        refine ⟨(k + 1, m), ⟨hkl, hp, hst, fun j hj => ?_⟩, by show i - (k + 1) < i - k; omega, ForgetTo.same' (Nat.zero_le _) ⟨rfl, rfl, rfl, trivial⟩ rfl⟩
        rcases Nat.lt_or_ge j k with h | h
        · exact hb j h
        · rw [show j = k by omega]; exact hf
    · have hke : k = i := by simp only [decide_eq_false_iff_not] at he; omega
      subst hke
      simp only [go_sem, hni]
      exact ⟨(k + 1, m), ⟨hil, hp, srt_next hst hb⟩, by show o.length - (k + 1) < o.length - k; omega, ForgetTo.same' (Nat.zero_le _) ⟨rfl, rfl, trivial⟩ rfl⟩
  · have hie : i = o.length := by simp only [decide_eq_false_iff_not] at hd; omega
    subst hie
    rw [hres l hp (by rw [hml]; exact hst)]
    have htk : List.take o.length (l.map D.str) = l.map D.str := List.take_of_length_le (by simp [hml])
    simp only [go_sem, List.length_map, hml, htk]

def h32_2 (t : Town) (b o : List ByteArray) : Heap := [townB t, .arr 1 false ((⟨b, o, none⟩ : AgS).again.map .str), .arr 1 false ((⟨b, o, none⟩ : AgS).been.map .str)]
def e32_2 (t : Town) (b o : List ByteArray) : Env := [(5, .ref 1 o.length 0 o.length), (4, .ref 2 b.length 0 b.length), (3, .d (.sl ((namesA t 1001).map nmsD))), (1, .ptr 0 0)]

theorem c32_b_2 {t : Town} (ht : t.Ok) {P : List Page} (hP : PgOk t P)
    (hrest : AWP prog f32.ntmps 0 none (restC 1 (restC 2 (bodyOf f32))) [(5, .ref 1 (agT t 1001).again.length 0 (agT t 1001).again.length)] (h32_2 t (agT t 1001).been (agT t 1001).again) (post32 t)) :
    AWP prog f32.ntmps 0 none (restC 2 (bodyOf f32)) (e32_2 t t.first []) (h32_2 t t.first []) (post32 t) := by
  refine AWP.stepN 1 _ _ (fun _ => false) tt_ok (fun _ h => nomatch h) (Nat.zero_le _) rfl ?_ hrest
  clear hrest
  have hl6 := ht.len.2
  have h1e := agT_1 ht hP
  simp only [e32_2, h32_2]
  simp only [go_sem]
  refine ALoop.by (S := Nat) (fun g => (6, .d (.int .i64 ((g + 1 : Nat) : Int))) :: e32_2 t (agT t (g + 1)).been (agT t (g + 1)).again) (fun g => h32_2 t (agT t (g + 1)).been (agT t (g + 1)).again) (fun g => 1000 - g) (fun g => g ≤ 1000) 0 (Nat.zero_le _) (fun _ h => nomatch h) (Nat.zero_le _) ?_ ?_
  · rw [h1e]; exact ForgetTo.same' (Nat.zero_le _) ⟨rfl, rfl, rfl, rfl, rfl, trivial⟩ rfl
  rintro g hg hn
  refine AWP.run (fun _ => false) tt_ok (fun _ h => nomatch h) (Nat.zero_le _) rfl ?_
  simp only [e32_2, h32_2]
  simp only [go_sem, townB]
  refine Br_split (fun hd => ?_) (fun hd => ?_) <;> simp only [go_sem, hd]
  · have hlt : g < 1000 := by simp only [decide_eq_true_eq] at hd; omega
    have hnx : IntKind.i64.wrap (((g + 1 : Nat) : Int) + 1) = ((g + 1 + 1 : Nat) : Int) := by rw [w64 (by omega) (by omega)]; omega
    have hpv : IntKind.i64.wrap (((g + 1 : Nat) : Int) - 1) = (g : Int) := by rw [w64 (by omega) (by omega)]; omega
    have hi1 : idx? ((namesA t 1001).map nmsD) ((g + 1 : Nat) : Int) = some (.sl ((namesT t ((g + 1 : Nat) : Int)).map .str)) := by rw [idx_nat, List.getElem?_map, namesA_get (by omega)]; rfl
    have hi0 : idx? ((namesA t 1001).map nmsD) (g : Int) = some (.sl ((namesT t (g : Int)).map .str)) := by rw [idx_nat, List.getElem?_map, namesA_get (by omega)]; rfl
    have hbf := agT_before t g
    have hsu := agT_succ t (g + 1)
    have hlen := agT_lens t (g + 1)
    have hll : t.first.length * (g + 1) ≤ 6 * 1001 := Nat.mul_le_mul hl6 (by omega)
    have hN := namesT_len t ((g + 1 : Nat) : Int)
    have hM := namesT_len t (g : Int)
    have fin : ∀ b o E, b = (agT t (g + 1 + 1)).been → o = (agT t (g + 1 + 1)).again → EWe E ((6, .d (.int .i64 ((g + 1 + 1 : Nat) : Int))) :: e32_2 t b o) →
        ∃ s', s' ≤ 1000 ∧ 1000 - s' < 1000 - g ∧ ForgetTo 0 E (h32_2 t b o) ((6, .d (.int .i64 ((s' + 1 : Nat) : Int))) :: e32_2 t (agT t (s' + 1)).been (agT t (s' + 1)).again) (h32_2 t (agT t (s' + 1)).been (agT t (s' + 1)).again) := fun b o E h1 h2 hE => by
      subst h1 h2
      exact ⟨g + 1, hlt, by omega, ForgetTo.same' (Nat.zero_le _) hE rfl⟩
    rw [hsu, agS, hbf] at fin
    simp only [e32_2, h32_2, townB] at fin
    rw [hN] at fin
    generalize hNA : (namesA t 1001).map nmsD = NA at *
    generalize namesT t ((g + 1 : Nat) : Int) = N at *
    generalize namesT t (g : Int) = M at *
    generalize (agT t (g + 1)).been = b at *
    generalize (agT t (g + 1)).again = o at *
    have hb1 : b.length ≤ 6006 := by omega
    have ho1 : o.length ≤ 6006 := by omega
    have hb2 : List.take b.length (b.map D.str) = b.map D.str := List.take_of_length_le (by simp)
    have hagl := fun k => agF_len (been := b) (names := N) (before := some M) (again := o) k
    refine ALoop.by (S := Nat) (fun s => [(7, .d (.int .i64 s)), (6, .d (.int .i64 ((g + 1 : Nat) : Int))), (5, .ref 1 (agF b (some M) N o s).length 0 (agF b (some M) N o s).length), (4, .ref 2 b.length 0 b.length), (3, .d (.sl NA)), (1, .ptr 0 0)])
      (fun s => h32_2 t b (agF b (some M) N o s)) (fun s => t.first.length - s) (fun s => s ≤ t.first.length) 0 (Nat.zero_le _) (fun _ h => nomatch h) (Nat.zero_le _) (ForgetTo.same' (Nat.zero_le _) ⟨rfl, rfl, rfl, rfl, rfl, rfl, trivial⟩ rfl) ?_
    rintro s hs hn2
    refine AWP.run (fun _ => false) tt_ok (fun _ h => nomatch h) (Nat.zero_le _) rfl ?_
    simp only [h32_2]
    simp only [go_sem, townB, List.length_map]
    refine Br_split (fun he => ?_) (fun he => ?_) <;> simp only [go_sem, he]
    · have hsl : s < t.first.length := by simpa using he
      have hns : IntKind.i64.wrap ((s : Int) + 1) = ((s + 1 : Nat) : Int) := by rw [w64 (by omega) (by omega)]; omega
      have hj1 : idx? (N.map D.str) (s : Int) = some (.str (N.getD s default)) := by rw [getDG (by omega)]; simp [idx?, List.getElem?_eq_getElem (show s < N.length by omega)]
      have hj0 : idx? (M.map D.str) (s : Int) = some (.str (M.getD s default)) := by rw [getDG (by omega)]; simp [idx?, List.getElem?_eq_getElem (show s < M.length by omega)]
      have hag := agF_succ b (some M) N o s
      have fin2 : ∀ q E, q = agF b (some M) N o (s + 1) → EWe E [(7, .d (.int .i64 ((s + 1 : Nat) : Int))), (6, .d (.int .i64 ((g + 1 : Nat) : Int))), (5, .ref 1 q.length 0 q.length), (4, .ref 2 b.length 0 b.length), (3, .d (.sl NA)), (1, .ptr 0 0)] →
          ∃ s', s' ≤ t.first.length ∧ t.first.length - s' < t.first.length - s ∧ ForgetTo 0 E (h32_2 t b q) [(7, .d (.int .i64 s')), (6, .d (.int .i64 ((g + 1 : Nat) : Int))), (5, .ref 1 (agF b (some M) N o s').length 0 (agF b (some M) N o s').length), (4, .ref 2 b.length 0 b.length), (3, .d (.sl NA)), (1, .ptr 0 0)] (h32_2 t b (agF b (some M) N o s')) := fun q E hq hE => by
        subst hq
        exact ⟨s + 1, hsl, by omega, ForgetTo.same' (Nat.zero_le _) hE rfl⟩
      rw [hag, newS] at fin2
      simp only [h32_2, townB] at fin2
      have hol := hagl s
      generalize agF b (some M) N o s = q at *
      generalize N.getD s default = x at *
      generalize M.getD s default = y at *
      have hq1 : q.length ≤ 7000 := by omega
      have hq2 : List.take q.length (q.map D.str) = q.map D.str := List.take_of_length_le (by simp)
      have c84b := c84 b (by omega) x
      have c84q := c84 q (by omega) x
      have sx : sized 1 [D.str x] = true := rfl
      have bq : q.length + 1 ≤ 4294967296 := by omega
      simp only [go_sem, hi1, hj1, hpv, hi0, hj0, beq_str]
      by_cases hxy : x = y
      · have d1 : decide (x = y) = true := decide_eq_true hxy
        rw [decide_eq_true hxy.symm] at fin2
        simp only [Bool.not_true, Bool.false_and, Bool.false_eq_true, if_false] at fin2
        simp only [go_sem, d1, hns]
        exact fin2 _ _ rfl ⟨rfl, rfl, rfl, rfl, rfl, rfl, trivial⟩
      · have d1 : decide (x = y) = false := decide_eq_false hxy
        rw [decide_eq_false (show ¬ y = x from fun e => hxy e.symm)] at fin2
        simp only [Bool.not_false, Bool.true_and] at fin2
        simp only [go_sem, d1]
        refine c84b.callL rfl (by simp [pubVs, pubV, dz, hb2]) rfl ?_
        cases hh1 : hasS x b with
        | false =>
          rw [hh1] at fin2
          simp only [Bool.false_eq_true, if_false] at fin2
          simp only [go_sem, hns]
          exact fin2 _ _ rfl ⟨rfl, rfl, rfl, rfl, rfl, rfl, trivial⟩
        | true =>
          rw [hh1] at fin2
          simp only [if_true, insS] at fin2
          simp only [go_sem]
          refine c84q.callL rfl (by simp [pubVs, pubV, dz, hq2]) rfl ?_
          cases hh2 : hasS x q with
          | true =>
            rw [hh2] at fin2
            simp only [if_true] at fin2
            simp only [go_sem, hns]
            exact fin2 _ _ rfl ⟨rfl, rfl, rfl, rfl, rfl, rfl, trivial⟩
          | false =>
            rw [hh2] at fin2
            simp only [Bool.false_eq_true, if_false] at fin2
            have f2 := fun E => fin2 _ E rfl
            simp only [List.map_append, List.map_cons, List.map_nil, List.length_append, List.length_cons, List.length_nil, Nat.zero_add] at f2
            simp only [go_sem, sx, List.length_map, bq, hns]
            exact f2 _ ⟨rfl, rfl, rfl, rfl, rfl, rfl, trivial⟩
    · have hse : s = t.first.length := by simp only [decide_eq_false_iff_not] at he; omega
      subst hse
      generalize agF b (some M) N o t.first.length = q at *
      have hbel : ∀ s, s ≤ t.first.length → (beF b (N.take s)).length ≤ b.length + s := fun s hs => by
        have := beF_len (N.take s) b
        rw [List.length_take] at this; omega
      refine ALoop.by (S := Nat) (fun s => [(9, .d (.int .i64 s)), (6, .d (.int .i64 ((g + 1 : Nat) : Int))), (5, .ref 1 q.length 0 q.length), (4, .ref 2 (beF b (N.take s)).length 0 (beF b (N.take s)).length), (3, .d (.sl NA)), (1, .ptr 0 0)])
        (fun s => h32_2 t (beF b (N.take s)) q) (fun s => t.first.length - s) (fun s => s ≤ t.first.length) 0 (Nat.zero_le _) (fun _ h => nomatch h) (Nat.zero_le _) (ForgetTo.same' (Nat.zero_le _) ⟨rfl, rfl, rfl, rfl, rfl, rfl, trivial⟩ rfl) ?_
      rintro s hs hn2
      refine AWP.run (fun _ => false) tt_ok (fun _ h => nomatch h) (Nat.zero_le _) rfl ?_
      simp only [h32_2]
      simp only [go_sem, townB, List.length_map]
      refine Br_split (fun he => ?_) (fun he => ?_) <;> simp only [go_sem, he]
      · have hsl : s < t.first.length := by simpa using he
        have hns : IntKind.i64.wrap ((s : Int) + 1) = ((s + 1 : Nat) : Int) := by rw [w64 (by omega) (by omega)]; omega
        have hj1 : idx? (N.map D.str) (s : Int) = some (.str (N.getD s default)) := by rw [getDG (by omega)]; simp [idx?, List.getElem?_eq_getElem (show s < N.length by omega)]
        have hbs : beF b (N.take (s + 1)) = insS (beF b (N.take s)) (N.getD s default) := by
          rw [List.take_succ_eq_append_getElem (by omega), beF, List.foldl_append, getDG (show s < N.length by omega)]; rfl
        have fin2 : ∀ w E, w = beF b (N.take (s + 1)) → EWe E [(9, .d (.int .i64 ((s + 1 : Nat) : Int))), (6, .d (.int .i64 ((g + 1 : Nat) : Int))), (5, .ref 1 q.length 0 q.length), (4, .ref 2 w.length 0 w.length), (3, .d (.sl NA)), (1, .ptr 0 0)] →
            ∃ s', s' ≤ t.first.length ∧ t.first.length - s' < t.first.length - s ∧ ForgetTo 0 E (h32_2 t w q) [(9, .d (.int .i64 s')), (6, .d (.int .i64 ((g + 1 : Nat) : Int))), (5, .ref 1 q.length 0 q.length), (4, .ref 2 (beF b (N.take s')).length 0 (beF b (N.take s')).length), (3, .d (.sl NA)), (1, .ptr 0 0)] (h32_2 t (beF b (N.take s')) q) := fun w E hw hE => by
          subst hw
          exact ⟨s + 1, hsl, by omega, ForgetTo.same' (Nat.zero_le _) hE rfl⟩
        rw [hbs] at fin2
        simp only [h32_2, townB, insS] at fin2
        have hwl := hbel s (by omega)
        generalize beF b (N.take s) = w at *
        generalize N.getD s default = x at *
        have hw2 : List.take w.length (w.map D.str) = w.map D.str := List.take_of_length_le (by simp)
        have c84w := c84 w (by omega) x
        have sx : sized 1 [D.str x] = true := rfl
        have bw : w.length + 1 ≤ 4294967296 := by omega
        simp only [go_sem, hi1, hj1]
        refine c84w.callL rfl (by simp [pubVs, pubV, dz, hw2]) rfl ?_
        cases hh1 : hasS x w with
        | true =>
          rw [hh1] at fin2
          simp only [if_true] at fin2
          simp only [go_sem, hns]
          exact fin2 _ _ rfl ⟨rfl, rfl, rfl, rfl, rfl, rfl, trivial⟩
        | false =>
          rw [hh1] at fin2
          simp only [Bool.false_eq_true, if_false] at fin2
          have f2 := fun E => fin2 _ E rfl
          simp only [List.map_append, List.map_cons, List.map_nil, List.length_append, List.length_cons, List.length_nil, Nat.zero_add] at f2
          simp only [go_sem, hi1, hj1, sx, List.length_map, bw, hns]
          exact f2 _ ⟨rfl, rfl, rfl, rfl, rfl, rfl, trivial⟩
      · have hse : s = t.first.length := by simp only [decide_eq_false_iff_not] at he; omega
        subst hse
        rw [List.take_of_length_le (by omega)]
        simp only [go_sem, hnx]
        refine fin _ _ _ rfl rfl ?_
        exact ⟨rfl, rfl, rfl, rfl, rfl, trivial⟩
  · have hge : g = 1000 := by simp only [decide_eq_false_iff_not] at hd; omega
    subst hge
    exact ForgetTo.same' (Nat.zero_le _) ⟨rfl, trivial⟩ rfl

theorem c32_c_2 (t : Town) (hnd : (agT t 1001).again.Nodup) (hln : (agT t 1001).again.length ≤ 100000) :
    AWP prog f32.ntmps 0 none (restC 1 (restC 2 (bodyOf f32))) [(5, .ref 1 (agT t 1001).again.length 0 (agT t 1001).again.length)] (h32_2 t (agT t 1001).been (agT t 1001).again) (post32 t) := by
  have hres : ∀ l : List ByteArray, l.Perm (agT t 1001).again → SrtTo l l.length → sortG ltS (agT t 1001).again = l := fun l h1 h2 => (srt_is h1 hnd h2).symm
  rw [post32]
  generalize (agT t 1001).again = o at *
  generalize (agT t 1001).been = b at *
  refine AWP.runS (fun _ => false) tt_ok (fun _ h => nomatch h) (Nat.zero_le _) rfl ?_
  simp only [h32_2]
  simp only [go_sem]
  refine ALoop.by (S := Nat × List ByteArray) (fun s => [(10, .d (.int .i64 s.1)), (5, .ref 1 o.length 0 o.length)]) (fun s => h32_2 t b s.2) (fun s => o.length - s.1) (fun s => s.1 ≤ o.length ∧ s.2.Perm o ∧ SrtTo s.2 s.1) (0, o) (Nat.zero_le _) (fun _ h => nomatch h) ⟨Nat.zero_le _, List.Perm.refl _, fun _ _ _ h => by omega⟩ (ForgetTo.same' (Nat.zero_le _) ⟨rfl, rfl, trivial⟩ rfl) ?_
  rintro ⟨i, l⟩ ⟨hi, hp, hst⟩ hn
  dsimp only at hi hp hst ⊢
  refine AWP.run (fun _ => false) tt_ok (fun _ h => nomatch h) (Nat.zero_le _) rfl ?_
  have hml : l.length = o.length := hp.length_eq
  simp only [h32_2]
  simp only [go_sem, townB, List.length_map, hml]
  refine Br_split (fun hd => ?_) (fun hd => ?_) <;> simp only [go_sem, hd]
  · have hil : i < o.length := by simpa using hd
    have hni : IntKind.i64.wrap ((i : Int) + 1) = ((i + 1 : Nat) : Int) := by rw [w64 (by omega) (by omega)]; omega
    refine ALoop.by (S := Nat × List ByteArray) (fun s => [(11, .d (.int .i64 s.1)), (10, .d (.int .i64 i)), (5, .ref 1 o.length 0 o.length)]) (fun s => h32_2 t b s.2) (fun s => i - s.1)
      (fun s => s.1 ≤ i ∧ s.2.Perm o ∧ SrtTo s.2 i ∧ ∀ j, j < s.1 → ltS (s.2.getD i default) (s.2.getD j default) = false) (0, l) (Nat.zero_le _) (fun _ h => nomatch h) ⟨Nat.zero_le _, hp, hst, fun _ h => by omega⟩ (ForgetTo.same' (Nat.zero_le _) ⟨rfl, rfl, rfl, trivial⟩ rfl) ?_
    clear hp hst hn hml
    rintro ⟨k, m⟩ ⟨hk, hp, hst, hb⟩ hn
    dsimp only at hk hp hst hb ⊢
    refine AWP.run (fun _ => false) tt_ok (fun _ h => nomatch h) (Nat.zero_le _) rfl ?_
    simp only [h32_2]
    simp only [go_sem, townB, List.length_map]
    refine Br_split (fun he => ?_) (fun he => ?_) <;> simp only [go_sem, he]
    · have hkl : k < i := by simpa using he
      have hnk : IntKind.i64.wrap ((k : Int) + 1) = ((k + 1 : Nat) : Int) := by rw [w64 (by omega) (by omega)]; omega
      have hml : m.length = o.length := hp.length_eq
      have c1 : (0 : Int) ≤ (i : Int) ∧ (i : Int) < (o.length : Int) := by omega
      have c2 : (0 : Int) ≤ (k : Int) ∧ (k : Int) < (o.length : Int) := by omega
      have g1 : (m.map D.str)[i]? = some (.str (m.getD i default)) := by rw [getDG (by omega), List.getElem?_map, List.getElem?_eq_getElem (by omega)]; rfl
      have g2 : (m.map D.str)[k]? = some (.str (m.getD k default)) := by rw [getDG (by omega), List.getElem?_map, List.getElem?_eq_getElem (by omega)]; rfl
      refine ADrw.treeG (fun _ => false) tt_ok (by kernel_rfl) (fun k => if k = 2 ∨ k = 3 ∨ k = 6 ∨ k = 7 then some .L else some .S) (.ones [0, 1, 2, 3, 4, 5, 6, 7, 8] .done) (Nat.zero_le _) (fun _ h => nomatch h) rfl rfl (by kernel_rfl) ?_
      simp only [go_sem, List.length_map, hml, c1, c2, Int.toNat_natCast, g1, g2, bin_lssS]
      have hset : ((m.map D.str).set i (.str (m.getD k default))).set k (.str (m.getD i default)) = (swp m i k).map D.str := by simp [swp, List.map_set]
      have hs1 : ((m.map D.str).set i (.str (m.getD k default)))[k]? = some (.str (m.getD k default)) := by rw [List.getElem?_set_ne (by omega), g2]
      have hstp := srt_step (l := m) (by omega) hkl hst hb
      have hsp : (swp m i k).Perm o := (swp_perm (by omega) (by omega)).trans hp
      refine Br_split (fun hf => ?_) (fun hf => ?_) <;> simp only [go_sem, hf]
      · obtain ⟨q1, q2⟩ := hstp hf
        simp only [go_sem, List.length_map, List.length_set, hml, c1, c2, Int.toNat_natCast, g1, g2, hs1, hset, hnk]
        exact ⟨(k + 1, swp m i k), ⟨hkl, hsp, q1, q2⟩, by show i - (k + 1) < i - k; omega, ForgetTo.same' (Nat.zero_le _) ⟨rfl, rfl, rfl, trivial⟩ rfl⟩
      · simp only [go_sem, hnk]
        refine ⟨(k + 1, m), ⟨hkl, hp, hst, fun j hj => ?_⟩, by show i - (k + 1) < i - k; omega, ForgetTo.same' (Nat.zero_le _) ⟨rfl, rfl, rfl, trivial⟩ rfl⟩
        rcases Nat.lt_or_ge j k with h | h
        · exact hb j h
        · rw [show j = k by omega]; exact hf
    · have hke : k = i := by simp only [decide_eq_false_iff_not] at he; omega
      subst hke
      simp only [go_sem, hni]
      exact ⟨(k + 1, m), ⟨hil, hp, srt_next hst hb⟩, by show o.length - (k + 1) < o.length - k; omega, ForgetTo.same' (Nat.zero_le _) ⟨rfl, rfl, trivial⟩ rfl⟩
  · have hie : i = o.length := by simp only [decide_eq_false_iff_not] at hd; omega
    subst hie
    rw [hres l hp (by rw [hml]; exact hst)]
    have htk : List.take o.length (l.map D.str) = l.map D.str := List.take_of_length_le (by simp [hml])
    simp only [go_sem, List.length_map, hml, htk]

theorem c32 {t : Town} (ht : t.Ok) {P : List Page} (hP : PgOk t P) (hs : t.Small) : PC prog 32 [.d t.d] (.d (.sl ((sortG ltS (agT t 1001).again).map .str))) := by
  refine PC.of_body tt_ok (fn := f32) (c := bodyOf f32) (rs := [.tmp 2]) rfl rfl rfl rfl rfl rfl ?_
  have c50a := c50 t (by have := hs.f; omega) (by have := hs.c; omega)
  have hnd : (agT t 1001).again.Nodup := by rw [agT_eq ht hP]; exact againL_nodup _
  have hln : (agT t 1001).again.length ≤ 100000 := by rw [agT_eq ht hP]; have := again_len ht hP; omega
  refine AWP.stepS (S := Bool) 2 (fun b => if b then e32_1 t t.first [] else e32_2 t t.first []) (fun b => if b then h32_1 t t.first [] else h32_2 t t.first []) (fun _ => True) (fun k => k == 15 || k == 19) tt_ok (fun _ h => nomatch h) (Nat.zero_le _) rfl ?_ (fun b _ _ => ?_)
  · simp only [go_sem, Town.d]
    refine ADrw.treeG (fun k => k == 15 || k == 19) tt_ok (by kernel_rfl) (fun k => if k = 0 ∨ k = 4 then some .L else if k = 5 then some .W else if k = 2 ∨ k = 6 then some .A else some .S) (.ones [0, 1, 3, 4] (.two 2 (.two 5 (.ones [6, 7, 8, 9] .done) 6 (.ones [5, 7, 8, 9] .done)) 6 (.ones [2, 5, 7, 8, 9] .done))) (Nat.zero_le _) (fun _ h => nomatch h) rfl rfl (by kernel_rfl) ?_
    simp only [go_sem]
    simp only [Town.d] at c50a
    refine c50a.callS rfl rfl rfl rfl rfl rfl ?_
    have s1 := sized_strs t.first
    have b1 : t.first.length ≤ 4294967296 := by have := hs.f; omega
    simp only [go_sem, s1, List.length_map, b1]
    have k1 : ∀ E, EWe E (e32_1 t t.first []) → ∃ s : Bool, ForgetTo 0 E [Blk.cells [.d (.sl (t.first.map .str)), .d (.sl (t.ch.map Chg.d))], .arr 1 false (t.first.map .str), .arr 1 false []] (if s = true then e32_1 t t.first [] else e32_2 t t.first []) (if s = true then h32_1 t t.first [] else h32_2 t t.first []) := fun E hE => ⟨true, ForgetTo.same' (Nat.zero_le _) hE rfl⟩
    have k2 : ∀ E, EWe E (e32_2 t t.first []) → ∃ s : Bool, ForgetTo 0 E [Blk.cells [.d (.sl (t.first.map .str)), .d (.sl (t.ch.map Chg.d))], .arr 1 false [], .arr 1 false (t.first.map .str)] (if s = true then e32_1 t t.first [] else e32_2 t t.first []) (if s = true then h32_1 t t.first [] else h32_2 t t.first []) := fun E hE => ⟨false, ForgetTo.same' (Nat.zero_le _) hE rfl⟩
    refine ⟨⟨k1 _ ?_, k1 _ ?_⟩, k2 _ ?_⟩ <;> exact ⟨rfl, rfl, rfl, rfl, trivial⟩
  · cases b with
    | true => exact c32_b_1 ht hP (c32_c_1 t hnd hln)
    | false => exact c32_b_2 ht hP (c32_c_2 t hnd hln)
end Go.Aw
end

section
set_option maxRecDepth 100000
namespace Go.Aw
open Go Go.Proofs.Tryz

theorem c5 (t : Town) (n : Int) : PC prog 5 [.d t.d, .d (.int .i64 n)] (.d (.bool true)) := by
  refine PC.run (fun _ => false) tt_ok (fn := f5) (rs := [.tmp 4]) rfl rfl rfl rfl rfl rfl rfl ?_
  simp only [go_sem, Town.d]
  refine (c14 t []).call rfl rfl rfl ?_
  cases hlong : longB t [] with
  | true =>
    simp only [go_sem]
    refine c15.call rfl rfl rfl ?_
    simp only [go_sem]
  | false =>
    obtain ⟨hs, l1, l2, _, m1, m2, _⟩ := long_fits hlong
    have c16a := c16 t (by omega) (by omega)
    have c29a := c29 t hs n
    have c30a := c30 t hs
    have c20a := c20 t (by omega) (by omega)
    have c25a := c25 t (by omega) (by omega) hs.fn hs.cn
    have w1 : IntKind.i64.wrap ((t.first.length : Int) - 1) = (t.first.length : Int) - 1 := w64 (by omega) (by omega)
    have c26a := c26 n 0 ((t.first.length : Int) - 1)
    have e1 : decide (0 ≤ n ∧ n ≤ (t.first.length : Int) - 1) = decide (0 ≤ n ∧ n < (t.first.length : Int)) := by rw [Bool.eq_iff_iff, decide_eq_true_eq, decide_eq_true_eq]; omega
    rw [e1] at c26a
    have hd0 : ∀ {α : Type} [DecidableEq α] (l : α), decide (l = l) = true := fun l => by simp
    simp only [Town.d] at c16a c29a c30a c20a c25a
    simp only [go_sem]
    refine c16a.call rfl rfl rfl ?_
    simp only [go_sem]
    by_cases ho : openE t = 0
    · obtain ⟨hok, hb, hpg⟩ := open_pg ho
      have c32a := c32 hok hpg hs
      have hA : againP t = (sortG ltS (agT t 1001).again, 0) := by rw [againP, if_neg (by simpa using ho), agT_eq hok hpg]
      have hAl : (agT t 1001).again.length ≤ 8 := by rw [agT_eq hok hpg]; exact again_len hok hpg
      have hSl : (sortG ltS (agT t 1001).again).length ≤ 8 := by rw [sortG_len]; exact hAl
      rw [hA] at c30a
      simp only [againV, ne_eq, not_true_eq_false, if_false] at c30a
      generalize sortG ltS (agT t 1001).again = A at *
      have c31a := c31 A A (by omega) (by omega)
      rw [ho] at c25a
      simp only [Town.d] at c32a
      by_cases h1 : 0 ≤ n ∧ n < (t.first.length : Int)
      · obtain ⟨k, rfl⟩ : ∃ k : Nat, n = k := ⟨n.toNat, by omega⟩
        have hk : k < t.first.length := by omega
        have hH : historyP t k = (hisT t k 1001, 0) := by rw [historyP, if_neg (by simpa using ho), if_neg (by simpa using h1), hist_eq hok hpg (s := k) hk]; rfl
        have hHl := hisT_len t k 1001
        rw [hH] at c29a
        simp only [histV, ne_eq, not_true_eq_false, if_false] at c29a
        have c34a := c34 t (by omega) hk
        generalize hisT t k 1001 = L at *
        have c33a := c33 L L (by omega) (by omega)
        simp only [Town.d] at c34a
        refine c29a.call rfl rfl rfl ?_
        simp only [go_sem]
        refine c30a.call rfl rfl rfl ?_
        simp only [go_sem]
        refine c20a.call rfl rfl rfl ?_
        simp only [go_sem]
        refine c25a.call rfl rfl rfl ?_
        simp only [go_sem]
        refine c32a.call rfl rfl rfl ?_
        simp only [go_sem]
        refine c31a.call rfl rfl rfl ?_
        simp only [go_sem, hd0, List.length_map, w1]
        refine c26a.call rfl rfl rfl ?_
        simp only [go_sem, decide_eq_true h1]
        refine c34a.call rfl rfl rfl ?_
        simp only [go_sem]
        refine c33a.call rfl rfl rfl ?_
        simp only [go_sem, hd0]
        refine c15.call rfl rfl rfl ?_
        simp only [go_sem]
      · have hH : historyP t n = ([], 7) := by rw [historyP, if_neg (by simpa using ho), if_pos (by simpa using h1)]
        rw [hH] at c29a
        have hv : histV (([] : List Tm), (7 : Int)) = .slx (some true) [] := by rw [histV, if_pos (by decide)]
        rw [hv] at c29a
        refine c29a.call rfl rfl rfl ?_
        simp only [go_sem]
        refine c30a.call rfl rfl rfl ?_
        simp only [go_sem]
        refine c20a.call rfl rfl rfl ?_
        simp only [go_sem]
        refine c25a.call rfl rfl rfl ?_
        simp only [go_sem]
        refine c32a.call rfl rfl rfl ?_
        simp only [go_sem]
        refine c31a.call rfl rfl rfl ?_
        simp only [go_sem, hd0, List.length_map, w1]
        refine c26a.call rfl rfl rfl ?_
        simp only [go_sem, decide_eq_false h1]
        refine c15.call rfl rfl rfl ?_
        simp only [go_sem]
    · have hA : againP t = ([], openE t) := by rw [againP, if_pos (by simpa using ho)]
      have hH : historyP t n = ([], openE t) := by rw [historyP, if_pos (by simpa using ho)]
      have hAv : againV ([], openE t) = .slx (some true) [] := by rw [againV, if_pos ho]
      have hHv : histV (([] : List Tm), openE t) = .slx (some true) [] := by rw [histV, if_pos ho]
      rw [hA, hAv] at c30a
      rw [hH, hHv] at c29a
      have d1 : decide (openE t = 0) = false := decide_eq_false ho
      refine c29a.call rfl rfl rfl ?_
      simp only [go_sem]
      refine c30a.call rfl rfl rfl ?_
      simp only [go_sem]
      refine c20a.call rfl rfl rfl ?_
      simp only [go_sem]
      refine c25a.call rfl rfl rfl ?_
      simp only [go_sem, hd0, d1, List.length_nil]
      refine c15.call rfl rfl rfl ?_
      simp only [go_sem]
end Go.Aw
end
