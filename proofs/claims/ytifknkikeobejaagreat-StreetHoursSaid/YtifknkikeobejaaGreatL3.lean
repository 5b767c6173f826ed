/- The reference: Name, Change, Copy, Same, Called, Check. The reference: Clash, First. The reference: First, Check, Open; the law's long. The law's long. Towns as arguments of the laws. The law StreetNames. The reference: Names of all hours, Holds. Hour by hour, and page by page: the plain law. The reference: Orders, With, Has. The reference: Seen, Set, Less. The reference: Hours. The reference: Wrong. Hours and Wrong: the plain law. The law StreetHours. Lines as arguments of the laws. -/
import Derived.Test.YtifknkikeobejaaGreatL2
set_option linter.unusedSimpArgs false
set_option linter.unusedVariables false

section
set_option maxRecDepth 100000
namespace Go.Aw
open Go Go.Proofs.Tryz

theorem c28 (s : ByteArray) (hs : s.size ≤ 1000) : PC prog 28 [.d (.str s)] (.d (.bool (nm s))) := by
  refine PC.run (fun _ => false) tt_ok (fn := f28) (rs := [.tmp 2]) rfl rfl rfl rfl rfl rfl rfl ?_
  simp only [go_sem]
  refine ALoop.by (S := Nat) (fun i => [(3, .d (.int .i64 i)), (0, .d (.str s))]) (fun _ => []) (fun i => s.size - i) (fun i => i ≤ s.size ∧ lettersTo s i = true) 0 (Nat.zero_le _) (fun _ h => nomatch h) ⟨Nat.zero_le _, rfl⟩ (ForgetTo.same' (Nat.zero_le _) ⟨rfl, rfl, trivial⟩ rfl) ?_
  rintro i ⟨hi, hli⟩ hn
  refine AWP.run (fun _ => false) tt_ok (fun _ h => nomatch h) (Nat.zero_le _) rfl ?_
  simp only [go_sem]
  refine Br_split (fun hd => ?_) (fun hd => ?_) <;> simp only [go_sem, hd]
  · have hlt : i < s.size := by simpa using hd
    have hai := aindex_str (T := Tt) (z := ⟨#[]⟩) (k := .i64) hlt
    have hgd : s.data.toList.getD i 0 = s.get! i := by rw [get_data hlt, List.getD_eq_getElem?_getD, List.getElem?_eq_getElem (by simpa using hlt)]; rfl
    rw [hgd] at hai
    have hls := lettersTo_succ hlt
    have hno := nm_no hlt
    rw [hli, Bool.true_and] at hls
    have hlet : letter (s.get! i) = (decide (97 ≤ (s.get! i).toNat) && decide ((s.get! i).toNat ≤ 122)) := rfl
    have hnx : IntKind.i64.wrap ((i : Int) + 1) = ((i + 1 : Nat) : Int) := by rw [w64 (by omega) (by omega)]; omega
    generalize (s.get! i).toNat = b at *
    generalize letter (s.get! i) = L at *
    simp only [go_sem, hai]
    cases d1 : decide ((b : Int) < 97) with
    | true =>
      have : decide (97 ≤ b) = false := by simp only [decide_eq_true_eq, decide_eq_false_iff_not] at d1 ⊢; omega
      rw [this, Bool.false_and] at hlet
      simp only [go_sem, d1]
      rw [hno hlet]
    | false =>
      have h97 : decide (97 ≤ b) = true := by simp only [decide_eq_true_eq, decide_eq_false_iff_not] at d1 ⊢; omega
      cases d2 : decide ((122 : Int) < b) with
      | true =>
        have : decide (b ≤ 122) = false := by simp only [decide_eq_true_eq, decide_eq_false_iff_not] at d2 ⊢; omega
        rw [this, Bool.and_false] at hlet
        simp only [go_sem, d1, d2, hai]
        rw [hno hlet]
      | false =>
        have h122 : decide (b ≤ 122) = true := by simp only [decide_eq_true_eq, decide_eq_false_iff_not] at d2 ⊢; omega
        rw [h97, h122] at hlet
        simp only [go_sem, d1, d2, hai, hnx]
        exact ⟨i + 1, ⟨hlt, by rw [hls, hlet]; rfl⟩, by omega, ForgetTo.same' (Nat.zero_le _) ⟨rfl, rfl, trivial⟩ rfl⟩
  · have hie : i = s.size := by simp only [decide_eq_false_iff_not] at hd; omega
    subst hie
    refine (c26 (s.size : Int) 1 10).call rfl rfl rfl ?_
    simp only [go_sem]
    rw [nm_end hli]

theorem c39 (c : Chg) (n : Nat) (hn : n ≤ 1000000) (hs : c.name.size ≤ 1000) : PC prog 39 [.d c.d, .d (.int .i64 n)] (.d (.bool (chgOk n c))) := by
  rw [chgOk]
  refine PC.run (fun _ => false) tt_ok (fn := f39) (rs := [.tmp 4]) rfl rfl rfl rfl rfl rfl rfl ?_
  have c26a := c26 c.at' 1 1000
  have w1 : IntKind.i64.wrap ((n : Int) - 1) = (n : Int) - 1 := w64 (by omega) (by omega)
  have c26b := c26 c.st 0 ((n : Int) - 1)
  have e : decide (0 ≤ c.st ∧ c.st ≤ (n : Int) - 1) = decide (0 ≤ c.st ∧ c.st < (n : Int)) := by rw [Bool.eq_iff_iff, decide_eq_true_eq, decide_eq_true_eq]; omega
  rw [e] at c26b
  have c28a := c28 c.name hs
  simp only [go_sem, Chg.d, w1]
  refine c26a.call rfl rfl rfl ?_
  simp only [go_sem, w1]
  cases d1 : decide (1 ≤ c.at' ∧ c.at' ≤ 1000) with
  | false => simp only [go_sem, d1]
  | true =>
    simp only [go_sem, d1, w1]
    refine c26b.call rfl rfl rfl ?_
    cases d2 : decide (0 ≤ c.st ∧ c.st < (n : Int)) with
    | false => simp only [go_sem, d1, d2]
    | true =>
      simp only [go_sem, d1, d2]
      refine c28a.call rfl rfl rfl ?_
      simp only [go_sem]

theorem c16 (t : Town) (h1 : t.first.length ≤ 1000) (h2 : t.ch.length ≤ 1000) : PC prog 16 [.d t.d] (.d t.d) := by
  refine PC.run (fun _ => false) tt_ok (fn := f16) (rs := [.cell 2 25]) rfl rfl rfl rfl rfl rfl rfl ?_
  have s1 := sized_strs t.first
  have s2 := sized_chg t.ch
  have l1 : t.first.length ≤ 4294967296 := by omega
  have l2 : t.ch.length ≤ 4294967296 := by omega
  simp only [go_sem, Town.d]
  refine ADrw.treeG (fun _ => false) tt_ok (by kernel_rfl) (fun k => if k = 2 ∨ k = 6 then some .L else if k = 9 then some .W else some .S) (.ones [0, 1, 2, 3, 4, 5, 6, 7, 8, 9] .done) (Nat.zero_le _) (fun _ h => nomatch h) rfl rfl (by kernel_rfl) ?_
  simp only [go_sem, s1, s2, l1, l2, List.length_map, show sized 1 [] = true from rfl, show sized 3 [] = true from rfl]

theorem beq_self_dec {α : Type} [DecidableEq α] (l : α) : decide (l = l) = true := by simp

theorem c20 (t : Town) (h1 : t.first.length ≤ 1000) (h2 : t.ch.length ≤ 1000) : PC prog 20 [.d t.d, .d t.d] (.d (.bool true)) := by
  refine PC.run (fun _ => false) tt_ok (fn := f20) (rs := [.tmp 4]) rfl rfl rfl rfl rfl rfl rfl ?_
  simp only [go_sem, Town.d]
  refine (c31 t.first t.first (by omega) (by omega)).call rfl rfl rfl ?_
  simp only [go_sem, beq_self_dec, List.length_map]
  refine ALoop.by (S := Nat) (fun i => [(5, .d (.int .i64 i)), (3, .ptr 1 0), (2, .ptr 0 0)]) (fun _ => [townB t, townB t]) (fun i => t.ch.length - i) (fun i => i ≤ t.ch.length) 0 (Nat.zero_le _) (fun _ h => nomatch h) (Nat.zero_le _) (ForgetTo.same' (Nat.zero_le _) ⟨rfl, rfl, rfl, trivial⟩ rfl) ?_
  rintro i hi hn
  refine AWP.run (fun _ => false) tt_ok (fun _ h => nomatch h) (Nat.zero_le _) rfl ?_
  simp only [go_sem, townB, List.length_map]
  refine Br_split (fun hd => ?_) (fun hd => ?_) <;> simp only [go_sem, hd]
  have hlt : i < t.ch.length := by simpa using hd
  have hix : idx? (t.ch.map Chg.d) (i : Int) = some t.ch[i].d := by simp [idx?, List.getElem?_eq_getElem hlt]
  have hcd : t.ch[i].d = .agg [.int .i64 t.ch[i].at', .int .i64 t.ch[i].st, .str t.ch[i].name] := rfl
  have hnx : IntKind.i64.wrap ((i : Int) + 1) = ((i + 1 : Nat) : Int) := by rw [w64 (by omega) (by omega)]; omega
  rw [hcd] at hix
  generalize t.ch[i].at' = x1 at *
  generalize t.ch[i].st = x2 at *
  generalize t.ch[i].name = x3 at *
  refine ADrw.treeG (fun _ => false) tt_ok (by kernel_rfl) (fun k => if k = 1 ∨ k = 6 then some .L else some .S) (.ones [0, 1, 2, 3, 4, 5, 6, 7, 8, 9, 10] .done) (Nat.zero_le _) (fun _ h => nomatch h) rfl rfl (by kernel_rfl) ?_
  simp only [go_sem, hix, beq_self_dec, beq_ba, hnx]
  exact ⟨i + 1, hlt, by omega, ForgetTo.same' (Nat.zero_le _) ⟨rfl, rfl, rfl, trivial⟩ rfl⟩

theorem callP_succ (l : List Chg) (z : ByteArray) (s : Nat) (hour : Int) {i : Nat} (hi : i < l.length) : callP (l.take (i + 1)) z s hour = if l[i].st = (s : Int) ∧ l[i].at' ≤ hour ∧ (callP (l.take i) z s hour).2 ≤ l[i].at' then (l[i].name, l[i].at') else callP (l.take i) z s hour := by
  rw [List.take_succ_eq_append_getElem hi, callP, List.foldl_append]; rfl

theorem c27 (t : Town) (h2 : t.ch.length ≤ 1000) {s : Nat} (hs : s < t.first.length) (hour : Int) : PC prog 27 [.d t.d, .d (.int .i64 s), .d (.int .i64 hour)] (.d (.str (calledT t s hour))) := by
  refine PC.run (fun _ => false) tt_ok (fn := f27) (rs := [.tmp 6]) rfl rfl rfl rfl rfl rfl rfl ?_
  have hix : idx? (t.first.map D.str) (s : Int) = some (.str (t.first.getD s default)) := by rw [getDG hs]; simp [idx?, List.getElem?_eq_getElem hs]
  simp only [go_sem, Town.d, hix]
  rw [calledT]
  generalize t.first.getD s default = z at *
  refine ALoop.by (S := Nat) (fun i => [(9, .d (.int .i64 i)), (8, .d (.int .i64 (callP (t.ch.take i) z s hour).2)), (7, .d (.str (callP (t.ch.take i) z s hour).1)), (3, .ptr 0 0), (2, .d (.int .i64 hour)), (1, .d (.int .i64 s))]) (fun _ => [townB t]) (fun i => t.ch.length - i) (fun i => i ≤ t.ch.length) 0 (Nat.zero_le _) (fun _ h => nomatch h) (Nat.zero_le _) (ForgetTo.same' (Nat.zero_le _) ⟨rfl, rfl, rfl, rfl, rfl, rfl, trivial⟩ rfl) ?_
  rintro i hi hn
  refine AWP.run (fun _ => false) tt_ok (fun _ h => nomatch h) (Nat.zero_le _) rfl ?_
  simp only [go_sem, townB, List.length_map]
  refine Br_split (fun hd => ?_) (fun hd => ?_) <;> simp only [go_sem, hd]
  · have hlt : i < t.ch.length := by simpa using hd
    have hix : idx? (t.ch.map Chg.d) (i : Int) = some t.ch[i].d := by simp [idx?, List.getElem?_eq_getElem hlt]
    have hcd : t.ch[i].d = .agg [.int .i64 t.ch[i].at', .int .i64 t.ch[i].st, .str t.ch[i].name] := rfl
    have hnx : IntKind.i64.wrap ((i : Int) + 1) = ((i + 1 : Nat) : Int) := by rw [w64 (by omega) (by omega)]; omega
    have hsu := callP_succ t.ch z s hour hlt
    rw [hcd] at hix
    have fin : ∀ (p : ByteArray × Int) (E : Env), p = callP (t.ch.take (i + 1)) z s hour → EWp 1 [townB t, .cells [.d (.int .i64 t.ch[i].at'), .d (.int .i64 t.ch[i].st), .d (.str t.ch[i].name)]] E [(9, .d (.int .i64 ((i + 1 : Nat) : Int))), (8, .d (.int .i64 p.2)), (7, .d (.str p.1)), (3, .ptr 0 0), (2, .d (.int .i64 hour)), (1, .d (.int .i64 s))] →
        ∃ s', s' ≤ t.ch.length ∧ t.ch.length - s' < t.ch.length - i ∧ ForgetTo 0 E [townB t, .cells [.d (.int .i64 t.ch[i].at'), .d (.int .i64 t.ch[i].st), .d (.str t.ch[i].name)]] [(9, .d (.int .i64 s')), (8, .d (.int .i64 (callP (t.ch.take s') z s hour).2)), (7, .d (.str (callP (t.ch.take s') z s hour).1)), (3, .ptr 0 0), (2, .d (.int .i64 hour)), (1, .d (.int .i64 s))] [townB t] := fun p E hp hE => by
      subst hp
      exact ⟨i + 1, hlt, by omega, ForgetTo.drop (H0 := [_]) (Y := [_]) (Nat.zero_le _) rfl (by simp [BBs, BB, VBs, VB, townB]) hE⟩
    rw [hsu] at fin
    simp only [townB] at fin
    generalize callP (t.ch.take i) z s hour = p at *
    generalize t.ch[i].at' = x1 at *
    generalize t.ch[i].st = x2 at *
    generalize t.ch[i].name = x3 at *
    simp only [go_sem, hix]
    by_cases h1 : x2 = (s : Int)
    · simp only [go_sem, decide_eq_true h1]
      by_cases h3 : x1 ≤ hour
      · simp only [go_sem, decide_eq_true h3]
        by_cases h4 : p.2 ≤ x1
        · rw [if_pos ⟨h1, h3, h4⟩] at fin
          simp only [go_sem, decide_eq_true h4]
          refine ADrw.treeG (fun _ => false) tt_ok (by kernel_rfl) (fun k => if k = 1 ∨ k = 3 then some .L else some .S) (.ones [0, 1, 2, 3, 4, 5] .done) (Nat.zero_le _) (fun _ h => nomatch h) rfl rfl (by kernel_rfl) ?_
          simp only [go_sem, hnx]
          exact fin (x3, x1) _ rfl (by simp [EWp, Env.look, pubV])
        · rw [if_neg (fun h => h4 h.2.2)] at fin
          simp only [go_sem, decide_eq_false h4, hnx]
          exact fin p _ rfl (by simp [EWp, Env.look, pubV])
      · rw [if_neg (fun h => h3 h.2.1)] at fin
        simp only [go_sem, decide_eq_false h3, hnx]
        exact fin p _ rfl (by simp [EWp, Env.look, pubV])
    · rw [if_neg (fun h => h1 h.1)] at fin
      simp only [go_sem, decide_eq_false h1, hnx]
      exact fin p _ rfl (by simp [EWp, Env.look, pubV])
  · have hie : i = t.ch.length := by simp only [decide_eq_false_iff_not] at hd; omega
    subst hie
    rw [List.take_length]
end Go.Aw
end

section
set_option maxRecDepth 100000
namespace Go.Aw
open Go Go.Proofs.Tryz

/-- How many changes of a street there are in an hour, among the first ones. -/
def cntC (t : Town) (h : Int) (s i : Nat) : Nat := ((t.ch.take i).filter fun c => decide (c.at' = h ∧ c.st = (s : Int))).length
theorem cntC_succ (t : Town) (h : Int) (s : Nat) {i : Nat} (hi : i < t.ch.length) : cntC t h s (i + 1) = cntC t h s i + if t.ch[i].at' = h ∧ t.ch[i].st = (s : Int) then 1 else 0 := by
  rw [cntC, cntC, List.take_succ_eq_append_getElem hi, List.filter_append, List.length_append]
  congr 1
  rw [List.filter_cons, List.filter_nil]
  split <;> simp_all
theorem cntC_le (t : Town) (h : Int) (s i : Nat) : cntC t h s i ≤ i := by
  have := List.length_filter_le (fun c : Chg => decide (c.at' = h ∧ c.st = (s : Int))) (t.ch.take i)
  have h2 := List.length_take_le i t.ch
  rw [cntC]; omega

/-- Is a street called as another one of the first ones? -/
def likeC (t : Town) (h : Int) (s o : Nat) : Bool := (List.range o).any fun o => !decide (o = s) && decide (calledT t o h = calledT t s h)
theorem likeC_succ (t : Town) (h : Int) (s o : Nat) : likeC t h s (o + 1) = (likeC t h s o || (!decide (o = s) && decide (calledT t o h = calledT t s h))) := by
  rw [likeC, List.range_succ, List.any_append]; simp [likeC]

theorem count_two {α : Type} [DecidableEq α] [Inhabited α] : ∀ (l : List α) (s : Nat), s < l.length → (1 < cntL (l.getD s default) l ↔ ∃ o, o < l.length ∧ o ≠ s ∧ l.getD o default = l.getD s default)
  | [], s, h => by simp at h
  | a :: l, 0, _ => by
    have e : cntL ((a :: l).getD 0 default) (a :: l) = cntL a l + 1 := by simp [cntL]
    rw [e]
    constructor
    · intro h
      have hm : a ∈ l := List.count_pos_iff.1 (by rw [cntL] at h; omega)
      obtain ⟨i, hi, he⟩ := List.getElem_of_mem hm
      exact ⟨i + 1, by simpa using hi, by omega, by simp [List.getElem?_eq_getElem hi, he]⟩
    · rintro ⟨o, h1, h2, h3⟩
      obtain ⟨i, rfl⟩ : ∃ i, o = i + 1 := ⟨o - 1, by omega⟩
      have hi : i < l.length := by simpa using h1
      have hm : a ∈ l := by
        simp [List.getElem?_eq_getElem hi] at h3
        rw [← h3]; exact List.getElem_mem _
      have : 0 < cntL a l := List.count_pos_iff.2 hm
      omega
  | a :: l, s + 1, h => by
    have hs : s < l.length := by simpa using h
    have ih := count_two l s hs
    have e0 : (a :: l).getD (s + 1) default = l.getD s default := by simp
    rw [e0]
    have e : cntL (l.getD s default) (a :: l) = cntL (l.getD s default) l + if a = l.getD s default then 1 else 0 := by
      rw [cntL, cntL, List.count_cons]
      simp
    have hp : 0 < cntL (l.getD s default) l := List.count_pos_iff.2 (by rw [getDG hs]; exact List.getElem_mem _)
    rw [e]
    by_cases ha : a = l.getD s default
    · rw [if_pos ha]
      exact ⟨fun _ => ⟨0, by simp, by omega, by simpa using ha⟩, fun _ => by omega⟩
    · rw [if_neg ha, Nat.add_zero, ih]
      constructor
      · rintro ⟨o, h1, h2, h3⟩
        exact ⟨o + 1, by simpa using h1, by omega, by simpa using h3⟩
      · rintro ⟨o, h1, h2, h3⟩
        cases o with
        | zero => exact absurd (by simpa using h3) ha
        | succ o => exact ⟨o, by simpa using h1, by omega, by simpa using h3⟩

theorem like_iff (t : Town) (h : Int) {s : Nat} (hs : s < t.first.length) : likeC t h s t.first.length = decide (1 < cntL (calledT t s h) (namesT t h)) := by
  have := count_two (namesT t h) s (by rw [namesT_len]; exact hs)
  rw [namesT_get hs, namesT_len] at this
  rw [Bool.eq_iff_iff, decide_eq_true_eq, this, likeC, List.any_eq_true]
  constructor
  · rintro ⟨o, h1, h2⟩
    simp only [Bool.and_eq_true, Bool.not_eq_true', decide_eq_false_iff_not, decide_eq_true_eq, List.mem_range] at h1 h2
    exact ⟨o, h1, h2.1, by rw [namesT_get h1]; exact h2.2⟩
  · rintro ⟨o, h1, h2, h3⟩
    rw [namesT_get h1] at h3
    exact ⟨o, List.mem_range.2 h1, by simp [h2, h3]⟩

def twC (t : Town) (h : Int) (k : Nat) : List Int := natI ((List.range k).filter fun s => decide (1 < cntC t h s t.ch.length))
def alC (t : Town) (h : Int) (k : Nat) : List Int := natI ((List.range k).filter fun s => likeC t h s t.first.length)
theorem twC_succ (t : Town) (h : Int) (k : Nat) : twC t h (k + 1) = twC t h k ++ if 1 < cntC t h k t.ch.length then [(k : Int)] else [] := by
  rw [twC, twC, natI, natI, List.range_succ, List.filter_append, List.map_append]
  congr 1
  rw [List.filter_cons, List.filter_nil]
  split <;> simp_all
theorem alC_succ (t : Town) (h : Int) (k : Nat) : alC t h (k + 1) = alC t h k ++ if likeC t h k t.first.length = true then [(k : Int)] else [] := by
  rw [alC, alC, natI, natI, List.range_succ, List.filter_append, List.map_append]
  congr 1
  rw [List.filter_cons, List.filter_nil]
  split <;> simp_all
theorem twC_len (t : Town) (h : Int) (k : Nat) : (twC t h k).length ≤ k := by
  have := List.length_filter_le (fun s => decide (1 < cntC t h s t.ch.length)) (List.range k)
  rw [twC, natI, List.length_map]; simpa using this
theorem alC_len (t : Town) (h : Int) (k : Nat) : (alC t h k).length ≤ k := by
  have := List.length_filter_le (fun s => likeC t h s t.first.length) (List.range k)
  rw [alC, natI, List.length_map]; simpa using this

theorem clash_C (t : Town) (h : Int) : natI (clashT t h) = if twC t h t.first.length = [] then alC t h t.first.length else twC t h t.first.length := by
  have e1 : twC t h t.first.length = natI (twiceT t h) := by
    rw [twC, twiceT]
    congr 1
    refine List.filter_congr fun s _ => ?_
    rw [cntC, List.take_length]
  have e2 : alC t h t.first.length = natI (alikeT t h) := by
    rw [alC, alikeT]
    congr 1
    refine List.filter_congr fun s hs => ?_
    exact like_iff t h (by simpa using hs)
  rw [e1, e2, clashT]
  by_cases h0 : twiceT t h = []
  · rw [if_neg (by rw [h0]; simp), if_pos (by rw [h0]; rfl)]
  · rw [if_pos h0, if_neg (show ¬ natI (twiceT t h) = [] from fun e => h0 (List.map_eq_nil_iff.1 e))]

theorem c75 (t : Town) (h1 : t.first.length ≤ 1000) (h2 : t.ch.length ≤ 1000) (hour : Int) : PC prog 75 [.d t.d, .d (.int .i64 hour)] (.d (.sl ((natI (clashT t hour)).map (.int .i64)))) := by
  refine PC.run (fun k => k == 12 || k == 13) tt_ok (fn := f75) (rs := [.tmp 4]) rfl rfl rfl rfl rfl rfl rfl ?_
  simp only [go_sem, Town.d]
  refine ALoop.by (S := Nat) (fun s => [(7, .d (.int .i64 s)), (6, .ref 2 (alC t hour s).length 0 (alC t hour s).length), (5, .ref 1 (twC t hour s).length 0 (twC t hour s).length), (2, .ptr 0 0), (1, .d (.int .i64 hour))])
    (fun s => [townB t, .arr 1 false ((twC t hour s).map (.int .i64)), .arr 1 false ((alC t hour s).map (.int .i64))]) (fun s => t.first.length - s) (fun s => s ≤ t.first.length) 0 (Nat.zero_le _) (fun _ h => nomatch h) (Nat.zero_le _) (ForgetTo.same' (Nat.zero_le _) ⟨rfl, rfl, rfl, rfl, rfl, trivial⟩ rfl) ?_
  rintro s hs hn
  refine AWP.run (fun _ => false) tt_ok (fun _ h => nomatch h) (Nat.zero_le _) rfl ?_
  simp only [go_sem, townB, List.length_map]
  refine Br_split (fun hd => ?_) (fun hd => ?_) <;> simp only [go_sem, hd]
  · have hlt : s < t.first.length := by simpa using hd
    have hnx : IntKind.i64.wrap ((s : Int) + 1) = ((s + 1 : Nat) : Int) := by rw [w64 (by omega) (by omega)]; omega
    have hu1 := twC_succ t hour s
    have hu2 := alC_succ t hour s
    have hl1 := twC_len t hour s
    have hl2 := alC_len t hour s
    have fin : ∀ (A B : List Int) (E : Env), A = twC t hour (s + 1) → B = alC t hour (s + 1) → EWe E [(7, .d (.int .i64 ((s + 1 : Nat) : Int))), (6, .ref 2 B.length 0 B.length), (5, .ref 1 A.length 0 A.length), (2, .ptr 0 0), (1, .d (.int .i64 hour))] →
        ∃ s', s' ≤ t.first.length ∧ t.first.length - s' < t.first.length - s ∧ ForgetTo 0 E [townB t, .arr 1 false (A.map (.int .i64)), .arr 1 false (B.map (.int .i64))] [(7, .d (.int .i64 s')), (6, .ref 2 (alC t hour s').length 0 (alC t hour s').length), (5, .ref 1 (twC t hour s').length 0 (twC t hour s').length), (2, .ptr 0 0), (1, .d (.int .i64 hour))]
          [townB t, .arr 1 false ((twC t hour s').map (.int .i64)), .arr 1 false ((alC t hour s').map (.int .i64))] := fun A B E hA hB hE => by
      subst hA hB
      exact ⟨s + 1, hlt, by omega, ForgetTo.same' (Nat.zero_le _) hE rfl⟩
    rw [hu1, hu2] at fin
    clear hu1 hu2
    simp only [townB] at fin
    generalize twC t hour s = A at *
    generalize alC t hour s = B at *
    refine ALoop.by (S := Nat) (fun i => [(10, .d (.int .i64 i)), (9, .d (.bool false)), (8, .d (.int .i64 (cntC t hour s i))), (7, .d (.int .i64 s)), (6, .ref 2 B.length 0 B.length), (5, .ref 1 A.length 0 A.length), (2, .ptr 0 0), (1, .d (.int .i64 hour))])
      (fun _ => [townB t, .arr 1 false (A.map (.int .i64)), .arr 1 false (B.map (.int .i64))]) (fun i => t.ch.length - i) (fun i => i ≤ t.ch.length) 0 (Nat.zero_le _) (fun _ h => nomatch h) (Nat.zero_le _) (ForgetTo.same' (Nat.zero_le _) ⟨rfl, rfl, rfl, rfl, rfl, rfl, rfl, rfl, trivial⟩ rfl) ?_
    rintro i hi hn2
    refine AWP.run (fun _ => false) tt_ok (fun _ h => nomatch h) (Nat.zero_le _) rfl ?_
    simp only [go_sem, townB, List.length_map]
    refine Br_split (fun hd => ?_) (fun hd => ?_) <;> simp only [go_sem, hd]
    · have hit : i < t.ch.length := by simpa using hd
      have hix : idx? (t.ch.map Chg.d) (i : Int) = some t.ch[i].d := by simp [idx?, List.getElem?_eq_getElem hit]
      have hcd : t.ch[i].d = .agg [.int .i64 t.ch[i].at', .int .i64 t.ch[i].st, .str t.ch[i].name] := rfl
      have hni : IntKind.i64.wrap ((i : Int) + 1) = ((i + 1 : Nat) : Int) := by rw [w64 (by omega) (by omega)]; omega
      have hcs := cntC_succ t hour s hit
      have hcl := cntC_le t hour s i
      have hnc : IntKind.i64.wrap ((cntC t hour s i : Int) + 1) = ((cntC t hour s i + 1 : Nat) : Int) := by rw [w64 (by omega) (by omega)]; omega
      rw [hcd] at hix
      generalize t.ch[i].at' = x1 at *
      generalize t.ch[i].st = x2 at *
      generalize t.ch[i].name = x3 at *
      simp only [go_sem, hix]
      by_cases g1 : x1 = hour
      · simp only [go_sem, decide_eq_true g1, hix]
        by_cases g2 : x2 = (s : Int)
        · rw [if_pos ⟨g1, g2⟩] at hcs
          simp only [go_sem, decide_eq_true g2, hni, hnc]
          exact ⟨i + 1, hit, by omega, ForgetTo.same' (Nat.zero_le _) (by simp [EWe, Env.look, hcs]) rfl⟩
        · rw [if_neg (fun h => g2 h.2)] at hcs
          simp only [go_sem, decide_eq_false g2, hni]
          exact ⟨i + 1, hit, by omega, ForgetTo.same' (Nat.zero_le _) (by simp [EWe, Env.look, hcs]) rfl⟩
      · rw [if_neg (fun h => g1 h.1)] at hcs
        simp only [go_sem, decide_eq_false g1, hni]
        exact ⟨i + 1, hit, by omega, ForgetTo.same' (Nat.zero_le _) (by simp [EWe, Env.look, hcs]) rfl⟩
    · have hie : i = t.ch.length := by simp only [decide_eq_false_iff_not] at hd; omega
      subst hie
      have hcle := cntC_le t hour s t.ch.length
      generalize hC : cntC t hour s t.ch.length = C at *
      refine ALoop.by (S := Nat) (fun o => [(11, .d (.int .i64 o)), (9, .d (.bool (likeC t hour s o))), (8, .d (.int .i64 C)), (7, .d (.int .i64 s)), (6, .ref 2 B.length 0 B.length), (5, .ref 1 A.length 0 A.length), (2, .ptr 0 0), (1, .d (.int .i64 hour))])
        (fun _ => [townB t, .arr 1 false (A.map (.int .i64)), .arr 1 false (B.map (.int .i64))]) (fun o => t.first.length - o) (fun o => o ≤ t.first.length) 0 (Nat.zero_le _) (fun _ h => nomatch h) (Nat.zero_le _) (ForgetTo.same' (Nat.zero_le _) ⟨rfl, rfl, rfl, rfl, rfl, rfl, rfl, rfl, trivial⟩ rfl) ?_
      rintro o ho hn3
      refine AWP.run (fun _ => false) tt_ok (fun _ h => nomatch h) (Nat.zero_le _) rfl ?_
      simp only [go_sem, townB, List.length_map]
      refine Br_split (fun hd => ?_) (fun hd => ?_) <;> simp only [go_sem, hd]
      · have hot : o < t.first.length := by simpa using hd
        have hno : IntKind.i64.wrap ((o : Int) + 1) = ((o + 1 : Nat) : Int) := by rw [w64 (by omega) (by omega)]; omega
        have hls := likeC_succ t hour s o
        have c27a := c27 t h2 hot hour
        have c27b := c27 t h2 hlt hour
        simp only [Town.d] at c27a c27b
        generalize calledT t o hour = co at *
        generalize calledT t s hour = cs at *
        refine ADrw.treeG (fun _ => false) tt_ok (by kernel_rfl) (fun k => if k = 6 ∨ k = 10 then some .L else some .S) (.ones [0, 1, 2, 3, 4, 5, 6, 7, 8, 9, 10, 11, 12, 13, 14, 15, 16, 17] .done) (Nat.zero_le _) (fun _ h => nomatch h) rfl rfl (by kernel_rfl) ?_
        cases hlk : likeC t hour s o with
        | true =>
          rw [hlk, Bool.true_or] at hls
          simp only [go_sem, hno]
          exact ⟨o + 1, hot, by omega, ForgetTo.same' (Nat.zero_le _) (by simp [EWe, Env.look, hls]) rfl⟩
        | false =>
          rw [hlk, Bool.false_or] at hls
          by_cases hos : o = s
          · rw [decide_eq_true hos, Bool.not_true, Bool.false_and] at hls
            have d1 : decide ((o : Int) = (s : Int)) = true := decide_eq_true (by omega)
            simp only [go_sem, d1, hno]
            exact ⟨o + 1, hot, by omega, ForgetTo.same' (Nat.zero_le _) (by simp [EWe, Env.look, hls]) rfl⟩
          · rw [decide_eq_false hos, Bool.not_false, Bool.true_and] at hls
            have d1 : decide ((o : Int) = (s : Int)) = false := decide_eq_false (by omega)
            simp only [go_sem, d1]
            refine c27a.callS rfl rfl rfl rfl rfl rfl ?_
            simp only [go_sem]
            refine c27b.callS rfl rfl rfl rfl rfl rfl ?_
            simp only [go_sem, beq_str, hno]
            exact ⟨o + 1, hot, by omega, ForgetTo.same' (Nat.zero_le _) (by simp [EWe, Env.look, hls]) rfl⟩
      · have hoe : o = t.first.length := by simp only [decide_eq_false_iff_not] at hd; omega
        subst hoe
        have lA : (A.map (D.int .i64)).length = A.length := by simp
        have lB : (B.map (D.int .i64)).length = B.length := by simp
        have dA : decide (A.length ≤ 4294967295) = true := decide_eq_true (by omega)
        have dB : decide (B.length ≤ 4294967295) = true := decide_eq_true (by omega)
        have mA : (A ++ [(s : Int)]).map (D.int .i64) = A.map (.int .i64) ++ [.int .i64 s] := by simp
        have mB : (B ++ [(s : Int)]).map (D.int .i64) = B.map (.int .i64) ++ [.int .i64 s] := by simp
        generalize likeC t hour s t.first.length = K at *
        by_cases g1 : 1 < C
        · have d1 : decide ((1 : Int) < (C : Int)) = true := decide_eq_true (by omega)
          rw [if_pos g1] at fin
          cases K with
          | true =>
            rw [if_pos rfl] at fin
            have fin := fun E => fin (A ++ [(s : Int)]) (B ++ [(s : Int)]) E rfl rfl
            rw [mA, mB] at fin
            simp only [go_sem, d1, lA, lB, dA, dB, hnx]
            exact fin _ (by simp [EWe, Env.look])
          | false =>
            rw [if_neg (by simp), List.append_nil] at fin
            have fin := fun E => fin (A ++ [(s : Int)]) B E rfl rfl
            rw [mA] at fin
            simp only [go_sem, d1, lA, lB, dA, dB, hnx]
            exact fin _ (by simp [EWe, Env.look])
        · have d1 : decide ((1 : Int) < (C : Int)) = false := decide_eq_false (by omega)
          rw [if_neg g1, List.append_nil] at fin
          cases K with
          | true =>
            rw [if_pos rfl] at fin
            have fin := fun E => fin A (B ++ [(s : Int)]) E rfl rfl
            rw [mB] at fin
            simp only [go_sem, d1, lA, lB, dA, dB, hnx]
            exact fin _ (by simp [EWe, Env.look])
          | false =>
            rw [if_neg (by simp), List.append_nil] at fin
            have fin := fun E => fin A B E rfl rfl
            simp only [go_sem, d1, hnx]
            exact fin _ (by simp [EWe, Env.look])
  · have hie : s = t.first.length := by simp only [decide_eq_false_iff_not] at hd; omega
    subst hie
    rw [clash_C]
    have t1 : ((twC t hour t.first.length).map (D.int .i64)).take (twC t hour t.first.length).length = (twC t hour t.first.length).map (.int .i64) := List.take_of_length_le (by simp)
    have t2 : ((alC t hour t.first.length).map (D.int .i64)).take (alC t hour t.first.length).length = (alC t hour t.first.length).map (.int .i64) := List.take_of_length_le (by simp)
    by_cases h0 : twC t hour t.first.length = []
    · rw [if_pos h0]
      have d1 : decide ((0 : Int) < ((twC t hour t.first.length).length : Int)) = false := decide_eq_false (by rw [h0]; simp)
      simp only [go_sem, List.length_map, d1, t2]
    · rw [if_neg h0]
      have d1 : decide ((0 : Int) < ((twC t hour t.first.length).length : Int)) = true := decide_eq_true (by have := List.length_pos_iff.2 h0; omega)
      simp only [go_sem, List.length_map, d1, t1]
end Go.Aw
end

section
set_option maxRecDepth 100000
namespace Go.Aw
open Go Go.Proofs.Tryz

def firstV (t : Town) : List V :=
  if (nbT t).2.2 = [] then [.d (.int .i64 1001), .slx (some true) []] else [.d (.int .i64 (nbT t).2.1), .d (.sl ((nbT t).2.2.map (.int .i64)))]

theorem c21 (t : Town) (ht : t.Ok) : PC prog 21 [.d t.d] (.tup (firstV t)) := by
  have hl1 := ht.len.2
  have hl2 := ht.chl
  refine PC.run (fun _ => false) tt_ok (fn := f21) (rs := [.tmp 2, .tmp 3]) rfl rfl rfl rfl rfl rfl rfl ?_
  simp only [go_sem, Town.d]
  refine ALoop.by (S := Nat) (fun h => [(4, .d (.int .i64 h)), (1, .ptr 0 0)]) (fun _ => [townB t]) (fun h => 1001 - h) (fun h => (1 ≤ h ∧ h ≤ 1001) ∧ ∀ k : Int, 1 ≤ k → k < h → clashT t k = []) 1 (Nat.zero_le _) (fun _ h => nomatch h) ⟨by omega, fun k h1 h2 => by omega⟩ (ForgetTo.same' (Nat.zero_le _) ⟨rfl, rfl, trivial⟩ rfl) ?_
  rintro h ⟨⟨h1, h2⟩, hcl⟩ hn
  refine AWP.run (fun _ => false) tt_ok (fun _ h => nomatch h) (Nat.zero_le _) rfl ?_
  simp only [go_sem, townB]
  refine Br_split (fun hd => ?_) (fun hd => ?_) <;> simp only [go_sem, hd]
  · have hle : h ≤ 1000 := by simp only [decide_eq_true_eq] at hd; omega
    have hnx : IntKind.i64.wrap ((h : Int) + 1) = ((h + 1 : Nat) : Int) := by rw [w64 (by omega) (by omega)]; omega
    refine (c75 t (by omega) (by omega) h).call rfl rfl rfl ?_
    simp only [go_sem, List.length_map]
    refine Br_split (fun he => ?_) (fun he => ?_) <;> simp only [go_sem, he]
    · have hne : clashT t h ≠ [] := fun e => by rw [e] at he; simp [natI] at he
      have hv : firstV t = [.d (.int .i64 h), .d (.sl ((natI (clashT t h)).map (.int .i64)))] := by
        rcases nbT_spec ht with ⟨k, hk, e, hne2, hb⟩ | ⟨_, h3, _⟩
        · have hkh : k = h := by
            rcases Int.lt_trichotomy k h with hh | hh | hh
            · exact absurd (hcl k hk.1 hh) hne2
            · exact hh
            · exact absurd (hb h (by omega) hh) hne
          subst hkh
          rw [firstV, e, if_neg (show ¬ natI (clashT t h) = [] from fun e => hne (List.map_eq_nil_iff.1 e))]
        · exact absurd (h3 h (by omega)) hne
      rw [hv]
    · have hne : clashT t h = [] := by
        cases hc : clashT t h with
        | nil => rfl
        | cons a b => rw [hc] at he; simp [natI] at he
      simp only [go_sem, hnx]
      refine ⟨h + 1, ⟨⟨by omega, by omega⟩, fun k k1 k2 => ?_⟩, by omega, ForgetTo.same' (Nat.zero_le _) ⟨rfl, rfl, trivial⟩ rfl⟩
      rcases Int.lt_or_le k h with hh | hh
      · exact hcl k k1 hh
      · rw [show k = h by omega]; exact hne
  · have hh : h = 1001 := by simp only [decide_eq_false_iff_not] at hd; omega
    have hv : firstV t = [.d (.int .i64 1001), .slx (some true) []] := by
      rcases nbT_spec ht with ⟨k, hk, e, hne2, hb⟩ | ⟨e, _, _⟩
      · exact absurd (hcl k hk.1 (by omega)) hne2
      · rw [firstV, e]; rfl
    rw [hv]

theorem chk4 {t : Town} (h : ¬ (1 ≤ t.first.length ∧ t.first.length ≤ 6) ∨ (∃ i, i < t.first.length ∧ nm (t.first.getD i default) = false) ∨ ∃ k i, k < i ∧ i < t.first.length ∧ t.first.getD k default = t.first.getD i default) : checkT t = 4 := by
  rw [checkT]
  by_cases h1 : (!(decide (1 ≤ t.first.length) && decide (t.first.length ≤ 6)) || t.first.any fun s => !nm s) = true
  · rw [if_pos h1]
  · rw [if_neg h1, if_pos]
    simp only [Bool.not_eq_true, Bool.or_eq_false_iff, Bool.not_eq_false', Bool.and_eq_true, decide_eq_true_eq, List.any_eq_false, Bool.not_eq_true', Bool.not_eq_false] at h1
    rcases h with h | ⟨i, hi, h⟩ | ⟨k, i, hk, hi, h⟩
    · exact absurd h1.1 h
    · rw [getDG hi] at h
      exact absurd (h1.2 _ (List.getElem_mem hi)) (by simp [h])
    · intro e
      have : i ∈ twinsP t.first := List.mem_filter.2 ⟨List.mem_range.2 hi, decide_eq_true ((count_two t.first i hi).2 ⟨k, by omega, by omega, h⟩)⟩
      rw [e] at this; cases this

theorem chkR {t : Town} (h0 : 1 ≤ t.first.length ∧ t.first.length ≤ 6) (h1 : ∀ i, i < t.first.length → nm (t.first.getD i default) = true) (h2 : ∀ i k, k < i → i < t.first.length → t.first.getD k default ≠ t.first.getD i default) :
    checkT t = if t.ch.length > 8 then 5 else if t.ch.any (fun c => !chgOk t.first.length c) then 2 else 0 := by
  rw [checkT, if_neg, if_neg]
  · rw [ne_eq, Classical.not_not, twinsP, List.filter_eq_nil_iff]
    intro i hi
    rw [decide_eq_true_eq, count_two t.first i (List.mem_range.1 hi)]
    rintro ⟨o, ho, hne, e⟩
    rcases Nat.lt_or_gt_of_ne hne with h | h
    · exact h2 i o h (List.mem_range.1 hi) e
    · exact h2 o i h ho e.symm
  · simp only [Bool.not_eq_true, Bool.or_eq_false_iff, Bool.not_eq_false', Bool.and_eq_true, decide_eq_true_eq, List.any_eq_false, Bool.not_eq_true', Bool.not_eq_false]
    refine ⟨h0, fun s hs => ?_⟩
    obtain ⟨i, hi, e⟩ := List.getElem_of_mem hs
    have := h1 i hi
    rwa [getDG hi, e] at this

theorem c19 (t : Town) (h1 : t.first.length ≤ 1000) (h2 : t.ch.length ≤ 1000) (hfn : ∀ s ∈ t.first, s.size ≤ 1000) (hcn : ∀ c ∈ t.ch, c.name.size ≤ 1000) : PC prog 19 [.d t.d] (.d (.int .i64 (checkT t))) := by
  refine PC.run (fun _ => false) tt_ok (fn := f19) (rs := [.tmp 2]) rfl rfl rfl rfl rfl rfl rfl ?_
  simp only [go_sem, Town.d, List.length_map]
  refine (c26 t.first.length 1 6).call rfl rfl rfl ?_
  cases hc : decide ((1 : Int) ≤ (t.first.length : Int) ∧ (t.first.length : Int) ≤ 6) with
  | false =>
    have : checkT t = 4 := chk4 (.inl (by simp only [decide_eq_false_iff_not] at hc; omega))
    rw [this]
    simp only [go_sem]
  | true =>
    have h0 : 1 ≤ t.first.length ∧ t.first.length ≤ 6 := by simp only [decide_eq_true_eq] at hc; omega
    simp only [go_sem]
    refine ALoop.by (S := Nat) (fun i => [(4, .d (.int .i64 i)), (3, .d (.int .i64 t.first.length)), (1, .ptr 0 0)]) (fun _ => [townB t]) (fun i => t.first.length - i)
      (fun i => i ≤ t.first.length ∧ (∀ j, j < i → nm (t.first.getD j default) = true) ∧ ∀ j k, k < j → j < i → t.first.getD k default ≠ t.first.getD j default) 0 (Nat.zero_le _) (fun _ h => nomatch h) ⟨Nat.zero_le _, fun _ h => by omega, fun _ _ _ h => by omega⟩ (ForgetTo.same' (Nat.zero_le _) ⟨rfl, rfl, rfl, trivial⟩ rfl) ?_
    rintro i ⟨hi, hA, hB⟩ hn
    refine AWP.run (fun _ => false) tt_ok (fun _ h => nomatch h) (Nat.zero_le _) rfl ?_
    simp only [go_sem, townB]
    refine Br_split (fun hd => ?_) (fun hd => ?_) <;> simp only [go_sem, hd]
    · have hlt : i < t.first.length := by simpa using hd
      have hix : idx? (t.first.map D.str) (i : Int) = some (.str (t.first.getD i default)) := by rw [getDG hlt]; simp [idx?, List.getElem?_eq_getElem hlt]
      have hsz : (t.first.getD i default).size ≤ 1000 := by rw [getDG hlt]; exact hfn _ (List.getElem_mem hlt)
      have hnx : IntKind.i64.wrap ((i : Int) + 1) = ((i + 1 : Nat) : Int) := by rw [w64 (by omega) (by omega)]; omega
      have bad := fun e => chk4 (t := t) (.inr (.inl ⟨i, hlt, e⟩))
      have bad2 := fun k hk e => chk4 (t := t) (.inr (.inr ⟨k, i, hk, hlt, e⟩))
      have c28a := c28 (t.first.getD i default) hsz
      have fin : (nm (t.first.getD i default) = true) → (∀ k, k < i → t.first.getD k default ≠ t.first.getD i default) → (∀ j, j < i + 1 → nm (t.first.getD j default) = true) ∧ ∀ j k, k < j → j < i + 1 → t.first.getD k default ≠ t.first.getD j default := fun e1 e2 => by
        refine ⟨fun j hj => ?_, fun j k hk hj => ?_⟩
        · rcases Nat.lt_or_ge j i with h | h
          · exact hA j h
          · rw [show j = i by omega]; exact e1
        · rcases Nat.lt_or_ge j i with h | h
          · exact hB j k hk h
          · rw [show j = i by omega] at hk ⊢; exact e2 k hk
      generalize hz : t.first.getD i default = z at *
      simp only [go_sem, hix]
      refine c28a.call rfl rfl rfl ?_
      cases hm : nm z with
      | false =>
        rw [bad hm]
        simp only [go_sem]
      | true =>
        simp only [go_sem]
        refine ALoop.by (S := Nat) (fun k => [(5, .d (.int .i64 k)), (4, .d (.int .i64 i)), (3, .d (.int .i64 t.first.length)), (1, .ptr 0 0)]) (fun _ => [townB t]) (fun k => i - k)
          (fun k => k ≤ i ∧ ∀ o, o < k → t.first.getD o default ≠ z) 0 (Nat.zero_le _) (fun _ h => nomatch h) ⟨Nat.zero_le _, fun _ h => by omega⟩ (ForgetTo.same' (Nat.zero_le _) ⟨rfl, rfl, rfl, rfl, trivial⟩ rfl) ?_
        rintro k ⟨hk, hC⟩ hn2
        refine AWP.run (fun _ => false) tt_ok (fun _ h => nomatch h) (Nat.zero_le _) rfl ?_
        simp only [go_sem, townB]
        refine Br_split (fun he => ?_) (fun he => ?_) <;> simp only [go_sem, he]
        · have hki : k < i := by simpa using he
          have hkx : idx? (t.first.map D.str) (k : Int) = some (.str (t.first.getD k default)) := by rw [getDG (show k < t.first.length by omega)]; simp [idx?, List.getElem?_eq_getElem (show k < t.first.length by omega)]
          have hnk : IntKind.i64.wrap ((k : Int) + 1) = ((k + 1 : Nat) : Int) := by rw [w64 (by omega) (by omega)]; omega
          refine ADrw.treeG (fun _ => false) tt_ok (by kernel_rfl) (fun k => if k = 1 ∨ k = 6 then some .L else some .S) (.ones [0, 1, 2, 3, 4, 5, 6, 7, 8, 9, 10] .done) (Nat.zero_le _) (fun _ h => nomatch h) rfl rfl (by kernel_rfl) ?_
          simp only [go_sem, hix, hkx, beq_str]
          refine Br_split (fun hf => ?_) (fun hf => ?_) <;> simp only [go_sem, hf]
          · rw [bad2 k hki (by simpa using hf)]
          · simp only [go_sem, hnk]
            refine ⟨k + 1, ⟨by omega, fun o ho => ?_⟩, by omega, ForgetTo.same' (Nat.zero_le _) ⟨rfl, rfl, rfl, rfl, trivial⟩ rfl⟩
            rcases Nat.lt_or_ge o k with h | h
            · exact hC o h
            · rw [show o = k by omega]; simpa using hf
        · have hki : k = i := by simp only [decide_eq_false_iff_not] at he; omega
          simp only [go_sem, hnx]
          exact ⟨i + 1, ⟨hlt, fin hm (hki ▸ hC)⟩, by omega, ForgetTo.same' (Nat.zero_le _) ⟨rfl, rfl, rfl, trivial⟩ rfl⟩
    · have hie : i = t.first.length := by simp only [decide_eq_false_iff_not] at hd; omega
      subst hie
      rw [chkR h0 hA hB]
      simp only [go_sem, List.length_map]
      refine Br_split (fun he => ?_) (fun he => ?_) <;> simp only [go_sem, he]
      · rw [if_pos (by simp only [decide_eq_true_eq] at he; omega)]
      · rw [if_neg (by simp only [decide_eq_false_iff_not] at he; omega)]
        refine ALoop.by (S := Nat) (fun i => [(6, .d (.int .i64 i)), (3, .d (.int .i64 t.first.length)), (1, .ptr 0 0)]) (fun _ => [townB t]) (fun i => t.ch.length - i)
          (fun i => i ≤ t.ch.length ∧ (t.ch.take i).any (fun c => !chgOk t.first.length c) = false) 0 (Nat.zero_le _) (fun _ h => nomatch h) ⟨Nat.zero_le _, rfl⟩ (ForgetTo.same' (Nat.zero_le _) ⟨rfl, rfl, rfl, trivial⟩ rfl) ?_
        rintro j ⟨hj, hx⟩ hn2
        refine AWP.run (fun _ => false) tt_ok (fun _ h => nomatch h) (Nat.zero_le _) rfl ?_
        simp only [go_sem, townB, List.length_map]
        refine Br_split (fun hf => ?_) (fun hf => ?_) <;> simp only [go_sem, hf]
        · have hlt : j < t.ch.length := by simpa using hf
          have hix : idx? (t.ch.map Chg.d) (j : Int) = some t.ch[j].d := by simp [idx?, List.getElem?_eq_getElem hlt]
          have hnj : IntKind.i64.wrap ((j : Int) + 1) = ((j + 1 : Nat) : Int) := by rw [w64 (by omega) (by omega)]; omega
          have c39a := c39 t.ch[j] t.first.length (by omega) (hcn _ (List.getElem_mem hlt))
          have bad : chgOk t.first.length t.ch[j] = false → t.ch.any (fun c => !chgOk t.first.length c) = true := fun e => List.any_eq_true.2 ⟨_, List.getElem_mem hlt, by rw [e]; rfl⟩
          have fin : chgOk t.first.length t.ch[j] = true → (t.ch.take (j + 1)).any (fun c => !chgOk t.first.length c) = false := fun e => by rw [List.take_succ_eq_append_getElem hlt, List.any_append, hx]; simp [e]
          generalize t.ch[j] = c at *
          simp only [go_sem, hix]
          refine c39a.call rfl rfl rfl ?_
          cases hm : chgOk t.first.length c with
          | false =>
            rw [bad hm]
            simp only [go_sem, if_true]
          | true =>
            simp only [go_sem, hnj]
            exact ⟨j + 1, ⟨hlt, fin hm⟩, by omega, ForgetTo.same' (Nat.zero_le _) ⟨rfl, rfl, rfl, trivial⟩ rfl⟩
        · have hje : j = t.ch.length := by simp only [decide_eq_false_iff_not] at hf; omega
          subst hje
          rw [List.take_length] at hx
          rw [hx]
          simp only [go_sem, Bool.false_eq_true, if_false]

theorem c25 (t : Town) (h1 : t.first.length ≤ 1000) (h2 : t.ch.length ≤ 1000) (hfn : ∀ s ∈ t.first, s.size ≤ 1000) (hcn : ∀ c ∈ t.ch, c.name.size ≤ 1000) : PC prog 25 [.d t.d] (.d (.int .i64 (openE t))) := by
  refine PC.run (fun _ => false) tt_ok (fn := f25) (rs := [.tmp 2]) rfl rfl rfl rfl rfl rfl rfl ?_
  simp only [go_sem, Town.d]
  refine (c19 t h1 h2 hfn hcn).call rfl rfl rfl ?_
  by_cases hc : checkT t = 0
  · have hok := checkT_iff.1 hc
    have e2 : openE t = if (nbT t).2.2 ≠ [] then 9 else 0 := by rw [openE, if_neg (by rw [hc]; simp)]
    rw [e2, hc]
    simp only [go_sem]
    have c21a := c21 t hok
    rw [firstV] at c21a
    by_cases hl : (nbT t).2.2 = []
    · rw [if_pos hl] at c21a
      rw [if_neg (by simpa using hl)]
      refine c21a.call rfl rfl rfl ?_
      simp only [go_sem]
    · rw [if_neg hl] at c21a
      rw [if_pos hl]
      refine c21a.call rfl rfl rfl ?_
      have : decide ((nbT t).2.1 ≤ 1000) = true := by
        rcases nbT_spec hok with ⟨k, hk, e, _⟩ | ⟨e, _⟩
        · rw [e]; exact decide_eq_true hk.2
        · rw [e]; rfl
      simp only [go_sem, this]
  · have e2 : openE t = checkT t := by rw [openE, if_pos hc]
    rw [e2]
    have d1 : decide (checkT t = 0) = false := decide_eq_false hc
    simp only [go_sem, d1]
end Go.Aw
end

section
set_option maxRecDepth 100000
namespace Go.Aw
open Go Go.Proofs.Tryz

def allW (t : Town) (l : List ByteArray) (i : Nat) : List ByteArray := (l ++ t.first) ++ (t.ch.take i).map (·.name)
def longB (t : Town) (l : List ByteArray) : Bool :=
  decide (20 < t.first.length) || (decide (20 < t.ch.length) || (decide (20 < l.length) || (allW t l t.ch.length).any fun s => decide (40 < s.size)))

theorem long_fits {t : Town} {l : List ByteArray} (h : longB t l = false) : t.Small ∧ t.first.length ≤ 20 ∧ t.ch.length ≤ 20 ∧ l.length ≤ 20 ∧ (∀ s ∈ t.first, s.size ≤ 40) ∧ (∀ c ∈ t.ch, c.name.size ≤ 40) ∧ ∀ s ∈ l, s.size ≤ 40 := by
  simp only [longB, Bool.or_eq_false_iff, decide_eq_false_iff_not, Nat.not_lt, List.any_eq_false, decide_eq_true_eq, allW, List.take_length, List.mem_append, List.mem_map] at h
  obtain ⟨h1, h2, h3, h4⟩ := h
  have f1 : ∀ s ∈ t.first, s.size ≤ 40 := fun s hs => h4 s (.inl (.inr hs))
  have f2 : ∀ c ∈ t.ch, c.name.size ≤ 40 := fun c hc => h4 _ (.inr ⟨c, hc, rfl⟩)
  exact ⟨⟨by omega, by omega, fun s hs => by have := f1 s hs; omega, fun c hc => by have := f2 c hc; omega⟩, h1, h2, h3, f1, f2, fun s hs => h4 s (.inl (.inl hs))⟩

theorem allW_succ (t : Town) (l : List ByteArray) {i : Nat} (h : i < t.ch.length) : allW t l (i + 1) = allW t l i ++ [t.ch[i].name] := by
  rw [allW, List.take_succ_eq_append_getElem h, List.map_append, ← List.append_assoc]; rfl

theorem c14 (t : Town) (l : List ByteArray) : PC prog 14 [.d t.d, .d (.sl (l.map .str))] (.d (.bool (longB t l))) := by
  refine PC.run (fun k => k == 23) tt_ok (fn := f14) (rs := [.tmp 4]) rfl rfl rfl rfl rfl rfl rfl ?_
  simp only [go_sem, Town.d, List.length_map]
  have hb : ∀ n : Nat, decide ((20 : Int) < (n : Int)) = decide (20 < n) := fun n => by rw [Bool.eq_iff_iff, decide_eq_true_eq, decide_eq_true_eq]; omega
  rw [longB]
  simp only [hb]
  cases d1 : decide (20 < t.first.length) with
  | true => simp only [go_sem, hb, d1, Bool.true_or]
  | false =>
  cases d2 : decide (20 < t.ch.length) with
  | true => simp only [go_sem, hb, d1, d2, Bool.true_or, Bool.false_or, List.length_map]
  | false =>
  simp only [go_sem, hb, d1, d2, Bool.true_or, Bool.false_or, List.length_map]
  have h1 : t.first.length ≤ 20 := by simp only [decide_eq_false_iff_not] at d1; omega
  have h2 : t.ch.length ≤ 20 := by simp only [decide_eq_false_iff_not] at d2; omega
  have s1 := sized_strs t.first
  have s2 := sized_strs l
  cases d3 : decide (20 < l.length) with
  | true =>
    simp only [go_sem, hb, d1, d2, d3, Bool.true_or, Bool.false_or, List.length_map]
    try simp only [go_sem]
  | false =>
  have h3 : l.length ≤ 20 := by simp only [decide_eq_false_iff_not] at d3; omega
  have b1 : t.first.length ≤ 4294967296 := by omega
  have b2 : l.length ≤ 4294967296 := by omega
  have b3 : l.length + t.first.length ≤ 4294967296 := by omega
  have b4 : 0 + l.length + t.first.length ≤ 4294967296 := by omega
  simp only [go_sem, hb, d1, d2, d3, Bool.true_or, Bool.false_or, List.length_map, s1, s2, List.length_nil, List.map_nil, b1, b2, b3]
  try simp only [go_sem, hb, d1, d2, d3, Bool.true_or, Bool.false_or, List.length_map, s1, s2, List.length_nil, List.map_nil, b1, b2, b3]
  simp only [Bool.false_or]
  refine ALoop.by (S := Nat) (fun i => [(6, .d (.int .i64 i)), (5, .ref 1 (allW t l i).length 0 (allW t l i).length), (2, .ptr 0 0)]) (fun i => [townB t, .arr 1 false ((allW t l i).map .str)]) (fun i => t.ch.length - i) (fun i => i ≤ t.ch.length) 0 (Nat.zero_le _) (fun _ h => nomatch h) (Nat.zero_le _) ?_ ?_
  · exact ForgetTo.same' (Nat.zero_le _) (by simp [EWe, Env.look, allW]) (by simp [townB, allW])
  rintro i hi hn
  refine AWP.run (fun _ => false) tt_ok (fun _ h => nomatch h) (Nat.zero_le _) rfl ?_
  simp only [go_sem, townB, List.length_map]
  refine Br_split (fun hd => ?_) (fun hd => ?_) <;> simp only [go_sem, hd]
  · have hlt : i < t.ch.length := by simpa using hd
    have hix : idx? (t.ch.map Chg.d) (i : Int) = some t.ch[i].d := by simp [idx?, List.getElem?_eq_getElem hlt]
    have hcd : t.ch[i].d = .agg [.int .i64 t.ch[i].at', .int .i64 t.ch[i].st, .str t.ch[i].name] := rfl
    have hnx : IntKind.i64.wrap ((i : Int) + 1) = ((i + 1 : Nat) : Int) := by rw [w64 (by omega) (by omega)]; omega
    have hsu := allW_succ t l hlt
    have hln : (allW t l i).length ≤ 60 := by simp [allW]; omega
    have fin : ∀ (A : List ByteArray) (E : Env), A = allW t l (i + 1) → EWe E [(6, .d (.int .i64 ((i + 1 : Nat) : Int))), (5, .ref 1 A.length 0 A.length), (2, .ptr 0 0)] →
        ∃ s', s' ≤ t.ch.length ∧ t.ch.length - s' < t.ch.length - i ∧ ForgetTo 0 E [townB t, .arr 1 false (A.map .str)] [(6, .d (.int .i64 s')), (5, .ref 1 (allW t l s').length 0 (allW t l s').length), (2, .ptr 0 0)] [townB t, .arr 1 false ((allW t l s').map .str)] := fun A E hA hE => by
      subst hA
      exact ⟨i + 1, hlt, by omega, ForgetTo.same' (Nat.zero_le _) hE rfl⟩
    rw [hsu] at fin
    clear hsu
    simp only [townB] at fin
    rw [hcd] at hix
    generalize allW t l i = A at *
    generalize t.ch[i].at' = x1 at *
    generalize t.ch[i].st = x2 at *
    generalize t.ch[i].name = x3 at *
    have s3 : sized 1 [D.str x3] = true := rfl
    have b5 : A.length + 1 ≤ 4294967296 := by omega
    simp only [go_sem, hix, s3, List.length_map, List.length_cons, List.length_nil, b5, hnx]
    have f2 := fun E => fin (A ++ [x3]) E rfl
    simp only [List.map_append, List.map_cons, List.map_nil, List.length_append, List.length_cons, List.length_nil, Nat.zero_add] at f2
    exact f2 _ ⟨rfl, rfl, rfl, trivial⟩
  · have hie : i = t.ch.length := by simp only [decide_eq_false_iff_not] at hd; omega
    subst hie
    have hln : (allW t l t.ch.length).length ≤ 60 := by simp [allW]; omega
    generalize allW t l t.ch.length = A at *
    refine ALoop.by (S := Nat) (fun i => [(7, .d (.int .i64 i)), (5, .ref 1 A.length 0 A.length)]) (fun _ => [townB t, .arr 1 false (A.map .str)]) (fun i => A.length - i)
      (fun i => i ≤ A.length ∧ (A.take i).any (fun s => decide (40 < s.size)) = false) 0 (Nat.zero_le _) (fun _ h => nomatch h) ⟨Nat.zero_le _, rfl⟩ (ForgetTo.same' (Nat.zero_le _) ⟨rfl, rfl, trivial⟩ rfl) ?_
    rintro i ⟨hi, hx⟩ hn2
    refine AWP.run (fun _ => false) tt_ok (fun _ h => nomatch h) (Nat.zero_le _) rfl ?_
    simp only [go_sem, townB, List.length_map]
    refine Br_split (fun he => ?_) (fun he => ?_) <;> simp only [go_sem, he]
    · have hlt : i < A.length := by simpa using he
      have hix : idx? (A.map D.str) (i : Int) = some (.str A[i]) := by simp [idx?, List.getElem?_eq_getElem hlt]
      have hnx : IntKind.i64.wrap ((i : Int) + 1) = ((i + 1 : Nat) : Int) := by rw [w64 (by omega) (by omega)]; omega
      have bad : 40 < A[i].size → A.any (fun s => decide (40 < s.size)) = true := fun e => List.any_eq_true.2 ⟨_, List.getElem_mem hlt, decide_eq_true e⟩
      have fin : ¬ 40 < A[i].size → (A.take (i + 1)).any (fun s => decide (40 < s.size)) = false := fun e => by rw [List.take_succ_eq_append_getElem hlt, List.any_append, hx]; simp; omega
      generalize A[i] = x at *
      have i1 : (0 : Int) ≤ (i : Int) ∧ (i : Int) < (A.length : Int) := by omega
      have hg : (A.map D.str)[i]? = some (.str x) := by simpa [idx?] using hix
      simp only [go_sem, hix, List.length_map, hlt, i1, Int.toNat_natCast, hg]
      refine Br_split (fun hf => ?_) (fun hf => ?_) <;> simp only [go_sem, hf]
      · rw [bad (by simp only [decide_eq_true_eq] at hf; omega)]
      · simp only [go_sem, hnx]
        exact ⟨i + 1, ⟨hlt, fin (by simp only [decide_eq_false_iff_not] at hf; omega)⟩, by omega, ForgetTo.same' (Nat.zero_le _) ⟨rfl, rfl, trivial⟩ rfl⟩
    · have hie : i = A.length := by simp only [decide_eq_false_iff_not] at he; omega
      subst hie
      rw [List.take_length] at hx
      rw [hx]
end Go.Aw
end

section
set_option maxRecDepth 100000
namespace Go.Aw
open Go Go.Proofs

theorem has_int {f : Nat} {y : D} (h : HasT Tryz.prog (f + 1) 3 y) : ∃ n, y = .int .i64 n ∧ (Lit.int .i64 n).wf = true := by
  unfold HasT at h
  rw [Tryz.underlying3] at h
  exact h

theorem has_list {α : Type} {enc : α → D} {p : D → Prop} (he : ∀ y, p y → ∃ s, y = enc s) : ∀ l : List D, (∀ y ∈ l, p y) → ∃ ss : List α, l = ss.map enc
  | [], _ => ⟨[], rfl⟩
  | y :: r, h => by
    obtain ⟨s, rfl⟩ := he y (h y (by simp))
    obtain ⟨ss, rfl⟩ := has_list he r fun z hz => h z (List.mem_cons_of_mem _ hz)
    exact ⟨s :: ss, rfl⟩

theorem has_str {f : Nat} {y : D} (h : HasT Tryz.prog (f + 1) 9 y) : ∃ s, y = .str s := by
  unfold HasT at h
  rw [Tryz.underlying9] at h
  obtain ⟨s, rfl, _⟩ := h
  exact ⟨s, rfl⟩

theorem has_strs {f : Nat} {y : D} (h : HasT Tryz.prog (f + 2) 22 y) : ∃ l : List ByteArray, y = .sl (l.map .str) := by
  unfold HasT at h
  rw [Tryz.underlying22] at h
  obtain ⟨l, rfl, h1, hl⟩ := h
  obtain ⟨ss, rfl⟩ := has_list (fun y hy => has_str (f := f) hy) l hl
  exact ⟨ss, rfl⟩

theorem has_chg {f : Nat} {y : D} (h : HasT Tryz.prog (f + 2) 60 y) : ∃ c : Chg, y = c.d := by
  unfold HasT at h
  rw [Tryz.underlying60] at h
  obtain ⟨l, rfl, h⟩ := h
  simp only [HasFs] at h
  obtain ⟨y1, r1, rfl, h1, y2, r2, rfl, h2, y3, r3, rfl, h3, rfl⟩ := h
  obtain ⟨n1, rfl, _⟩ := has_int h1
  obtain ⟨n2, rfl, _⟩ := has_int h2
  obtain ⟨n3, rfl⟩ := has_str h3
  exact ⟨⟨n1, n2, n3⟩, rfl⟩

theorem has_chgs {f : Nat} {y : D} (h : HasT Tryz.prog (f + 3) 23 y) : ∃ l : List Chg, y = .sl (l.map Chg.d) := by
  unfold HasT at h
  rw [Tryz.underlying23] at h
  obtain ⟨l, rfl, h1, hl⟩ := h
  obtain ⟨ss, rfl⟩ := has_list (fun y hy => has_chg (f := f) hy) l hl
  exact ⟨ss, rfl⟩

theorem has_town {f : Nat} {y : D} (h : HasT Tryz.prog (f + 4) 25 y) : ∃ t : Town, y = t.d := by
  unfold HasT at h
  rw [Tryz.underlying25] at h
  obtain ⟨l, rfl, h⟩ := h
  simp only [HasFs] at h
  obtain ⟨y1, r1, rfl, h1, y2, r2, rfl, h2, rfl⟩ := h
  obtain ⟨a, rfl⟩ := has_strs h1
  obtain ⟨b, rfl⟩ := has_chgs h2
  exact ⟨⟨a, b⟩, rfl⟩
end Go.Aw
end

section
set_option maxRecDepth 100000
namespace Go.Aw
open Go Go.Proofs.Tryz

abbrev post1 (r : Nat) : Ex → Env → Heap → Prop := FnPost Tt [.tmp r] 0 fun r H' => H' = [] ∧ r = .d (.bool true)

end Go.Aw
end

section
set_option maxRecDepth 100000
namespace Go.Aw
open Go Go.Proofs.Tryz

def nmsD (l : List ByteArray) : D := .sl (l.map .str)
def namesA (t : Town) (n : Nat) : List (List ByteArray) := (List.range n).map fun h : Nat => namesT t h
theorem namesA_succ (t : Town) (n : Nat) : namesA t (n + 1) = namesA t n ++ [namesT t n] := by rw [namesA, List.range_succ, List.map_append]; rfl
theorem namesA_len (t : Town) (n : Nat) : (namesA t n).length = n := by simp [namesA]
theorem namesA_get {t : Town} {n h : Nat} (hh : h < n) : (namesA t n)[h]? = some (namesT t h) := by rw [namesA, List.getElem?_map, List.getElem?_range hh]; rfl

theorem c50 (t : Town) (h1 : t.first.length ≤ 1000) (h2 : t.ch.length ≤ 1000) : PC prog 50 [.d t.d] (.d (.sl ((namesA t 1001).map nmsD))) := by
  refine PC.run (fun k => k == 7 || k == 12) tt_ok (fn := f50) (rs := [.tmp 2]) rfl rfl rfl rfl rfl rfl rfl ?_
  simp only [go_sem, Town.d]
  refine ALoop.by (S := Nat) (fun h => [(4, .d (.int .i64 h)), (3, .ref 1 h 0 h), (1, .ptr 0 0)]) (fun h => [townB t, .arr 1 false ((namesA t h).map nmsD)]) (fun h => 1001 - h) (fun h => h ≤ 1001) 0 (Nat.zero_le _) (fun _ h => nomatch h) (Nat.zero_le _) (ForgetTo.same' (Nat.zero_le _) ⟨rfl, rfl, rfl, trivial⟩ rfl) ?_
  rintro h hh hn
  refine AWP.run (fun k => k == 12) tt_ok (fun _ h => nomatch h) (Nat.zero_le _) rfl ?_
  simp only [go_sem, townB]
  refine Br_split (fun hd => ?_) (fun hd => ?_) <;> simp only [go_sem, hd]
  · have hle : h < 1001 := by simp only [decide_eq_true_eq] at hd; omega
    have hnh : IntKind.i64.wrap ((h : Int) + 1) = ((h + 1 : Nat) : Int) := by rw [w64 (by omega) (by omega)]; omega
    refine ALoop.by (S := Nat) (fun s => [(6, .d (.int .i64 s)), (5, .ref 2 s 0 s), (4, .d (.int .i64 h)), (3, .ref 1 h 0 h), (1, .ptr 0 0)]) (fun s => [townB t, .arr 1 false ((namesA t h).map nmsD), .arr 1 false (((namesT t h).take s).map .str)]) (fun s => t.first.length - s) (fun s => s ≤ t.first.length) 0 (Nat.zero_le _) (fun _ h => nomatch h) (Nat.zero_le _) (ForgetTo.same' (Nat.zero_le _) ⟨rfl, rfl, rfl, rfl, rfl, trivial⟩ rfl) ?_
    rintro s hs hn2
    refine AWP.run (fun _ => false) tt_ok (fun _ h => nomatch h) (Nat.zero_le _) rfl ?_
    simp only [go_sem, townB, List.length_map]
    refine Br_split (fun he => ?_) (fun he => ?_) <;> simp only [go_sem, he]
    · have hlt : s < t.first.length := by simpa using he
      have hns : IntKind.i64.wrap ((s : Int) + 1) = ((s + 1 : Nat) : Int) := by rw [w64 (by omega) (by omega)]; omega
      have c27a := c27 t (by omega) hlt h
      have htk : (namesT t h).take (s + 1) = (namesT t h).take s ++ [calledT t s h] := by
        rw [List.take_succ_eq_append_getElem (by rw [namesT_len]; exact hlt)]
        have := namesT_get (t := t) hlt (h : Int)
        rw [getDG (by rw [namesT_len]; exact hlt)] at this
        rw [this]
      have hl : ((namesT t h).take s).length = s := by rw [List.length_take, namesT_len]; omega
      generalize calledT t s h = c at *
      have s3 : sized 1 [D.str c] = true := rfl
      have b5 : s + 1 ≤ 4294967296 := by omega
      simp only [Town.d] at c27a
      refine c27a.call rfl rfl rfl ?_
      simp only [go_sem, s3, List.length_map, hl, b5, hns]
      refine ⟨s + 1, hlt, by omega, ?_⟩
      rw [htk]
      exact ForgetTo.same' (Nat.zero_le _) ⟨rfl, rfl, rfl, rfl, rfl, trivial⟩ (by simp [townB])
    · have hse : s = t.first.length := by simp only [decide_eq_false_iff_not] at he; omega
      subst hse
      rw [List.take_of_length_le (by rw [namesT_len]; exact Nat.le_refl _)]
      have hNl : (namesT t h).length = t.first.length := namesT_len t h
      have htk : List.take t.first.length ((namesT t h).map D.str) = (namesT t h).map D.str := List.take_of_length_le (by rw [List.length_map, hNl]; exact Nat.le_refl _)
      have s3 : sized 1 [D.sl ((namesT t h).map D.str)] = true := rfl
      have b5 : h + 1 ≤ 4294967296 := by omega
      simp only [go_sem, List.length_map, hNl, htk, s3, b5, namesA_len, hnh]
      refine ⟨h + 1, hle, by omega, ?_⟩
      rw [namesA_succ, List.map_append]
      exact ForgetTo.drop (H0 := [_, _]) (Y := [_]) (Nat.zero_le _) rfl (by simp [BBs, BB, VBs, VB]) ⟨⟨rfl, rfl⟩, ⟨rfl, rfl⟩, ⟨rfl, rfl⟩, trivial⟩
  · have hhe : h = 1001 := by simp only [decide_eq_false_iff_not] at hd; omega
    subst hhe
    simp only [go_sem, List.length_map, namesA_len]
    rw [List.take_of_length_le (by rw [List.length_map, namesA_len]; exact Nat.le_refl _)]

end Go.Aw
end

section
set_option maxRecDepth 100000
namespace Go.Aw
open Go Go.Proofs.Tryz

def foldH {α : Type} (G : α → Nat → α) (a : α) (lo : Nat) : Nat → α
  | 0 => a
  | n + 1 => G (foldH G a lo n) (lo + n)

theorem foldH_range {α : Type} (G : α → Nat → α) (a : α) (lo : Nat) : ∀ n, (List.range (lo + n)).foldl G a = foldH G ((List.range lo).foldl G a) lo n
  | 0 => rfl
  | n + 1 => by rw [← Nat.add_assoc, List.range_succ, List.foldl_append, foldH_range G a lo n]; rfl

theorem foldH_congr {α : Type} {G G' : α → Nat → α} (a : α) (lo : Nat) : ∀ n, (∀ k a, lo ≤ k → k < lo + n → G a k = G' a k) → foldH G a lo n = foldH G' a lo n
  | 0, _ => rfl
  | n + 1, h => by rw [foldH, foldH, foldH_congr a lo n fun k a h1 h2 => h k a h1 (by omega)]; exact h _ _ (by omega) (by omega)

def endN (P : List Page) (i : Nat) : Nat := match P[i]? with
  | some p => p.hour.toNat
  | none => 1001

theorem hours_fold {α : Type} {t : Town} (ht : t.Ok) {P : List Page} (hP : PgOk t P) (F : α → Int × Int × List ByteArray → α) (G : α → List ByteArray → Nat → α)
    (hFG : ∀ (a : α) (ns : List ByteArray) (lo n : Nat), lo + n ≤ 1000 → (∀ k, lo ≤ k → k ≤ lo + n → ns = namesT t k) → foldH (fun a h => G a ns h) a lo (n + 1) = F a ((lo : Int), ((lo + n : Nat) : Int), ns)) (a : α) :
    (List.range 1001).foldl (fun a (h : Nat) => G a (namesT t h) h) a = (timesL P).foldl F a := by
  have ha := List.pairwise_iff_getElem.1 hP.asc
  obtain ⟨r, hr⟩ := hP.head
  have key : ∀ i, i ≤ P.length → (List.range (endN P i)).foldl (fun a (h : Nat) => G a (namesT t h) h) a = ((timesL P).take i).foldl F a := by
    intro i
    induction i with
    | zero =>
      intro _
      have : endN P 0 = 0 := by rw [endN, hr]; rfl
      rw [this]; rfl
    | succ i ih =>
      intro hi
      have hil : i < P.length := by omega
      have hlo : endN P i = P[i].hour.toNat := by rw [endN, List.getElem?_eq_getElem hil]
      have hb := hP.hrs _ (List.getElem_mem hil)
      have hhi : endN P i < endN P (i + 1) ∧ endN P (i + 1) ≤ 1001 ∧ hiP (P.drop (i + 1)) = ((endN P (i + 1) : Nat) : Int) - 1 ∧ ∀ h3 : i + 1 < P.length, P[i + 1].hour = ((endN P (i + 1) : Nat) : Int) := by
        rcases Nat.lt_or_ge (i + 1) P.length with h | h
        · have e : endN P (i + 1) = P[i + 1].hour.toNat := by rw [endN, List.getElem?_eq_getElem h]
          have hb2 := hP.hrs _ (List.getElem_mem h)
          have := ha i (i + 1) hil h (by omega)
          refine ⟨by omega, by omega, ?_, fun _ => by omega⟩
          rw [List.drop_eq_getElem_cons h, hiP]; omega
        · have e : endN P (i + 1) = 1001 := by rw [endN, List.getElem?_eq_none h]
          refine ⟨by omega, by omega, ?_, fun h3 => by omega⟩
          rw [List.drop_eq_nil_of_le h, e]; rfl
      obtain ⟨h1, h2, h3, h4⟩ := hhi
      obtain ⟨n, hn⟩ : ∃ n, endN P (i + 1) = endN P i + (n + 1) := ⟨endN P (i + 1) - endN P i - 1, by omega⟩
      have hT : i < (timesL P).length := by rw [timesL_len]; exact hil
      rw [hn, foldH_range, ih (by omega), List.take_succ_eq_append_getElem hT, List.foldl_append, List.foldl_cons, List.foldl_nil, timesL_get P i hil, h3, hn]
      have hnm : ∀ k : Nat, endN P i ≤ k → k ≤ endN P i + n → P[i].names = namesT t k := fun k k1 k2 => page_names ht hP hil (by omega) fun h5 => by have := h4 h5; omega
      rw [foldH_congr (G' := fun a h => G a P[i].names h) _ _ _ fun k a k1 k2 => by rw [← hnm k k1 (by omega)], hFG _ _ _ _ (by omega) hnm]
      congr 1
      rw [hlo]
      refine Prod.ext ?_ (Prod.ext ?_ rfl)
      · show ((P[i].hour.toNat : Nat) : Int) = P[i].hour; omega
      · show ((P[i].hour.toNat + n : Nat) : Int) = ((P[i].hour.toNat + (n + 1) : Nat) : Int) - 1; omega
  have := key P.length (Nat.le_refl _)
  rw [List.take_of_length_le (by rw [timesL_len]; exact Nat.le_refl _)] at this
  rw [← this, endN, List.getElem?_eq_none (Nat.le_refl _)]

end Go.Aw
end

section
set_option maxRecDepth 100000
namespace Go.Aw
open Go Go.Proofs.Tryz

theorem c41 (l : List Int) (hl : l.length ≤ 100000) (n : Int) : PC prog 41 [.d (.sl (l.map (.int .i64))), .d (.int .i64 n)] (.d (.bool (hasI n l))) := by
  refine PC.run (fun _ => false) tt_ok (fn := f41) (rs := [.tmp 4]) rfl rfl rfl rfl rfl rfl rfl ?_
  simp only [go_sem]
  refine ALoop.by (S := Nat) (fun i => [(5, .d (.int .i64 i)), (1, .d (.int .i64 n)), (0, .d (.sl (l.map (.int .i64))))]) (fun _ => []) (fun i => l.length - i) (fun i => i ≤ l.length ∧ hasI n (l.take i) = false) 0 (Nat.zero_le _) (fun _ h => nomatch h) ⟨Nat.zero_le _, rfl⟩ (ForgetTo.same' (Nat.zero_le _) ⟨rfl, rfl, rfl, trivial⟩ rfl) ?_
  rintro i ⟨hi, hx⟩ hn
  refine AWP.run (fun _ => false) tt_ok (fun _ h => nomatch h) (Nat.zero_le _) rfl ?_
  simp only [go_sem, List.length_map]
  refine Br_split (fun hd => ?_) (fun hd => ?_) <;> simp only [go_sem, hd]
  · have hlt : i < l.length := by simpa using hd
    have hix : idx? (l.map (D.int .i64)) (i : Int) = some (.int .i64 l[i]) := by simp [idx?, List.getElem?_eq_getElem hlt]
    have hnx : IntKind.i64.wrap ((i : Int) + 1) = ((i + 1 : Nat) : Int) := by rw [w64 (by omega) (by omega)]; omega
    have hit : l[i] = n → hasI n l = true := fun e => by rw [hasI, List.any_eq_true]; exact ⟨n, e ▸ List.getElem_mem hlt, by simp⟩
    have nxt : l[i] ≠ n → hasI n (l.take (i + 1)) = false := fun e => by
      rw [List.take_succ_eq_append_getElem hlt, hasI, List.any_append]
      rw [hasI] at hx
      rw [hx]; simp; first | exact e | exact fun h => e h.symm
    generalize l[i] = x at *
    simp only [go_sem, hix]
    refine Br_split (fun he => ?_) (fun he => ?_) <;> simp only [go_sem, he]
    · rw [hit (by simpa using he)]
    · simp only [go_sem, hnx]
      exact ⟨i + 1, ⟨hlt, nxt (by simpa using he)⟩, by omega, ForgetTo.same' (Nat.zero_le _) ⟨rfl, rfl, rfl, trivial⟩ rfl⟩
  · have hie : i = l.length := by simp only [decide_eq_false_iff_not] at hd; omega
    subst hie
    rw [List.take_length] at hx
    rw [hx]

end Go.Aw
end

section
set_option maxRecDepth 100000
namespace Go.Aw
open Go Go.Proofs.Tryz

theorem xw64 {n : Nat} (h : n < 9223372036854775808) : IntKind.i64.wrap (n : Int) = n := w64 (by omega) (by omega)

theorem bv64 {n : Nat} (h : n < 2 ^ 64) : (BitVec.ofInt 64 (n : Int)).toNat = n := by
  rw [BitVec.toNat_ofInt]
  have : ((n : Int) % ((2 ^ 64 : Nat) : Int)) = n := Int.emod_eq_of_lt (by omega) (by exact_mod_cast h)
  rw [this]; simp

theorem and64 {a b : Nat} (ha : a < 2 ^ 63) (hb : b < 2 ^ 63) : IntKind.i64.wrap (((BitVec.ofInt 64 (a : Int) &&& BitVec.ofInt 64 (b : Int)).toNat : Nat) : Int) = ((a &&& b : Nat) : Int) := by
  rw [BitVec.toNat_and, bv64 (by omega), bv64 (by omega)]
  exact xw64 (Nat.lt_of_le_of_lt Nat.and_le_left ha)

theorem shr64 {a p : Nat} (hp : p < 64) : (a : Int).fdiv (2 ^ min p 64) = ((a >>> p : Nat) : Int) := by
  have e : ((2 : Int) ^ min p 64) = ((2 ^ p : Nat) : Int) := by rw [Nat.min_eq_left (by omega)]; simp
  rw [e, Nat.shiftRight_eq_div_pow, Int.fdiv_eq_ediv_of_nonneg _ (Int.natCast_nonneg _), ← Int.natCast_ediv]

theorem shl64 {p : Nat} (hp : p < 63) : IntKind.i64.wrap (1 * 2 ^ min p 64) = ((2 ^ p : Nat) : Int) := by
  have e : ((2 : Int) ^ min p 64) = ((2 ^ p : Nat) : Int) := by rw [Nat.min_eq_left (by omega)]; simp
  rw [e, Int.one_mul]
  exact xw64 (Nat.pow_lt_pow_right (by omega) hp)

theorem bit64 (a p : Nat) : (((a >>> p &&& 1 : Nat) : Int) == 1) = a.testBit p := by
  rw [Nat.testBit_eq_decide_div_mod_eq, Nat.and_one_is_mod, Nat.shiftRight_eq_div_pow]
  generalize a / 2 ^ p = q
  rw [Bool.eq_iff_iff, beq_iff_eq, decide_eq_true_eq]; omega

theorem shrN (a : Nat) {p : Nat} (hp : p < 64) : shrO .i64 (a : Int) (p : Int) = some (.int .i64 ((a >>> p : Nat) : Int)) := by
  rw [shrO_nn (Int.natCast_nonneg _), Int.toNat_natCast]
  exact congrArg _ (congrArg _ (shr64 hp))

theorem shlN {p : Nat} (hp : p < 63) : shlO .i64 1 (p : Int) = some (.int .i64 ((2 ^ p : Nat) : Int)) := by
  rw [shlO_nn (Int.natCast_nonneg _), Int.toNat_natCast]
  exact congrArg _ (congrArg _ (shl64 hp))

theorem and1N {a : Nat} (ha : a < 2 ^ 63) : andI .i64 (a : Int) 1 = ((a &&& 1 : Nat) : Int) := and64 (b := 1) ha (by omega)

theorem bitN (a p : Nat) : decide (((a >>> p &&& 1 : Nat) : Int) = 1) = a.testBit p := by
  rw [← bit64]
  rw [Bool.eq_iff_iff, beq_iff_eq, decide_eq_true_eq]

theorem shr_lt {a p : Nat} (ha : a < 2 ^ 63) : a >>> p < 2 ^ 63 := by
  rw [Nat.shiftRight_eq_div_pow]; exact Nat.lt_of_le_of_lt (Nat.div_le_self _ _) ha


def natsD (l : List Nat) : List D := l.map fun k : Nat => .int .i64 (k : Int)

theorem natsD_len (l : List Nat) : (natsD l).length = l.length := by simp [natsD]

def bitsL (set : Nat) : List Nat := (List.range 6).filter fun i => set.testBit i

def lessL : List Nat → List Nat → Bool
  | x :: r, y :: s => if x ≠ y then decide (x < y) else lessL r s
  | _, _ => false

def lessN (a b : List Nat) : Bool := if a.length ≠ b.length then decide (a.length < b.length) else lessL a b

theorem lessL_trans : ∀ {a b c : List Nat}, lessL a b = true → lessL b c = true → a.length = b.length → b.length = c.length → lessL a c = true
  | [], b, c, h, _, _, _ => by simp [lessL] at h
  | x :: r, [], c, h, _, _, _ => by simp [lessL] at h
  | x :: r, y :: s, [], _, h, _, _ => by simp [lessL] at h
  | x :: r, y :: s, z :: t, h1, h2, h3, h4 => by
    simp only [lessL] at h1 h2 ⊢
    simp only [List.length_cons] at h3 h4
    by_cases e1 : x = y
    · subst e1
      simp only [ne_eq, not_true_eq_false, if_false] at h1
      by_cases e2 : x = z
      · subst e2
        simp only [ne_eq, not_true_eq_false, if_false] at h2 ⊢
        exact lessL_trans h1 h2 (by omega) (by omega)
      · simp only [ne_eq, e2, not_false_eq_true, if_true] at h2 ⊢
        exact h2
    · simp only [ne_eq, e1, not_false_eq_true, if_true, decide_eq_true_eq] at h1
      by_cases e2 : y = z
      · subst e2
        simp only [ne_eq, e1, not_false_eq_true, if_true, decide_eq_true_eq]
        exact h1
      · simp only [ne_eq, e2, not_false_eq_true, if_true, decide_eq_true_eq] at h2
        rw [if_pos (show x ≠ z by omega)]
        exact decide_eq_true (by omega)

theorem lessN_trans {a b c : List Nat} (h1 : lessN a b = true) (h2 : lessN b c = true) : lessN a c = true := by
  unfold lessN at *
  by_cases e1 : a.length = b.length
  · by_cases e2 : b.length = c.length
    · rw [if_neg (by omega)] at h1 h2
      rw [if_neg (by omega)]
      exact lessL_trans h1 h2 e1 e2
    · rw [if_pos e2, decide_eq_true_eq] at h2
      rw [if_pos (by omega), decide_eq_true_eq]
      omega
  · rw [if_pos e1, decide_eq_true_eq] at h1
    by_cases e2 : b.length = c.length
    · rw [if_pos (by omega), decide_eq_true_eq]; omega
    · rw [if_pos e2, decide_eq_true_eq] at h2
      rw [if_pos (by omega), decide_eq_true_eq]
      omega

theorem lessL_irr : ∀ a : List Nat, lessL a a = false
  | [] => rfl
  | x :: r => by simp [lessL, lessL_irr r]

theorem lessN_irr (a : List Nat) : lessN a a = false := by simp [lessN, lessL_irr]

def wrongStep (ok : Nat → Bool) (s : Bool × List Nat) (set : Nat) : Bool × List Nat :=
  if s.1 = true ∧ lessN (bitsL set) s.2 = false then s else if ok set = true then (true, bitsL set) else s

def wrongR (ok : Nat → Bool) (k : Nat) : Bool × List Nat := (List.range k).foldl (wrongStep ok) (false, [])

theorem wrongR_succ (ok : Nat → Bool) (k : Nat) : wrongR ok (k + 1) = wrongStep ok (wrongR ok k) k := by
  rw [wrongR, List.range_succ, List.foldl_append]; rfl

theorem wrongR_spec (ok : Nat → Bool) : ∀ k, (wrongR ok k = (false, []) ∧ ∀ x, x < k → ok x = false) ∨ ((wrongR ok k).1 = true ∧ (∃ x, x < k ∧ ok x = true ∧ (wrongR ok k).2 = bitsL x) ∧ ∀ y, y < k → ok y = true → lessN (bitsL y) (wrongR ok k).2 = false)
  | 0 => .inl ⟨rfl, fun x h => absurd h (Nat.not_lt_zero x)⟩
  | k + 1 => by
    rw [wrongR_succ]
    rcases wrongR_spec ok k with ⟨e, h⟩ | ⟨h1, ⟨x, hx, hox, he⟩, h3⟩
    · rw [e]
      by_cases ho : ok k = true
      · right
        rw [wrongStep, if_neg (by simp), if_pos ho]
        refine ⟨rfl, ⟨k, by omega, ho, rfl⟩, fun y hy hoy => ?_⟩
        by_cases hyk : y = k
        · subst hyk; exact lessN_irr _
        · rw [h y (by omega)] at hoy; cases hoy
      · left
        rw [wrongStep, if_neg (by simp), if_neg ho]
        refine ⟨rfl, fun x hx => ?_⟩
        by_cases hyk : x = k
        · subst hyk; simpa using ho
        · exact h x (by omega)
    · right
      generalize wrongR ok k = s at *
      by_cases hl : lessN (bitsL k) s.2 = false
      · rw [wrongStep, if_pos ⟨h1, hl⟩]
        refine ⟨h1, ⟨x, by omega, hox, he⟩, fun y hy hoy => ?_⟩
        by_cases hyk : y = k
        · subst hyk; exact hl
        · exact h3 y (by omega) hoy
      · rw [wrongStep, if_neg (fun h => hl h.2)]
        by_cases ho : ok k = true
        · rw [if_pos ho]
          refine ⟨rfl, ⟨k, by omega, ho, rfl⟩, fun y hy hoy => ?_⟩
          by_cases hyk : y = k
          · subst hyk; exact lessN_irr _
          · have := h3 y (by omega) hoy
            cases hlt : lessN (bitsL y) (bitsL k) with
            | false => rfl
            | true => rw [lessN_trans hlt (by simpa using hl)] at this; cases this
        · rw [if_neg ho]
          refine ⟨h1, ⟨x, by omega, hox, he⟩, fun y hy hoy => ?_⟩
          by_cases hyk : y = k
          · subst hyk; exact absurd hoy ho
          · exact h3 y (by omega) hoy

theorem bits_end : ∀ s, s < 64 → ∀ i, i < 7 → s >>> i = 0 → (List.range i).filter (fun j => s.testBit j) = bitsL s := by
  decide +kernel

theorem c97 (set : Nat) (hs : set < 64) : PC prog 97 [.d (.int .i64 set)] (.d (.sl (natsD (bitsL set)))) := by
  refine PC.run (fun k => k == 5) tt_ok (fn := f97) (rs := [.tmp 2]) rfl rfl rfl rfl rfl rfl rfl ?_
  simp only [go_sem]
  refine ALoop.by (S := Nat) (fun i => [(4, .d (.int .i64 i)), (3, .ref 0 ((List.range i).filter fun j => set.testBit j).length 0 ((List.range i).filter fun j => set.testBit j).length), (0, .d (.int .i64 set))]) (fun i => [.arr 1 false (natsD ((List.range i).filter fun j => set.testBit j))]) (fun i => 6 - i) (fun i => i ≤ 6) 0 (by simp) (fun _ h => nomatch h) (Nat.zero_le _) ?_ ?_
  · exact ForgetTo.same' (by simp) (by simp [EWe, Env.look]) (by simp [natsD])
  rintro i hi hn
  refine AWP.run (fun k => k == 5) tt_ok (fun _ h => nomatch h) (by simp) rfl ?_
  have hu : IntKind.u64.wrap (i : Int) = i := wu64 (by omega) (by omega)
  have hshr := shrN set (p := i) (by omega)
  have hsh2 : (set : Int).fdiv (2 ^ min (i : Int).toNat 64) = ((set >>> i : Nat) : Int) := by rw [Int.toNat_natCast]; exact shr64 (by omega)
  have hand : andI .i64 ((set >>> i : Nat) : Int) 1 = ((set >>> i &&& 1 : Nat) : Int) := and1N (shr_lt (by omega))
  have hbit := bitN set i
  have hst : (List.range (i + 1)).filter (fun j => set.testBit j) = (List.range i).filter (fun j => set.testBit j) ++ (if set.testBit i = true then [i] else []) := by
    rw [List.range_succ, List.filter_append]
    congr 1
    simp [List.filter_cons]
  have hlen : ((List.range i).filter (fun j => set.testBit j)).length ≤ 6 := by
    have := List.length_filter_le (fun j => set.testBit j) (List.range i)
    simp at this
    omega
  have hz := bits_end set hs i (by omega)
  have hi1 : ((List.range i).filter (fun j => set.testBit j)).length + 1 ≤ 4294967296 := by omega
  have h5 : i = 6 → set >>> i = 0 := fun e => by subst e; rw [Nat.shiftRight_eq_div_pow]; omega
  have hnx : IntKind.i64.wrap ((i : Int) + 1) = ((i + 1 : Nat) : Int) := w64 (by omega) (by omega)
  generalize (List.range i).filter (fun j => set.testBit j) = o at *
  simp only [go_sem, hu, hshr]
  refine Br_split (fun hd => ?_) (fun hd => ?_) <;> simp only [go_sem, hd]
  · have hd' : 0 < set >>> i := by have := of_decide_eq_true hd; omega
    simp only [go_sem, hu, hshr, hsh2, hand, hbit]
    refine Br_split (fun h1 => ?_) (fun h1 => ?_) <;> simp only [go_sem, h1, hi1, natsD_len]
    · rw [if_pos h1] at hst
      refine ⟨i + 1, by omega, by omega, ?_⟩
      exact ForgetTo.same' (by simp) (by simp [EWe, Env.look, hnx, hst]) (by rw [hst]; simp [natsD])
    · rw [if_neg (by rw [h1]; simp), List.append_nil] at hst
      refine ⟨i + 1, by omega, by omega, ?_⟩
      exact ForgetTo.same' (by simp) (by simp [EWe, Env.look, hnx, hst]) (by rw [hst])
  · have hd' : set >>> i = 0 := Nat.eq_zero_of_not_pos (fun h => of_decide_eq_false hd (Int.natCast_pos.2 h))
    rw [hz hd']
    have htk : (natsD (bitsL set)).take (bitsL set).length = natsD (bitsL set) := List.take_of_length_le (by simp [natsD_len])
    simp only [go_sem, natsD_len, htk]

theorem c98 (a b : List Nat) (ha : a.length ≤ 1000) (hb : b.length ≤ 1000) : PC prog 98 [.d (.sl (natsD a)), .d (.sl (natsD b))] (.d (.bool (lessN a b))) := by
  refine PC.run (fun _ => false) tt_ok (fn := f98) (rs := [.tmp 4]) rfl rfl rfl rfl rfl rfl rfl ?_
  simp only [go_sem, natsD_len]
  refine Br_split (fun h1 => ?_) (fun h1 => ?_) <;> simp only [go_sem, h1, natsD_len]
  · have h1' : a.length ≠ b.length := by simp at h1; omega
    simp [lessN, h1']
  have h1' : a.length = b.length := by simp at h1; omega
  have hl0 : lessN a b = lessL a b := by rw [lessN, if_neg (by simpa using h1')]
  rw [hl0]
  refine ALoop.by (S := Nat) (fun i => [(5, .d (.int .i64 i)), (1, .d (.sl (natsD b))), (0, .d (.sl (natsD a)))]) (fun _ => []) (fun i => a.length - i) (fun i => i ≤ a.length ∧ lessL (a.drop i) (b.drop i) = lessL a b) 0 (by simp) (fun _ h => nomatch h) ⟨Nat.zero_le _, rfl⟩ ?_ ?_
  · exact ForgetTo.same' (by simp) (by simp [EWe, Env.look]) rfl
  rintro i ⟨hi, he⟩ hn
  refine AWP.run (fun _ => false) tt_ok (fun _ h => nomatch h) (by simp) rfl ?_
  simp only [go_sem, natsD_len]
  refine Br_split (fun hd => ?_) (fun hd => ?_) <;> simp only [go_sem, hd]
  · have hlt : i < a.length := by simpa using hd
    have hix : idx? (natsD a) (i : Int) = some (.int .i64 (a[i] : Nat)) := by simp [idx?, natsD, List.getElem?_eq_getElem hlt]
    have hiy : idx? (natsD b) (i : Int) = some (.int .i64 (b[i] : Nat)) := by simp [idx?, natsD, List.getElem?_eq_getElem (show i < b.length by omega)]
    rw [List.drop_eq_getElem_cons hlt, List.drop_eq_getElem_cons (show i < b.length by omega), lessL] at he
    generalize a[i] = x at hix he
    generalize b[i] = y at hiy he
    refine ADrw.treeG (fun _ => false) tt_ok (by kernel_rfl) (fun k => some .S) (.ones [0, 1, 2, 3, 4, 5, 6, 7, 8] .done) (Nat.zero_le _) (fun _ h => nomatch h) rfl rfl (by kernel_rfl) ?_
    simp only [go_sem, hix, hiy]
    refine Br_split (fun h2 => ?_) (fun h2 => ?_) <;> simp only [go_sem, h2]
    · have h2' : x ≠ y := by simp at h2; omega
      rw [if_pos h2'] at he
      refine ADrw.treeG (fun _ => false) tt_ok (by kernel_rfl) (fun k => some .S) (.ones [0, 1, 2, 3, 4, 5, 6, 7, 8, 9] .done) (Nat.zero_le _) (fun _ h => nomatch h) rfl rfl (by kernel_rfl) ?_
      simp only [go_sem, hix, hiy]
      rw [← he]
      simp
    · have h2' : x = y := by simp at h2; omega
      rw [if_neg (by simpa using h2')] at he
      refine ⟨i + 1, ⟨hlt, he⟩, by omega, ?_⟩
      exact ForgetTo.same' (by simp) (by simp [EWe, Env.look, w64 (n := (i : Int) + 1) (by omega) (by omega)]) rfl
  · have hie : i = a.length := by simp at hd; omega
    subst hie
    rw [List.drop_eq_nil_of_le (Nat.le_refl _)] at he
    simp [← he, lessL]


theorem c48 (t : Town) (h1 : t.first.length ≤ 1000) (l : List Seen) (hl : l.length ≤ 1000) (hs : ∀ o ∈ l, o.name.size ≤ 1000) (ho : openE t = 0) : PC prog 48 [.d t.d, .d (.sl (l.map Seen.d))] (.d (.int .i64 (listE t l))) := by
  refine PC.run (fun _ => false) tt_ok (fn := f48) (rs := [.tmp 4]) rfl rfl rfl rfl rfl rfl rfl ?_
  simp only [go_sem, Town.d, List.length_map]
  rw [listE, if_neg (by simpa using ho)]
  refine Br_split (fun hc => ?_) (fun hc => ?_) <;> simp only [go_sem, hc]
  · rw [if_pos (by simp only [decide_eq_true_eq] at hc; omega)]
  · rw [if_neg (by simp only [decide_eq_false_iff_not] at hc; omega)]
    refine ALoop.by (S := Nat) (fun i => [(5, .d (.int .i64 i)), (2, .ptr 0 0), (1, .d (.sl (l.map Seen.d)))]) (fun _ => [townB t]) (fun i => l.length - i) (fun i => i ≤ l.length ∧ (l.take i).any (fun o => !seenOk t.first.length o) = false) 0 (Nat.zero_le _) (fun _ h => nomatch h) ⟨Nat.zero_le _, rfl⟩ (ForgetTo.same' (Nat.zero_le _) ⟨rfl, rfl, rfl, trivial⟩ rfl) ?_
    rintro i ⟨hi, hx⟩ hn
    refine AWP.run (fun _ => false) tt_ok (fun _ h => nomatch h) (Nat.zero_le _) rfl ?_
    simp only [go_sem, townB, List.length_map]
    refine Br_split (fun hd => ?_) (fun hd => ?_) <;> simp only [go_sem, hd]
    · have hlt : i < l.length := by simpa using hd
      have hix : idx? (l.map Seen.d) (i : Int) = some l[i].d := by simp [idx?, List.getElem?_eq_getElem hlt]
      have hcd : l[i].d = .agg [.int .i64 l[i].st, .str l[i].name] := rfl
      rw [hcd] at hix
      have hnx : IntKind.i64.wrap ((i : Int) + 1) = ((i + 1 : Nat) : Int) := by rw [w64 (by omega) (by omega)]; omega
      have bad : seenOk t.first.length l[i] = false → l.any (fun o => !seenOk t.first.length o) = true := fun e => List.any_eq_true.2 ⟨_, List.getElem_mem hlt, by rw [e]; rfl⟩
      have fin : seenOk t.first.length l[i] = true → (l.take (i + 1)).any (fun o => !seenOk t.first.length o) = false := fun e => by rw [List.take_succ_eq_append_getElem hlt, List.any_append, hx]; simp [e]
      have hos := hs _ (List.getElem_mem hlt)
      have hok : seenOk t.first.length l[i] = (decide (0 ≤ l[i].st ∧ l[i].st < t.first.length) && nm l[i].name) := rfl
      rw [hok] at bad fin
      clear hok
      generalize l[i].st = x1 at *
      generalize l[i].name = x3 at *
      have w1 : IntKind.i64.wrap ((t.first.length : Int) - 1) = (t.first.length : Int) - 1 := w64 (by omega) (by omega)
      have c26a := c26 x1 0 ((t.first.length : Int) - 1)
      have e1 : decide (0 ≤ x1 ∧ x1 ≤ (t.first.length : Int) - 1) = decide (0 ≤ x1 ∧ x1 < (t.first.length : Int)) := by rw [Bool.eq_iff_iff, decide_eq_true_eq, decide_eq_true_eq]; omega
      rw [e1] at c26a
      have c28a := c28 x3 hos
      refine ADrw.treeG (fun _ => false) tt_ok (by kernel_rfl) (fun k => if k = 6 then some .L else some .S) (.ones [0, 1, 2, 3, 4, 5, 6, 7, 8, 9, 10, 11, 12, 13, 14, 15, 16, 17, 18, 19] .done) (Nat.zero_le _) (fun _ h => nomatch h) rfl rfl (by kernel_rfl) ?_
      simp only [go_sem, hix, List.length_map, w1]
      refine c26a.callS rfl rfl rfl rfl rfl rfl ?_
      cases d1 : decide (0 ≤ x1 ∧ x1 < (t.first.length : Int)) with
      | false =>
        rw [if_pos (bad (by rw [d1]; rfl))]
        simp only [go_sem]
      | true =>
        simp only [go_sem, hix]
        refine c28a.callS rfl rfl rfl rfl rfl rfl ?_
        cases d3 : nm x3 with
        | false =>
          rw [if_pos (bad (by rw [d1, d3]; rfl))]
          simp only [go_sem]
        | true =>
          simp only [go_sem, hnx]
          exact ⟨i + 1, ⟨hlt, fin (by rw [d1, d3]; rfl)⟩, by omega, ForgetTo.same' (Nat.zero_le _) ⟨rfl, rfl, rfl, trivial⟩ rfl⟩
    · have hie : i = l.length := by simp only [decide_eq_false_iff_not] at hd; omega
      subst hie
      rw [List.take_length] at hx
      rw [if_neg (by rw [hx]; simp)]
end Go.Aw
end

section
set_option maxRecDepth 100000
namespace Go.Aw
open Go Go.Proofs.Tryz

def okI (t : Town) (l : List Seen) (bu : List Int) (h : Int) (i : Nat) : Bool := hasI (i : Int) bu || decide (calledT t (l.getD i default).st.toNat h = (l.getD i default).name)
def okTo (t : Town) (l : List Seen) (bu : List Int) (h : Int) (n : Nat) : Bool := (List.range n).all (okI t l bu h)
theorem okTo_succ (t : Town) (l : List Seen) (bu : List Int) (h : Int) (n : Nat) : okTo t l bu h (n + 1) = (okTo t l bu h n && okI t l bu h n) := by
  rw [okTo, List.range_succ, List.all_append]; simp [okTo]

def rhH (t : Town) (l : List Seen) (bu : List Int) (n : Nat) : List Spn := (List.range n).foldl (fun acc (h : Nat) => if okTo t l bu h l.length = true then hrS acc h h else acc) []
theorem rhH_succ (t : Town) (l : List Seen) (bu : List Int) (n : Nat) : rhH t l bu (n + 1) = if okTo t l bu n l.length = true then hrS (rhH t l bu n) n n else rhH t l bu n := by rw [rhH, List.range_succ, List.foldl_append]; rfl
theorem rhH_len (t : Town) (l : List Seen) (bu : List Int) : ∀ n, (rhH t l bu n).length ≤ n
  | 0 => Nat.le_refl _
  | n + 1 => by
    rw [rhH_succ]
    have h1 := rhH_len t l bu n
    split
    · have h2 := hrS_len (rhH t l bu n) n n
      omega
    · omega

theorem rhH_hi (t : Town) (l : List Seen) (bu : List Int) : ∀ n, ∀ y ∈ rhH t l bu n, 0 ≤ y.hi ∧ y.hi ≤ (n : Int)
  | 0, y, h => by simp [rhH] at h
  | n + 1, y, h => by
    have ih := rhH_hi t l bu n
    rw [rhH_succ] at h
    split at h
    · rcases List.eq_nil_or_concat (rhH t l bu n) with e | ⟨ac, z, e⟩
      · rw [e] at h; simp [hrS] at h; subst h; exact ⟨by show (0 : Int) ≤ (n : Int); omega, by show (n : Int) ≤ _; omega⟩
      · rw [List.concat_eq_append] at e
        rw [e] at ih h
        have h2 : hrS (ac ++ [z]) (n : Int) (n : Int) = if z.hi + 1 = (n : Int) then ac ++ [⟨z.lo, n⟩] else ac ++ [z] ++ [⟨n, n⟩] := by simp [hrS]
        rw [h2] at h
        split at h
        · rcases List.mem_append.1 h with h | h
          · have := ih y (by simp [h]); omega
          · rw [List.mem_singleton.1 h]; exact ⟨by show (0 : Int) ≤ (n : Int); omega, by show (n : Int) ≤ _; omega⟩
        · rcases List.mem_append.1 h with h | h
          · have := ih y h; omega
          · rw [List.mem_singleton.1 h]; exact ⟨by show (0 : Int) ≤ (n : Int); omega, by show (n : Int) ≤ _; omega⟩
    · have := ih y h; omega

theorem c49 (t : Town) (h1 : t.first.length ≤ 1000) (l : List Seen) (hl : l.length ≤ 1000) (hs : ∀ x ∈ l, 0 ≤ x.st ∧ x.st < t.first.length) (bu : List Int) (hbu : bu.length ≤ 1000) :
    PC prog 49 [.d (.sl (l.map Seen.d)), .d (.sl ((namesA t 1001).map nmsD)), .d (.sl (bu.map (.int .i64)))] (.d (.sl ((rhH t l bu 1001).map Spn.d))) := by
  refine PC.run (fun k => k == 12) tt_ok (fn := f49) (rs := [.tmp 6]) rfl rfl rfl rfl rfl rfl rfl ?_
  simp only [go_sem]
  have hia : ∀ h : Nat, h < 1001 → idx? ((namesA t 1001).map nmsD) (h : Int) = some (.sl ((namesT t h).map .str)) := fun h hh => by rw [idx_nat, List.getElem?_map, namesA_get hh]; rfl
  generalize hNA : (namesA t 1001).map nmsD = NA at *
  refine ALoop.by (S := Nat) (fun h => [(8, .d (.int .i64 h)), (7, .ref 0 (rhH t l bu h).length 0 (rhH t l bu h).length), (2, .d (.sl (bu.map (.int .i64)))), (1, .d (.sl NA)), (0, .d (.sl (l.map Seen.d)))]) (fun h => [.arr 2 false ((rhH t l bu h).map Spn.d)]) (fun h => 1001 - h) (fun h => h ≤ 1001) 0 (Nat.zero_le _) (fun _ h => nomatch h) (Nat.zero_le _) (ForgetTo.same' (Nat.zero_le _) ⟨rfl, rfl, rfl, rfl, rfl, trivial⟩ rfl) ?_
  rintro h hh hn
  refine AWP.run (fun _ => false) tt_ok (fun _ h => nomatch h) (Nat.zero_le _) rfl ?_
  simp only [go_sem]
  refine Br_split (fun hd => ?_) (fun hd => ?_) <;> simp only [go_sem, hd]
  · have hle : h < 1001 := by simp only [decide_eq_true_eq] at hd; omega
    have hnh : IntKind.i64.wrap ((h : Int) + 1) = ((h + 1 : Nat) : Int) := by rw [w64 (by omega) (by omega)]; omega
    have hix0 := hia h hle
    have hsn := rhH_succ t l bu h
    have hln := rhH_len t l bu h
    have hhi := rhH_hi t l bu h
    have fin : ∀ acc E, acc = rhH t l bu (h + 1) → EWe E [(8, .d (.int .i64 ((h + 1 : Nat) : Int))), (7, .ref 0 acc.length 0 acc.length), (2, .d (.sl (bu.map (.int .i64)))), (1, .d (.sl NA)), (0, .d (.sl (l.map Seen.d)))] →
        ∃ s', s' ≤ 1001 ∧ 1001 - s' < 1001 - h ∧ ForgetTo 0 E [.arr 2 false (acc.map Spn.d)] [(8, .d (.int .i64 s')), (7, .ref 0 (rhH t l bu s').length 0 (rhH t l bu s').length), (2, .d (.sl (bu.map (.int .i64)))), (1, .d (.sl NA)), (0, .d (.sl (l.map Seen.d)))] [.arr 2 false ((rhH t l bu s').map Spn.d)] := fun acc E hA hE => by
      subst hA
      exact ⟨h + 1, hle, by omega, ForgetTo.same' (Nat.zero_le _) hE rfl⟩
    rw [hsn] at fin
    clear hsn
    generalize rhH t l bu h = acc at *
    refine ALoop.by (S := Nat) (fun i => [(10, .d (.int .i64 i)), (9, .d (.bool (okTo t l bu h i))), (8, .d (.int .i64 h)), (7, .ref 0 acc.length 0 acc.length), (2, .d (.sl (bu.map (.int .i64)))), (1, .d (.sl NA)), (0, .d (.sl (l.map Seen.d)))]) (fun _ => [.arr 2 false (acc.map Spn.d)]) (fun i => l.length - i) (fun i => i ≤ l.length) 0 (Nat.zero_le _) (fun _ h => nomatch h) (Nat.zero_le _) (ForgetTo.same' (Nat.zero_le _) ⟨rfl, rfl, rfl, rfl, rfl, rfl, rfl, trivial⟩ rfl) ?_
    rintro i hi hn2
    refine AWP.run (fun _ => false) tt_ok (fun _ h => nomatch h) (Nat.zero_le _) rfl ?_
    simp only [go_sem, List.length_map]
    refine Br_split (fun he => ?_) (fun he => ?_) <;> simp only [go_sem, he]
    · have hlt : i < l.length := by simpa using he
      have hni : IntKind.i64.wrap ((i : Int) + 1) = ((i + 1 : Nat) : Int) := by rw [w64 (by omega) (by omega)]; omega
      have hix : idx? (l.map Seen.d) (i : Int) = some l[i].d := by simp [idx?, List.getElem?_eq_getElem hlt]
      have hod : l[i].d = .agg [.int .i64 l[i].st, .str l[i].name] := rfl
      rw [hod] at hix
      have hst := hs _ (List.getElem_mem hlt)
      have hks : l[i].st.toNat < t.first.length := by omega
      have hnx : idx? ((namesT t h).map D.str) l[i].st = some (.str (calledT t l[i].st.toNat h)) := by
        have e : l[i].st = ((l[i].st.toNat : Nat) : Int) := by omega
        rw [e, idx_nat, List.getElem?_map, List.getElem?_eq_getElem (by rw [namesT_len]; exact hks)]
        have := namesT_get hks (h : Int)
        rw [getDG (by rw [namesT_len]; exact hks)] at this
        rw [this]; rfl
      have c41a := c41 bu (by omega) i
      have hos := okTo_succ t l bu h i
      have hoi : okI t l bu h i = (hasI (i : Int) bu || decide (calledT t l[i].st.toNat h = l[i].name)) := by rw [okI, getDG hlt]
      rw [hoi] at hos
      have fin2 : ∀ v E, v = okTo t l bu h (i + 1) → EWe E [(10, .d (.int .i64 ((i + 1 : Nat) : Int))), (9, .d (.bool v)), (8, .d (.int .i64 h)), (7, .ref 0 acc.length 0 acc.length), (2, .d (.sl (bu.map (.int .i64)))), (1, .d (.sl NA)), (0, .d (.sl (l.map Seen.d)))] →
          ∃ s', s' ≤ l.length ∧ l.length - s' < l.length - i ∧ ForgetTo 0 E [.arr 2 false (acc.map Spn.d)] [(10, .d (.int .i64 s')), (9, .d (.bool (okTo t l bu h s'))), (8, .d (.int .i64 h)), (7, .ref 0 acc.length 0 acc.length), (2, .d (.sl (bu.map (.int .i64)))), (1, .d (.sl NA)), (0, .d (.sl (l.map Seen.d)))] [.arr 2 false (acc.map Spn.d)] := fun v E hv hE => by
        subst hv
        exact ⟨i + 1, hlt, by omega, ForgetTo.same' (Nat.zero_le _) hE rfl⟩
      rw [hos] at fin2
      clear hos hoi
      generalize okTo t l bu h i = o at *
      generalize calledT t l[i].st.toNat h = nm1 at *
      generalize l[i].st = x1 at *
      generalize l[i].name = x3 at *
      refine ADrw.treeG (fun _ => false) tt_ok (by kernel_rfl) (fun k => some .S) (.ones [0, 1, 2, 3, 4, 5, 6, 7, 8, 9, 10, 11, 12, 13, 14, 15, 16, 17, 18, 19, 20, 21, 22, 23, 24, 25] .done) (Nat.zero_le _) (fun _ h => nomatch h) rfl rfl (by kernel_rfl) ?_
      simp only [go_sem]
      cases o with
      | false =>
        simp only [Bool.false_and] at fin2
        simp only [go_sem, hni]
        refine fin2 _ _ rfl ?_
        exact ⟨rfl, rfl, rfl, rfl, rfl, rfl, rfl, trivial⟩
      | true =>
        simp only [Bool.true_and] at fin2
        simp only [go_sem]
        refine c41a.callS rfl rfl rfl rfl rfl rfl ?_
        cases hb : hasI (i : Int) bu with
        | true =>
          rw [hb, Bool.true_or] at fin2
          simp only [go_sem, hni]
          refine fin2 _ _ rfl ?_
          exact ⟨rfl, rfl, rfl, rfl, rfl, rfl, rfl, trivial⟩
        | false =>
          rw [hb, Bool.false_or] at fin2
          simp only [go_sem, hix0, hix, hnx, beq_str, hni]
          refine fin2 _ _ rfl ?_
          exact ⟨rfl, rfl, rfl, rfl, rfl, rfl, rfl, trivial⟩
    · have hie : i = l.length := by simp only [decide_eq_false_iff_not] at he; omega
      subst hie
      cases ho : okTo t l bu h l.length with
      | false =>
        rw [ho, if_neg (by simp)] at fin
        simp only [go_sem, hnh]
        refine fin _ _ rfl ?_
        exact ⟨rfl, rfl, rfl, rfl, rfl, trivial⟩
      | true =>
        rw [ho, if_pos rfl] at fin
        have sp : sized 2 [D.agg [.int .i64 (h : Int), .int .i64 (h : Int)]] = true := rfl
        rcases List.eq_nil_or_concat acc with rfl | ⟨ac, y, rfl⟩
        · have fin := fun E => fin [⟨h, h⟩] E rfl
          simp only [List.length_cons, List.length_nil, List.map_cons, List.map_nil, Spn.d, Nat.zero_add] at fin
          simp only [go_sem, hnh, sp]
          refine fin _ ?_
          exact ⟨rfl, rfl, rfl, rfl, rfl, trivial⟩
        · rw [List.concat_eq_append] at *
          have hyb := hhi y (by simp)
          have hal : ((ac ++ [y]).map Spn.d).length = ac.length + 1 := by simp
          have hl1 : (ac ++ [y]).length = ac.length + 1 := by simp
          rw [hl1] at hln
          have w1 : IntKind.i64.wrap (((ac.length + 1 : Nat) : Int) - 1) = (ac.length : Int) := by rw [w64 (by omega) (by omega)]; omega
          have w2 : IntKind.i64.wrap ((h : Int) - 1) = (h : Int) - 1 := w64 (by omega) (by omega)
          have d0 : decide ((0 : Int) < ((ac.length + 1 : Nat) : Int)) = true := decide_eq_true (by omega)
          have hg : ((ac ++ [y]).map Spn.d)[ac.length]? = some (.agg [.int .i64 y.lo, .int .i64 y.hi]) := by simp [Spn.d]
          have hset : ((ac ++ [y]).map Spn.d).set ac.length (.agg [.int .i64 y.lo, .int .i64 h]) = (ac ++ [(⟨y.lo, h⟩ : Spn)]).map Spn.d := by simp [Spn.d]
          have c1 : (0 : Int) ≤ (ac.length : Int) := by omega
          have c2 : (ac.length : Int) < ((ac.length + 1 : Nat) : Int) := by omega
          have hhS : hrS (ac ++ [y]) h h = if y.hi + 1 = (h : Int) then ac ++ [⟨y.lo, h⟩] else ac ++ [y] ++ [⟨h, h⟩] := by simp [hrS]
          rw [hhS] at fin
          simp only [go_sem, hl1, w1, w2, hal, d0, c1, c2, Int.toNat_natCast, hg]
          by_cases hnm : y.hi + 1 = (h : Int)
          · rw [if_pos hnm] at fin
            have fin := fun E => fin _ E rfl
            have hll2 : (ac ++ [(⟨y.lo, h⟩ : Spn)]).length = ac.length + 1 := by simp
            rw [hll2, ← hset] at fin
            have hb1 : decide (y.hi = (h : Int) - 1) = true := decide_eq_true (by omega)
            simp only [go_sem, hb1, hal, c1, c2, w1, Int.toNat_natCast, hg, hnh]
            refine fin _ ?_
            exact ⟨rfl, rfl, rfl, rfl, rfl, trivial⟩
          · rw [if_neg hnm] at fin
            have fin := fun E => fin _ E rfl
            have hll2 : (ac ++ [y] ++ [(⟨h, h⟩ : Spn)]).length = ac.length + 1 + 1 := by simp
            rw [hll2, List.map_append] at fin
            have hb1 : decide (y.hi = (h : Int) - 1) = false := decide_eq_false (by omega)
            generalize (ac ++ [y]).map Spn.d = M at *
            have b5 : ac.length + 1 + 1 ≤ 4294967296 := by omega
            have b6 : decide (ac.length ≤ 4294967294) = true := decide_eq_true (by omega)
            simp only [go_sem, hb1, hal, sp, b5, b6, hnh]
            refine fin _ ?_
            exact ⟨rfl, rfl, rfl, rfl, rfl, trivial⟩
  · have hhe : h = 1001 := by simp only [decide_eq_false_iff_not] at hd; omega
    subst hhe
    have htk : List.take (rhH t l bu 1001).length ((rhH t l bu 1001).map Spn.d) = (rhH t l bu 1001).map Spn.d := List.take_of_length_le (by simp)
    generalize rhH t l bu 1001 = R at *
    simp only [go_sem, List.length_map, htk]
end Go.Aw
end

section
set_option maxRecDepth 100000
namespace Go.Aw
open Go Go.Proofs.Tryz

def bestW (s : Bool × List Nat) : V := if s.1 = true then .d (.sl (natsD s.2)) else .slx (some false) []

theorem bitsL_len (i : Nat) : (bitsL i).length ≤ 6 := by
  have := List.length_filter_le (fun j => i.testBit j) (List.range 6)
  simpa [bitsL] using this

theorem wrongR_len (ok : Nat → Bool) (k : Nat) : (wrongR ok k).2.length ≤ 6 := by
  rcases wrongR_spec ok k with ⟨e, _⟩ | ⟨_, ⟨x, _, _, e⟩, _⟩
  · rw [e]; simp
  · rw [e]; exact bitsL_len x

theorem natsD_ints (l : List Nat) : natsD l = (natI l).map (.int .i64) := by simp [natsD, natI]

/-- Is there an hour with these lines wrong? -/
def okS (t : Town) (l : List Seen) (set : Nat) : Bool := decide (0 < (rhH t l (natI (bitsL set)) 1001).length)

theorem c52 (t : Town) (h1 : t.first.length ≤ 1000) (h2 : t.ch.length ≤ 1000) (l : List Seen) (hl : l.length ≤ 6) (hs : ∀ x ∈ l, 0 ≤ x.st ∧ x.st < t.first.length) :
    PC prog 52 [.d t.d, .d (.sl (l.map Seen.d))] (bestW (wrongR (okS t l) (2 ^ l.length))) := by
  refine PC.run (fun _ => false) tt_ok (fn := f52) (rs := [.tmp 4]) rfl rfl rfl rfl rfl rfl rfl ?_
  have c50a := c50 t h1 h2
  simp only [Town.d] at c50a
  have hpw : 2 ^ l.length ≤ 64 := Nat.pow_le_pow_right (n := 2) (by omega) hl
  have c49a := fun bu hb => c49 t h1 l (by omega) hs bu hb
  simp only [go_sem, Town.d]
  refine c50a.call rfl rfl rfl ?_
  generalize (namesA t 1001).map nmsD = NA at *
  simp only [go_sem]
  refine ALoop.by (S := Nat) (fun i => [(8, .d (.int .i64 i)), (7, .d (.bool (wrongR (okS t l) i).1)), (6, bestW (wrongR (okS t l) i)), (5, .d (.sl NA)), (1, .d (.sl (l.map Seen.d)))]) (fun i => [townB t]) (fun i => 2 ^ l.length - i) (fun i => i ≤ 2 ^ l.length) 0 (by simp) (fun _ h => nomatch h) (Nat.zero_le _) ?_ ?_
  · exact ForgetTo.same' (by simp) (by simp [EWe, Env.look, wrongR, bestW]) (by simp [townB])
  rintro i hi hn
  refine AWP.run (fun _ => false) tt_ok (fun _ h => nomatch h) (by simp) rfl ?_
  have hu : IntKind.u64.wrap (l.length : Int) = l.length := wu64 (by omega) (by omega)
  have hshl := shlN (p := l.length) (by omega)
  have hnx : IntKind.i64.wrap ((i : Int) + 1) = ((i + 1 : Nat) : Int) := w64 (by omega) (by omega)
  have hst := wrongR_succ (okS t l) i
  have hbl := bitsL_len i
  have hwl := wrongR_len (okS t l) i
  have hc := c49a (natI (bitsL i)) (by rw [natI, List.length_map]; omega)
  have hok : decide ((0 : Int) < ((rhH t l (natI (bitsL i)) 1001).length : Int)) = okS t l i := by rw [okS, Bool.eq_iff_iff, decide_eq_true_eq, decide_eq_true_eq]; omega
  rw [← natsD_ints] at hc
  simp only [go_sem, townB, hu, hshl, List.length_map]
  refine Br_split (fun hd => ?_) (fun hd => ?_) <;> simp only [go_sem, hd]
  · have hlt : i < 2 ^ l.length := by simp only [decide_eq_true_eq] at hd; omega
    generalize wrongR (okS t l) i = s at *
    obtain ⟨f, best⟩ := s
    refine (c97 i (by omega)).call rfl rfl rfl ?_
    have tail : ∀ f best, (f = true → lessN (bitsL i) best = true) → wrongR (okS t l) (i + 1) = wrongStep (okS t l) (f, best) i → wrongR (okS t l) (i + 1) = if okS t l i = true then (true, bitsL i) else (f, best) := fun f best h1 h2 => by
      rw [h2, wrongStep, if_neg]
      rintro ⟨h3, h4⟩
      have h3' : f = true := h3
      have h4' : lessN (bitsL i) best = false := h4
      rw [h1 h3'] at h4'
      cases h4'
    cases f with
    | true =>
      simp only [go_sem, bestW, if_true]
      refine (c98 (bitsL i) best (by omega) (by have := hwl; simp only at this; omega)).call rfl rfl rfl ?_
      simp only [go_sem]
      refine Br_split (fun h1 => ?_) (fun h1 => ?_) <;> simp only [go_sem, h1]
      · have h1' : lessN (bitsL i) best = true := by simpa using h1
        have ht := tail true best (fun _ => h1') hst
        refine hc.call rfl rfl rfl ?_
        simp only [go_sem, List.length_map, hok]
        cases hq : okS t l i with
        | false =>
          rw [hq, if_neg (by simp)] at ht
          simp only [go_sem, hnx]
          refine ⟨i + 1, by omega, by omega, ?_⟩
          rw [ht]
          exact ForgetTo.same' (Nat.zero_le _) (by simp [EWe, Env.look, bestW]) (by simp [townB])
        | true =>
          rw [hq, if_pos rfl] at ht
          simp only [go_sem, hnx]
          refine ⟨i + 1, by omega, by omega, ?_⟩
          rw [ht]
          exact ForgetTo.same' (Nat.zero_le _) (by simp [EWe, Env.look, bestW]) (by simp [townB])
      · have h1' : lessN (bitsL i) best = false := by simpa using h1
        simp only [go_sem, hnx]
        refine ⟨i + 1, by omega, by omega, ?_⟩
        have hs1 : wrongR (okS t l) (i + 1) = (true, best) := by rw [hst, wrongStep, if_pos ⟨rfl, h1'⟩]
        rw [hs1]
        exact ForgetTo.same' (Nat.zero_le _) (by simp [EWe, Env.look, bestW]) (by simp [townB])
    | false =>
      simp only [go_sem, bestW, if_false, Bool.false_eq_true]
      have ht := tail false best (fun h => nomatch h) hst
      refine hc.call rfl rfl rfl ?_
      simp only [go_sem, List.length_map, hok]
      cases hq : okS t l i with
      | false =>
        rw [hq, if_neg (by simp)] at ht
        simp only [go_sem, hnx]
        refine ⟨i + 1, by omega, by omega, ?_⟩
        rw [ht]
        exact ForgetTo.same' (Nat.zero_le _) (by simp [EWe, Env.look, bestW]) (by simp [townB])
      | true =>
        rw [hq, if_pos rfl] at ht
        simp only [go_sem, hnx]
        refine ⟨i + 1, by omega, by omega, ?_⟩
        rw [ht]
        exact ForgetTo.same' (Nat.zero_le _) (by simp [EWe, Env.look, bestW]) (by simp [townB])
  · have hie : i = 2 ^ l.length := by simp only [decide_eq_false_iff_not] at hd; omega
    subst hie
    generalize wrongR (okS t l) (2 ^ l.length) = s at *
    obtain ⟨f, best⟩ := s
    cases f with
    | true => simp only [go_sem, bestW, if_true]
    | false => simp only [go_sem, bestW, if_false, Bool.false_eq_true]
end Go.Aw
end

section
set_option maxRecDepth 100000
namespace Go.Aw
open Go Go.Proofs.Tryz

def wN (l : List Seen) (names : List ByteArray) : List Nat := (List.range l.length).filter fun i => !decide (names.getD (l.getD i default).st.toNat default = (l.getD i default).name)
theorem wrI_wN (l : List Seen) (names : List ByteArray) : wrI l names = natI (wN l names) := rfl

theorem wN_mem {t : Town} {l : List Seen} (hs : ∀ x ∈ l, 0 ≤ x.st ∧ x.st < t.first.length) {h : Int} {i : Nat} : i ∈ wN l (namesT t h) ↔ i < l.length ∧ calledT t (l.getD i default).st.toNat h ≠ (l.getD i default).name := by
  rw [wN, List.mem_filter, List.mem_range]
  refine and_congr_right fun hi => ?_
  have := hs (l.getD i default) (by rw [getDG hi]; exact List.getElem_mem hi)
  rw [namesT_get (by omega)]
  simp

theorem okTo_iff {t : Town} {l : List Seen} (hs : ∀ x ∈ l, 0 ≤ x.st ∧ x.st < t.first.length) (bu : List Nat) (h : Int) : okTo t l (natI bu) h l.length = true ↔ ∀ i ∈ wN l (namesT t h), i ∈ bu := by
  have hb : ∀ i : Nat, hasI (i : Int) (natI bu) = true ↔ i ∈ bu := fun i => by
    rw [hasI, List.any_eq_true]
    constructor
    · rintro ⟨x, hx, e⟩
      obtain ⟨n, hn, rfl⟩ := List.mem_map.1 hx
      have : (i : Int) = (n : Int) := by simpa using e
      rwa [show i = n by omega]
    · intro h
      exact ⟨(i : Int), List.mem_map.2 ⟨i, h, rfl⟩, by simp⟩
  rw [okTo, List.all_eq_true]
  constructor
  · intro h1 i hi
    obtain ⟨h2, h3⟩ := (wN_mem hs).1 hi
    have := h1 i (List.mem_range.2 h2)
    rw [okI, Bool.or_eq_true, decide_eq_true_eq, hb] at this
    rcases this with h | h
    · exact h
    · exact absurd h h3
  · intro h1 i hi
    rw [okI, Bool.or_eq_true, decide_eq_true_eq, hb]
    by_cases e : calledT t (l.getD i default).st.toNat h = (l.getD i default).name
    · exact .inr e
    · exact .inl (h1 i ((wN_mem hs).2 ⟨List.mem_range.1 hi, e⟩))

theorem hrS_run (acc : List Spn) (lo : Nat) : ∀ n : Nat, foldH (fun a h => hrS a (h : Int) (h : Int)) acc lo (n + 1) = hrS acc lo ((lo + n : Nat) : Int)
  | 0 => rfl
  | n + 1 => by
    rw [foldH, hrS_run acc lo n]
    rcases List.eq_nil_or_concat acc with rfl | ⟨ac, y, rfl⟩
    · simp [hrS]; omega
    · rw [List.concat_eq_append]
      by_cases h : y.hi + 1 = (lo : Int)
      · simp [hrS, h]; omega
      · simp [hrS, h]; omega

theorem foldH_id {α : Type} (a : α) (lo : Nat) : ∀ n, foldH (fun a _ => a) a lo n = a
  | 0 => rfl
  | n + 1 => foldH_id a lo n

theorem hours_eq {t : Town} (ht : t.Ok) {P : List Page} (hP : PgOk t P) {l : List Seen} (hs : ∀ x ∈ l, 0 ≤ x.st ∧ x.st < t.first.length) : rhH t l [] 1001 = hrP l (timesL P) := by
  have h1 := hours_fold ht hP (fun acc x => if wrI l x.2.2 = [] then hrS acc x.1 x.2.1 else acc) (fun acc ns h => if wrI l ns = [] then hrS acc (h : Int) (h : Int) else acc) (fun a ns lo n _ _ => by
    by_cases h : wrI l ns = []
    · simp only [h, if_true]; exact hrS_run a lo n
    · simp only [h, if_false]; exact foldH_id a lo (n + 1)) []
  rw [hrP, ← h1, rhH]
  congr 1
  funext acc h
  have h2 := okTo_iff hs [] (h : Int)
  by_cases e : okTo t l (natI []) (h : Int) l.length = true
  · rw [show okTo t l [] (h : Int) l.length = true from e, if_pos rfl, if_pos]
    rw [wrI_wN]
    cases hw : wN l (namesT t (h : Int)) with
    | nil => rfl
    | cons a b => have := h2.1 e a (by rw [hw]; simp); cases this
  · rw [if_neg (show ¬ okTo t l [] (h : Int) l.length = true from e), if_neg]
    rw [wrI_wN]
    intro hw
    have hw' : wN l (namesT t (h : Int)) = [] := List.map_eq_nil_iff.1 hw
    exact e (h2.2 fun i hi => by rw [hw'] at hi; cases hi)

theorem hrS_ne (acc : List Spn) (lo hi : Int) : hrS acc lo hi ≠ [] := by
  rw [hrS]
  split
  · split <;> simp
  · simp

theorem rhH_pos (t : Town) (l : List Seen) (bu : List Int) : ∀ n, 0 < (rhH t l bu n).length ↔ ∃ h : Nat, h < n ∧ okTo t l bu h l.length = true
  | 0 => by simp [rhH]
  | n + 1 => by
    rw [rhH_succ]
    by_cases e : okTo t l bu n l.length = true
    · rw [if_pos e]
      exact ⟨fun _ => ⟨n, by omega, e⟩, fun _ => List.length_pos_iff.2 (hrS_ne _ _ _)⟩
    · rw [if_neg e, rhH_pos t l bu n]
      refine ⟨fun ⟨h, h1, h2⟩ => ⟨h, by omega, h2⟩, fun ⟨h, h1, h2⟩ => ⟨h, ?_, h2⟩⟩
      rcases Nat.lt_or_ge h n with h3 | h3
      · exact h3
      · rw [show h = n by omega] at h2; exact absurd h2 e

theorem okS_iff {t : Town} {l : List Seen} (hs : ∀ x ∈ l, 0 ≤ x.st ∧ x.st < t.first.length) (set : Nat) : okS t l set = true ↔ ∃ h : Nat, h < 1001 ∧ ∀ i ∈ wN l (namesT t h), i ∈ bitsL set := by
  rw [okS, decide_eq_true_eq, rhH_pos]
  exact exists_congr fun h => and_congr_right fun _ => okTo_iff hs (bitsL set) h

theorem cmpLI_nat : ∀ a b : List Nat, a.length = b.length → decide (cmpLI (natI a) (natI b) < 0) = lessL a b
  | [], [], _ => rfl
  | [], _ :: _, h => by simp at h
  | _ :: _, [], h => by simp at h
  | x :: a, y :: b, h => by
    have ih := cmpLI_nat a b (by simpa using h)
    simp only [natI, List.map_cons] at ih ⊢
    rw [cmpLI, lessL]
    by_cases e : x = y
    · subst e
      rw [if_pos (by simp [cmpI]), if_neg (by simp)]
      exact ih
    · rw [if_pos e, if_neg (by simp only [cmpI]; split <;> (try split) <;> omega)]
      rw [Bool.eq_iff_iff, decide_eq_true_eq, decide_eq_true_eq, cmpI]
      split <;> (try split) <;> omega

theorem better_nat (a b : List Nat) : betterB (natI a) (natI b) = lessN a b := by
  rw [betterB, lessN, natI, natI, List.length_map, List.length_map]
  by_cases e : a.length = b.length
  · rw [if_neg (by simpa using e), decide_eq_false (show ¬ a.length < b.length by omega), Bool.false_or, decide_eq_true e, Bool.true_and]
    exact cmpLI_nat a b e
  · rw [if_pos e, decide_eq_false e, Bool.false_and, Bool.or_false]

theorem wrP_spec (l : List Seen) (L : List (Int × Int × List ByteArray)) : ∃ w, wrP l L = natI w ∧ ((L = [] ∧ w.length = l.length + 1) ∨ ((∃ x ∈ L, w = wN l x.2.2) ∧ ∀ x ∈ L, lessN (wN l x.2.2) w = false)) := by
  induction L using snoc_ind with
  | h0 => exact ⟨List.replicate (l.length + 1) 0, by simp [wrP, natI], .inl ⟨rfl, by simp⟩⟩
  | h1 L x ih =>
    obtain ⟨w, e, h⟩ := ih
    rw [wrP_snoc, wrS, e, wrI_wN, better_nat]
    by_cases hb : lessN (wN l x.2.2) w = true
    · rw [if_pos hb]
      refine ⟨wN l x.2.2, rfl, .inr ⟨⟨x, by simp, rfl⟩, fun y hy => ?_⟩⟩
      rcases List.mem_append.1 hy with hy | hy
      · rcases h with ⟨h, _⟩ | ⟨_, h⟩
        · rw [h] at hy; cases hy
        · cases hl : lessN (wN l y.2.2) (wN l x.2.2) with
          | false => rfl
          | true => have := lessN_trans hl hb; rw [h y hy] at this; cases this
      · rw [List.mem_singleton.1 hy]; exact lessN_irr _
    · rw [if_neg hb]
      rcases h with ⟨_, h⟩ | ⟨h1, h2⟩
      · exfalso
        apply hb
        have hwl : (wN l x.2.2).length ≤ l.length := by
          have := List.length_filter_le (fun i => !decide (x.2.2.getD (l.getD i default).st.toNat default = (l.getD i default).name)) (List.range l.length)
          rw [wN]; simpa using this
        rw [lessN, if_pos (by omega)]
        exact decide_eq_true (by omega)
      · refine ⟨w, rfl, .inr ⟨?_, fun y hy => ?_⟩⟩
        · obtain ⟨y, hy, e⟩ := h1
          exact ⟨y, List.mem_append_left _ hy, e⟩
        · rcases List.mem_append.1 hy with hy | hy
          · exact h2 y hy
          · rw [List.mem_singleton.1 hy]; simpa using hb

theorem masks : ∀ n, n < 7 → ∀ b0 b1 b2 b3 b4 b5 : Bool, ((List.range (2 ^ n)).any fun s => bitsL s == (List.range n).filter fun i => [b0, b1, b2, b3, b4, b5].getD i false) = true := by
  decide +kernel

theorem mask_of {n : Nat} (hn : n ≤ 6) (p : Nat → Bool) : ∃ s, s < 2 ^ n ∧ bitsL s = (List.range n).filter p := by
  obtain ⟨s, hs, e⟩ := List.any_eq_true.1 (masks n (by omega) (p 0) (p 1) (p 2) (p 3) (p 4) (p 5))
  refine ⟨s, List.mem_range.1 hs, ?_⟩
  rw [eq_of_beq e]
  refine List.filter_congr fun i hi => ?_
  have : i < 6 := by have := List.mem_range.1 hi; omega
  rcases i with _ | _ | _ | _ | _ | _ | i
  all_goals first | rfl | omega

theorem lessL_tot : ∀ {a b : List Nat}, a.length = b.length → lessL a b = false → lessL b a = false → a = b
  | [], [], _, _, _ => rfl
  | [], _ :: _, h, _, _ => by simp at h
  | _ :: _, [], h, _, _ => by simp at h
  | x :: a, y :: b, h, h1, h2 => by
    rw [lessL] at h1 h2
    by_cases e : x = y
    · subst e
      rw [if_neg (by simp)] at h1 h2
      rw [lessL_tot (by simpa using h) h1 h2]
    · rw [if_pos e, decide_eq_false_iff_not] at h1
      rw [if_pos (fun h => e h.symm), decide_eq_false_iff_not] at h2
      omega

theorem lessN_tot {a b : List Nat} (h1 : lessN a b = false) (h2 : lessN b a = false) : a = b := by
  rw [lessN] at h1 h2
  by_cases e : a.length = b.length
  · rw [if_neg (by simpa using e)] at h1
    rw [if_neg (by simpa using e.symm)] at h2
    exact lessL_tot e h1 h2
  · rw [if_pos e, decide_eq_false_iff_not] at h1
    rw [if_pos (fun h => e h.symm), decide_eq_false_iff_not] at h2
    omega

theorem nodup_sub' : ∀ {l m : List Nat}, l.Nodup → (∀ x ∈ l, x ∈ m) → l.length ≤ m.length
  | [], _, _, _ => Nat.zero_le _
  | x :: l, m, hd, h => by
    obtain ⟨h1, h2⟩ := List.nodup_cons.1 hd
    obtain ⟨a, b, rfl⟩ := List.append_of_mem (h x List.mem_cons_self)
    have := nodup_sub' (m := a ++ b) h2 fun y hy => by
      have := h y (List.mem_cons_of_mem _ hy)
      rw [List.mem_append, List.mem_cons] at this
      rw [List.mem_append]
      rcases this with h | rfl | h
      · exact .inl h
      · exact absurd hy h1
      · exact .inr h
    simp only [List.length_append, List.length_cons] at this ⊢
    omega

theorem ascN_ext : ∀ {l m : List Nat}, l.Pairwise (· < ·) → m.Pairwise (· < ·) → (∀ x, x ∈ l ↔ x ∈ m) → l = m
  | [], [], _, _, _ => rfl
  | [], y :: m, _, _, h => by have := (h y).2 (by simp); cases this
  | x :: l, [], _, _, h => by have := (h x).1 (by simp); cases this
  | x :: l, y :: m, h1, h2, h => by
    obtain ⟨a1, a2⟩ := List.pairwise_cons.1 h1
    obtain ⟨b1, b2⟩ := List.pairwise_cons.1 h2
    have hxy : x = y := by
      have hx := (h x).1 (by simp)
      have hy := (h y).2 (by simp)
      rcases List.mem_cons.1 hx with e | hx
      · exact e
      · rcases List.mem_cons.1 hy with e | hy
        · exact e.symm
        · have := b1 x hx; have := a1 y hy; omega
    subst hxy
    rw [ascN_ext a2 b2 fun z => ?_]
    constructor
    · intro hz
      rcases List.mem_cons.1 ((h z).1 (List.mem_cons_of_mem _ hz)) with e | hz'
      · have := a1 z hz; omega
      · exact hz'
    · intro hz
      rcases List.mem_cons.1 ((h z).2 (List.mem_cons_of_mem _ hz)) with e | hz'
      · have := b1 z hz; omega
      · exact hz'

theorem wrong_law {t : Town} (ht : t.Ok) {P : List Page} (hP : PgOk t P) {l : List Seen} (hl : l.length ≤ 6) (hs : ∀ x ∈ l, 0 ≤ x.st ∧ x.st < t.first.length) :
    ∃ w, wrongR (okS t l) (2 ^ l.length) = (true, w) ∧ wrP l (timesL P) = natI w ∧ (w = [] ↔ hrP l (timesL P) ≠ []) := by
  obtain ⟨w, hw, hsp⟩ := wrP_spec l (timesL P)
  obtain ⟨r, hr⟩ := hP.head
  have hne : timesL P ≠ [] := by rw [hr]; simp [timesL]
  rcases hsp with ⟨h, _⟩ | ⟨⟨x0, hx0, e0⟩, hmin⟩
  · exact absurd h hne
  have toH : ∀ x ∈ timesL P, ∃ h : Nat, h < 1001 ∧ x.2.2 = namesT t h := fun x hx => by
    obtain ⟨p, hp, e⟩ := timesL_names hx
    have := hP.hrs p hp
    exact ⟨p.hour.toNat, by omega, by rw [e, hP.nms p hp]; congr 1; omega⟩
  have ofH : ∀ h : Nat, h < 1001 → ∃ x ∈ timesL P, x.2.2 = namesT t h := fun h _ => by
    obtain ⟨hi, e, _⟩ := pageI_ok ht hP (h := (h : Int)) (by omega)
    exact ⟨(timesL P)[pageI P h]'(by rw [timesL_len]; exact hi), List.getElem_mem _, by rw [timesL_get P _ hi]; exact e⟩
  obtain ⟨h0, hh0, en0⟩ := toH x0 hx0
  have hsub : ∀ h : Nat, ∃ s, s < 2 ^ l.length ∧ bitsL s = wN l (namesT t h) := fun h => mask_of hl _
  have okm : ∀ h : Nat, h < 1001 → ∀ s, bitsL s = wN l (namesT t h) → okS t l s = true := fun h hh s e => (okS_iff hs s).2 ⟨h, hh, fun i hi => by rw [e]; exact hi⟩
  have hmin' : ∀ h : Nat, h < 1001 → lessN (wN l (namesT t h)) w = false := fun h hh => by
    obtain ⟨x, hx, e⟩ := ofH h hh
    rw [← e]; exact hmin x hx
  obtain ⟨m0, hm0, em0⟩ := hsub h0
  have hwm : bitsL m0 = w := by rw [em0, e0, en0]
  have hokm := okm h0 hh0 m0 em0
  refine ⟨w, ?_, hw, ?_⟩
  · rcases wrongR_spec (okS t l) (2 ^ l.length) with ⟨_, h⟩ | ⟨h1, ⟨x, hx, hox, he⟩, h3⟩
    · rw [h m0 hm0] at hokm; cases hokm
    · refine Prod.ext h1 ?_
      show (wrongR (okS t l) (2 ^ l.length)).2 = w
      have hb1 := h3 m0 hm0 hokm
      rw [hwm] at hb1
      generalize (wrongR (okS t l) (2 ^ l.length)).2 = best at *
      obtain ⟨h, hh, hin⟩ := (okS_iff hs x).1 hox
      obtain ⟨s, hs2, es⟩ := hsub h
      have hb2 := h3 s hs2 (okm h hh s es)
      rw [es] at hb2
      have hnd : (wN l (namesT t (h : Int))).Nodup := List.nodup_range.filter _
      have hle := nodup_sub' hnd hin
      have hbx : wN l (namesT t (h : Int)) = best := by
        rw [he] at hb2 ⊢
        have hlen : (wN l (namesT t (h : Int))).length = (bitsL x).length := by
          rcases Nat.lt_or_ge (wN l (namesT t (h : Int))).length (bitsL x).length with h4 | h4
          · rw [lessN, if_pos (by omega), decide_eq_false_iff_not] at hb2; omega
          · omega
        have hs1 : (wN l (namesT t (h : Int))).Sublist (List.range l.length) := List.filter_sublist
        have p1 : (wN l (namesT t (h : Int))).Pairwise (· < ·) := List.pairwise_lt_range.filter _
        have p2 : (bitsL x).Pairwise (· < ·) := List.pairwise_lt_range.filter _
        refine ascN_ext p1 p2 fun z => ⟨hin z, fun hz => ?_⟩
        by_cases hzm : z ∈ wN l (namesT t (h : Int))
        · exact hzm
        · have := nodup_sub' (l := z :: wN l (namesT t (h : Int))) (m := bitsL x) (List.nodup_cons.2 ⟨hzm, hnd⟩) fun y hy => by
            rcases List.mem_cons.1 hy with e | hy
            · rw [e]; exact hz
            · exact hin y hy
          simp only [List.length_cons] at this; omega
      have hb3 := hmin' h hh
      rw [hbx] at hb3
      exact lessN_tot hb3 hb1
  · rw [← hours_eq ht hP hs]
    have hpos := rhH_pos t l [] 1001
    constructor
    · intro hw0 hz
      have : 0 < (rhH t l [] 1001).length := hpos.2 ⟨h0, hh0, (okTo_iff hs [] h0).2 fun i hi => by rw [← en0, ← e0, hw0] at hi; exact hi⟩
      rw [hz] at this; exact absurd this (Nat.lt_irrefl 0)
    · intro hz
      obtain ⟨h, hh, hok⟩ := hpos.1 (List.length_pos_iff.2 hz)
      have hw0 : wN l (namesT t (h : Int)) = [] := by
        cases hc : wN l (namesT t (h : Int)) with
        | nil => rfl
        | cons a b => have := (okTo_iff hs [] h).1 hok a (by rw [hc]; simp); cases this
      have := hmin' h hh
      rw [hw0, lessN] at this
      cases w with
      | nil => rfl
      | cons a b => rw [if_pos (by simp)] at this; simp at this
end Go.Aw
end

section
set_option maxRecDepth 100000
namespace Go.Aw
open Go Go.Proofs.Tryz

theorem sized_seen (l : List Seen) : sized 2 (l.map Seen.d) = true := by simp [sized, Seen.d, dcells]

theorem c8_a (t : Town) (l : List Seen)
    (hrest : l.length ≤ 20 → longB t [] = false → (∀ o ∈ l, o.name.size ≤ 40) → AWP prog f8.ntmps 0 none (restC 3 (bodyOf f8)) [(2, .ptr 0 0), (1, .d (.sl (l.map Seen.d)))] [townB t] (post1 4)) :
    PC prog 8 [.d t.d, .d (.sl (l.map Seen.d))] (.d (.bool true)) := by
  refine PC.of_body tt_ok (fn := f8) (c := bodyOf f8) (rs := [.tmp 4]) rfl rfl rfl rfl rfl rfl ?_
  have c14a := c14 t []
  have hb : decide ((20 : Int) < (l.length : Int)) = decide (20 < l.length) := by rw [Bool.eq_iff_iff, decide_eq_true_eq, decide_eq_true_eq]; omega
  simp only [Town.d] at c14a
  cases d1 : decide (20 < l.length) with
  | true =>
    refine AWP.runS (fun _ => false) tt_ok (fun _ h => nomatch h) (Nat.zero_le _) rfl ?_
    simp only [go_sem, Town.d, List.length_map, hb, d1]
    refine c15.call rfl rfl rfl ?_
    simp only [go_sem]
  | false =>
  have h20 : l.length ≤ 20 := by simp only [decide_eq_false_iff_not] at d1; omega
  cases d2 : longB t [] with
  | true =>
    rw [d2] at c14a
    refine AWP.runS (fun _ => false) tt_ok (fun _ h => nomatch h) (Nat.zero_le _) rfl ?_
    simp only [go_sem, Town.d, List.length_map, hb, d1]
    refine c14a.call rfl rfl rfl ?_
    simp only [go_sem]
    refine c15.call rfl rfl rfl ?_
    simp only [go_sem]
  | false =>
  rw [d2] at c14a
  by_cases hall : ∀ o ∈ l, o.name.size ≤ 40
  · refine AWP.stepN 3 _ _ (fun _ => false) tt_ok (fun _ h => nomatch h) (Nat.zero_le _) rfl ?_ (hrest h20 d2 hall)
    clear hrest
    simp only [go_sem, Town.d, List.length_map, hb, d1]
    refine c14a.call rfl rfl rfl ?_
    simp only [go_sem]
    refine ALoop.by (S := Nat) (fun i => [(5, .d (.int .i64 i)), (2, .ptr 0 0), (1, .d (.sl (l.map Seen.d)))]) (fun _ => [townB t]) (fun i => l.length - i) (fun i => i ≤ l.length) 0 (Nat.zero_le _) (fun _ h => nomatch h) (Nat.zero_le _) (ForgetTo.same' (Nat.zero_le _) ⟨rfl, rfl, rfl, trivial⟩ rfl) ?_
    rintro i hi hn
    refine AWP.run (fun _ => false) tt_ok (fun _ h => nomatch h) (Nat.zero_le _) rfl ?_
    simp only [go_sem, List.length_map]
    refine Br_split (fun hd => ?_) (fun hd => ?_) <;> simp only [go_sem, hd]
    · have hlt : i < l.length := by simpa using hd
      have hix : idx? (l.map Seen.d) (i : Int) = some l[i].d := by simp [idx?, List.getElem?_eq_getElem hlt]
      have hod : l[i].d = .agg [.int .i64 l[i].st, .str l[i].name] := rfl
      rw [hod] at hix
      have hnx : IntKind.i64.wrap ((i : Int) + 1) = ((i + 1 : Nat) : Int) := by rw [w64 (by omega) (by omega)]; omega
      have h40 := hall _ (List.getElem_mem hlt)
      generalize l[i].st = x1 at *
      generalize l[i].name = x3 at *
      have d3 : decide ((40 : Int) < (x3.size : Int)) = false := decide_eq_false (by omega)
      simp only [go_sem, hix, d3, hnx]
      exact ⟨i + 1, hlt, by omega, ForgetTo.same' (Nat.zero_le _) ⟨rfl, rfl, rfl, trivial⟩ rfl⟩
    · exact ForgetTo.same' (Nat.zero_le _) ⟨rfl, rfl, trivial⟩ rfl
  · clear hrest
    refine AWP.runS (fun _ => false) tt_ok (fun _ h => nomatch h) (Nat.zero_le _) rfl ?_
    simp only [go_sem, Town.d, List.length_map, hb, d1]
    refine c14a.call rfl rfl rfl ?_
    simp only [go_sem]
    refine ALoop.by (S := Nat) (fun i => [(5, .d (.int .i64 i)), (2, .ptr 0 0), (1, .d (.sl (l.map Seen.d)))]) (fun _ => [townB t]) (fun i => l.length - i) (fun i => i ≤ l.length ∧ ∀ o ∈ l.take i, o.name.size ≤ 40) 0 (Nat.zero_le _) (fun _ h => nomatch h) ⟨Nat.zero_le _, fun o ho => by simp at ho⟩ (ForgetTo.same' (Nat.zero_le _) ⟨rfl, rfl, rfl, trivial⟩ rfl) ?_
    rintro i ⟨hi, hx⟩ hn
    refine AWP.run (fun _ => false) tt_ok (fun _ h => nomatch h) (Nat.zero_le _) rfl ?_
    simp only [go_sem, List.length_map]
    refine Br_split (fun hd => ?_) (fun hd => ?_) <;> simp only [go_sem, hd]
    · have hlt : i < l.length := by simpa using hd
      have hix : idx? (l.map Seen.d) (i : Int) = some l[i].d := by simp [idx?, List.getElem?_eq_getElem hlt]
      have hod : l[i].d = .agg [.int .i64 l[i].st, .str l[i].name] := rfl
      rw [hod] at hix
      have hnx : IntKind.i64.wrap ((i : Int) + 1) = ((i + 1 : Nat) : Int) := by rw [w64 (by omega) (by omega)]; omega
      have nxt : l[i].name.size ≤ 40 → ∀ o ∈ l.take (i + 1), o.name.size ≤ 40 := fun h o ho => by
        rw [List.take_succ_eq_append_getElem hlt, List.mem_append, List.mem_singleton] at ho
        rcases ho with ho | rfl
        · exact hx o ho
        · exact h
      generalize l[i].st = x1 at *
      generalize l[i].name = x3 at *
      simp only [go_sem, hix]
      refine Br_split (fun he => ?_) (fun he => ?_) <;> simp only [go_sem, he]
      · refine c15.call rfl rfl rfl ?_
        simp only [go_sem]
      · simp only [go_sem, hnx]
        exact ⟨i + 1, ⟨hlt, nxt (by simp only [decide_eq_false_iff_not] at he; omega)⟩, by omega, ForgetTo.same' (Nat.zero_le _) ⟨rfl, rfl, rfl, trivial⟩ rfl⟩
    · have hie : i = l.length := by simp only [decide_eq_false_iff_not] at hd; omega
      subst hie
      rw [List.take_length] at hx
      exact absurd hx hall

def e8b (t : Town) (l : List Seen) : Env := [(11, .d (.int .i64 (wrongP t l).2)), (10, wrongV (wrongP t l)), (9, .d (.int .i64 (hoursP t l).2)), (8, hoursV (hoursP t l)), (2, .ptr 0 0), (1, .d (.sl (l.map Seen.d)))]

theorem c8_b (t : Town) (l : List Seen) (h20 : l.length ≤ 20) (hlong : longB t [] = false) (hall : ∀ o ∈ l, o.name.size ≤ 40)
    (hrest : AWP prog f8.ntmps 0 none (restC 5 (restC 3 (bodyOf f8))) (e8b t l) [townB t, townB t] (post1 4)) :
    AWP prog f8.ntmps 0 none (restC 3 (bodyOf f8)) [(2, .ptr 0 0), (1, .d (.sl (l.map Seen.d)))] [townB t] (post1 4) := by
  obtain ⟨hs, l1, l2, _, m1, m2, m3⟩ := long_fits hlong
  refine AWP.stepN 5 _ _ (fun _ => false) tt_ok (fun _ h => nomatch h) (Nat.zero_le _) rfl ?_ hrest
  clear hrest
  have c16a := c16 t (by omega) (by omega)
  have c20a := c20 t (by omega) (by omega)
  have hls : ∀ o ∈ l, o.name.size ≤ 1000 := fun o ho => by have := hall o ho; omega
  have c46a := c46 t hs l (by omega) hls
  have c47a := c47 t hs l (by omega) hls
  simp only [Town.d] at c16a c20a c46a c47a
  have s1 := sized_seen l
  have b1 : l.length ≤ 4294967296 := by omega
  have hvH : VB 0 (hoursV (hoursP t l)) = true := by rw [hoursV]; split <;> rfl
  have hvW : VB 0 (wrongV (wrongP t l)) = true := by rw [wrongV]; split <;> rfl
  simp only [e8b]
  generalize hoursP t l = H at *
  generalize hoursV H = vH at *
  generalize wrongP t l = W at *
  generalize wrongV W = vW at *
  simp only [townB]
  simp only [go_sem]
  refine c16a.call rfl rfl rfl ?_
  simp only [go_sem, s1, List.length_map, b1]
  refine c46a.call rfl rfl (by simp [VB, VBs, hvH]) ?_
  simp only [go_sem]
  refine c47a.call rfl rfl (by simp [VB, VBs, hvW]) ?_
  simp only [go_sem]
  refine c20a.call rfl rfl rfl ?_
  simp only [go_sem]
  refine ALoop.by (S := Nat) (fun i => [(12, .d (.int .i64 i)), (11, .d (.int .i64 W.2)), (10, vW), (9, .d (.int .i64 H.2)), (8, vH), (7, .d (.sl (l.map Seen.d))), (2, .ptr 0 0), (1, .d (.sl (l.map Seen.d)))]) (fun _ => [townB t, townB t]) (fun i => l.length - i) (fun i => i ≤ l.length) 0 (Nat.zero_le _) (fun _ h => nomatch h) (Nat.zero_le _) (ForgetTo.same' (Nat.zero_le _) ⟨rfl, rfl, rfl, rfl, rfl, rfl, rfl, rfl, trivial⟩ rfl) ?_
  rintro i hi hn
  refine AWP.run (fun _ => false) tt_ok (fun _ h => nomatch h) (Nat.zero_le _) rfl ?_
  simp only [go_sem, List.length_map]
  refine Br_split (fun hd => ?_) (fun hd => ?_) <;> simp only [go_sem, hd]
  · have hlt : i < l.length := by simpa using hd
    have hix : idx? (l.map Seen.d) (i : Int) = some l[i].d := by simp [idx?, List.getElem?_eq_getElem hlt]
    have hod : l[i].d = .agg [.int .i64 l[i].st, .str l[i].name] := rfl
    rw [hod] at hix
    have hnx : IntKind.i64.wrap ((i : Int) + 1) = ((i + 1 : Nat) : Int) := by rw [w64 (by omega) (by omega)]; omega
    generalize l[i].st = x1 at *
    generalize l[i].name = x3 at *
    refine ADrw.treeG (fun _ => false) tt_ok (by kernel_rfl) (fun k => some .S) (.ones [0, 1, 2, 3, 4, 5, 6, 7, 8] .done) (Nat.zero_le _) (fun _ h => nomatch h) rfl rfl (by kernel_rfl) ?_
    simp only [go_sem, hix, beq_self_dec, beq_ba, hnx]
    exact ⟨i + 1, hlt, by omega, ForgetTo.same' (Nat.zero_le _) ⟨rfl, rfl, rfl, rfl, rfl, rfl, rfl, rfl, trivial⟩ rfl⟩
  · exact ForgetTo.same' (Nat.zero_le _) ⟨rfl, rfl, rfl, rfl, rfl, rfl, trivial⟩ rfl

theorem c8_c (t : Town) (l : List Seen) (h20 : l.length ≤ 20) (hlong : longB t [] = false) (hall : ∀ o ∈ l, o.name.size ≤ 40) :
    AWP prog f8.ntmps 0 none (restC 5 (restC 3 (bodyOf f8))) (e8b t l) [townB t, townB t] (post1 4) := by
  obtain ⟨hs, l1, l2, _, m1, m2, m3⟩ := long_fits hlong
  have hls : ∀ o ∈ l, o.name.size ≤ 1000 := fun o ho => by have := hall o ho; omega
  have c25a := c25 t (by omega) (by omega) hs.fn hs.cn
  have hd0 : ∀ {α : Type} [DecidableEq α] (l : α), decide (l = l) = true := fun l => by simp
  have hw0 : IntKind.i64.wrap (0 + 0) = 0 := rfl
  have hH : hoursP t l = if listE t l ≠ 0 then ([], listE t l) else if hrP l (timesL (nbT t).1) = [] then ([], 7) else (hrP l (timesL (nbT t).1), 0) := rfl
  have hW : wrongP t l = if listE t l ≠ 0 then ([], listE t l) else if wrP l (timesL (nbT t).1) = [] then ([], 6) else (wrP l (timesL (nbT t).1), 0) := rfl
  have hHe : ∀ p : List Spn × Int, p.2 ≠ 0 → hoursV p = .slx (some true) [] := fun p h => by rw [hoursV, if_pos h]
  have hWe : ∀ p : List Int × Int, p.2 ≠ 0 → wrongV p = .slx (some true) [] := fun p h => by rw [wrongV, if_pos h]
  simp only [Town.d] at c25a
  refine AWP.runS (fun _ => false) tt_ok (fun _ h => nomatch h) (Nat.zero_le _) rfl ?_
  by_cases ho : openE t = 0
  · have c48a := c48 t (by omega) l (by omega) hls ho
    rw [ho] at c25a
    simp only [Town.d] at c48a
    by_cases he : listE t l = 0
    · rw [if_neg (by simpa using he)] at hH hW
      rw [he] at c48a
      obtain ⟨_, z2, z3, _⟩ := list_z he
      obtain ⟨hok, hb, hpg⟩ := open_pg ho
      have hst : ∀ x ∈ l, 0 ≤ x.st ∧ x.st < t.first.length := fun x hx => ⟨(z3 x hx).1, (z3 x hx).2.1⟩
      obtain ⟨w, hw1, hw2, hw3⟩ := wrong_law hok hpg z2 hst
      have c50a := c50 t (by omega) (by omega)
      have c49a := c49 t (by omega) l (by omega) hst [] (by simp)
      rw [hours_eq hok hpg hst] at c49a
      have c52a := c52 t (by omega) (by omega) l z2 hst
      rw [hw1] at c52a
      have hRl : (hrP l (timesL (nbT t).1)).length ≤ 1001 := by rw [← hours_eq hok hpg hst]; exact rhH_len _ _ _ _
      have hwl : w.length ≤ 6 := by have := wrongR_len (okS t l) (2 ^ l.length); rw [hw1] at this; exact this
      rw [hw2] at hW
      simp only [Town.d, bestW, if_true, List.map_nil] at c50a c52a c49a
      rw [natsD_ints] at c52a
      have c22a := c22 (natI w) (natI w) (by rw [natI, List.length_map]; omega) (by rw [natI, List.length_map]; omega)
      generalize hrP l (timesL (nbT t).1) = R at *
      have c51a := c51 R R (by omega) (by omega)
      by_cases hwe : w = []
      · have hR := hw3.1 hwe
        subst hwe
        rw [if_neg hR] at hH
        rw [if_pos (show natI [] = [] from rfl)] at hW
        have hv : hoursV (R, (0 : Int)) = .d (.sl (R.map Spn.d)) := by rw [hoursV, if_neg (by simp)]
        have hpos : decide ((0 : Int) < (R.length : Int)) = true := decide_eq_true (by have := List.length_pos_iff.2 hR; omega)
        simp only [e8b, hH, hW, townB]
        rw [hv, hWe _ (show (([] : List Int), (6 : Int)).2 ≠ 0 from by decide)]
        simp only [go_sem]
        refine c25a.call rfl rfl rfl ?_
        simp only [go_sem]
        refine c48a.call rfl rfl rfl ?_
        simp only [go_sem]
        refine c50a.call rfl rfl rfl ?_
        simp only [go_sem]
        refine c49a.call rfl rfl rfl ?_
        simp only [go_sem, List.length_map, hpos]
        refine c51a.call rfl rfl rfl ?_
        simp only [go_sem, hd0, List.length_nil]
        refine c15.call rfl rfl rfl ?_
        simp only [go_sem]
      · have hR : R = [] := Classical.not_not.1 fun h => hwe (hw3.2 h)
        subst hR
        rw [if_pos rfl] at hH
        rw [if_neg (show ¬ natI w = [] from fun h => hwe (List.map_eq_nil_iff.1 h))] at hW
        have hv : wrongV (natI w, (0 : Int)) = .d (.sl ((natI w).map (.int .i64))) := by rw [wrongV, if_neg (by simp)]
        simp only [e8b, hH, hW, townB]
        rw [hv, hHe _ (show (([] : List Spn), (7 : Int)).2 ≠ 0 from by decide)]
        simp only [go_sem]
        refine c25a.call rfl rfl rfl ?_
        simp only [go_sem]
        refine c48a.call rfl rfl rfl ?_
        simp only [go_sem]
        refine c50a.call rfl rfl rfl ?_
        simp only [go_sem]
        refine c49a.call rfl rfl rfl ?_
        simp only [go_sem, List.length_map, List.length_nil]
        refine c52a.call rfl rfl rfl ?_
        simp only [go_sem]
        refine c22a.call rfl rfl rfl ?_
        simp only [go_sem, hd0]
        refine c15.call rfl rfl rfl ?_
        simp only [go_sem]
    · rw [if_pos (by simpa using he)] at hH hW
      have d1 : decide (listE t l = 0) = false := decide_eq_false he
      simp only [e8b, hH, hW, townB]
      rw [hHe _ (show (([] : List Spn), listE t l).2 ≠ 0 from he), hWe _ (show (([] : List Int), listE t l).2 ≠ 0 from he)]
      simp only [go_sem]
      refine c25a.call rfl rfl rfl ?_
      simp only [go_sem]
      refine c48a.call rfl rfl rfl ?_
      simp only [go_sem, d1, hd0, List.length_nil, hw0]
      refine c15.call rfl rfl rfl ?_
      simp only [go_sem]
  · have he : listE t l = openE t := by rw [listE, if_pos (by simpa using ho)]
    rw [he, if_pos (by simpa using ho)] at hH hW
    have d1 : decide (openE t = 0) = false := decide_eq_false ho
    simp only [e8b, hH, hW, townB]
    rw [hHe _ (show (([] : List Spn), openE t).2 ≠ 0 from ho), hWe _ (show (([] : List Int), openE t).2 ≠ 0 from ho)]
    simp only [go_sem]
    refine c25a.call rfl rfl rfl ?_
    simp only [go_sem, d1, hd0, List.length_nil, hw0]
    refine c15.call rfl rfl rfl ?_
    simp only [go_sem]

theorem c8 (t : Town) (l : List Seen) : PC prog 8 [.d t.d, .d (.sl (l.map Seen.d))] (.d (.bool true)) :=
  c8_a t l fun h1 h2 h3 => c8_b t l h1 h2 h3 (c8_c t l h1 h2 h3)
end Go.Aw
end

section
set_option maxRecDepth 100000
namespace Go.Aw
open Go Go.Proofs

theorem has_seen {f : Nat} {y : D} (h : HasT Tryz.prog (f + 2) 89 y) : ∃ c : Seen, y = c.d := by
  unfold HasT at h
  rw [Tryz.underlying89] at h
  obtain ⟨l, rfl, h⟩ := h
  simp only [HasFs] at h
  obtain ⟨y1, r1, rfl, h1, y2, r2, rfl, h2, rfl⟩ := h
  obtain ⟨n1, rfl, _⟩ := has_int h1
  obtain ⟨n2, rfl⟩ := has_str h2
  exact ⟨⟨n1, n2⟩, rfl⟩

theorem has_seens {f : Nat} {y : D} (h : HasT Tryz.prog (f + 3) 87 y) : ∃ l : List Seen, y = .sl (l.map Seen.d) := by
  unfold HasT at h
  rw [Tryz.underlying87] at h
  obtain ⟨l, rfl, h1, hl⟩ := h
  obtain ⟨ss, rfl⟩ := has_list (fun y hy => has_seen (f := f) hy) l hl
  exact ⟨ss, rfl⟩
end Go.Aw
end
