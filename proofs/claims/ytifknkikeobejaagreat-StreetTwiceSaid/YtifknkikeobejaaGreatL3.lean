/- The reference: Name, Change, Copy, Same, Called, Check. The reference: Clash, First. The reference: First, Check, Open; the law's long. The law's long. The law StreetClashes. Towns as arguments of the laws. The law StreetNames. The reference: Names of all hours, Holds. The reference: Faults. The reference: Meant. The law StreetMeants. Hours and Wrong: the plain law. The plain laws: small functions. The plain laws' town: made. made: the whole. The plain laws' town: what is known of it. The plain laws' town is open; how its streets are called. Councils as arguments; so, span. Two changes that contradict each other: the plain law. own, with rows. The law StreetTwice. The law StreetTwice: what the program answers. -/
import Derived.Test.YtifknkikeobejaaGreatL2
set_option linter.unusedSimpArgs false
set_option linter.unusedVariables false

section
set_option maxRecDepth 100000
namespace Go.Aw
open Go Go.Proofs.Tryz

theorem c28 (s : ByteArray) (hs : s.size ≤ 1000) : PC prog 28 [.d (.str s)] (.d (.bool (nm s))) := by
  refine PC.run (fun _ => false) tt_ok (fn := f28) (rs := [.tmp 2]) rfl rfl rfl rfl rfl rfl rfl ?_
  simp only [go_sem]
  refine ALoop.by (S := Nat) (fun i => [(3, .d (.int .i64 i)), (0, .d (.str s))]) (fun _ => []) (fun i => s.size - i) (fun i => i ≤ s.size ∧ lettersTo s i = true) 0 (Nat.zero_le _) (fun _ h => nomatch h) ⟨Nat.zero_le _, rfl⟩ (ForgetTo.same' (Nat.zero_le _) ⟨rfl, rfl, trivial⟩ rfl) ?_
  rintro i ⟨hi, hli⟩ hn
  refine AWP.run (fun _ => false) tt_ok (fun _ h => nomatch h) (Nat.zero_le _) rfl ?_
  simp only [go_sem]
  refine Br_split (fun hd => ?_) (fun hd => ?_) <;> simp only [go_sem, hd]
  · have hlt : i < s.size := by simpa using hd
    have hai := aindex_str (T := Tt) (z := ⟨#[]⟩) (k := .i64) hlt
    have hgd : s.data.toList.getD i 0 = s.get! i := by rw [get_data hlt, List.getD_eq_getElem?_getD, List.getElem?_eq_getElem (by simpa using hlt)]; rfl
    rw [hgd] at hai
    have hls := lettersTo_succ hlt
    have hno := nm_no hlt
    rw [hli, Bool.true_and] at hls
    have hlet : letter (s.get! i) = (decide (97 ≤ (s.get! i).toNat) && decide ((s.get! i).toNat ≤ 122)) := rfl
    have hnx : IntKind.i64.wrap ((i : Int) + 1) = ((i + 1 : Nat) : Int) := by rw [w64 (by omega) (by omega)]; omega
    generalize (s.get! i).toNat = b at *
    generalize letter (s.get! i) = L at *
    simp only [go_sem, hai]
    cases d1 : decide ((b : Int) < 97) with
    | true =>
      have : decide (97 ≤ b) = false := by simp only [decide_eq_true_eq, decide_eq_false_iff_not] at d1 ⊢; omega
      rw [this, Bool.false_and] at hlet
      simp only [go_sem, d1]
      rw [hno hlet]
    | false =>
      have h97 : decide (97 ≤ b) = true := by simp only [decide_eq_true_eq, decide_eq_false_iff_not] at d1 ⊢; omega
      cases d2 : decide ((122 : Int) < b) with
      | true =>
        have : decide (b ≤ 122) = false := by simp only [decide_eq_true_eq, decide_eq_false_iff_not] at d2 ⊢; omega
        rw [this, Bool.and_false] at hlet
        simp only [go_sem, d1, d2, hai]
        rw [hno hlet]
      | false =>
        have h122 : decide (b ≤ 122) = true := by simp only [decide_eq_true_eq, decide_eq_false_iff_not] at d2 ⊢; omega
        rw [h97, h122] at hlet
        simp only [go_sem, d1, d2, hai, hnx]
        exact ⟨i + 1, ⟨hlt, by rw [hls, hlet]; rfl⟩, by omega, ForgetTo.same' (Nat.zero_le _) ⟨rfl, rfl, trivial⟩ rfl⟩
  · have hie : i = s.size := by simp only [decide_eq_false_iff_not] at hd; omega
    subst hie
    refine (c26 (s.size : Int) 1 10).call rfl rfl rfl ?_
    simp only [go_sem]
    rw [nm_end hli]

theorem c39 (c : Chg) (n : Nat) (hn : n ≤ 1000000) (hs : c.name.size ≤ 1000) : PC prog 39 [.d c.d, .d (.int .i64 n)] (.d (.bool (chgOk n c))) := by
  rw [chgOk]
  refine PC.run (fun _ => false) tt_ok (fn := f39) (rs := [.tmp 4]) rfl rfl rfl rfl rfl rfl rfl ?_
  have c26a := c26 c.at' 1 1000
  have w1 : IntKind.i64.wrap ((n : Int) - 1) = (n : Int) - 1 := w64 (by omega) (by omega)
  have c26b := c26 c.st 0 ((n : Int) - 1)
  have e : decide (0 ≤ c.st ∧ c.st ≤ (n : Int) - 1) = decide (0 ≤ c.st ∧ c.st < (n : Int)) := by rw [Bool.eq_iff_iff, decide_eq_true_eq, decide_eq_true_eq]; omega
  rw [e] at c26b
  have c28a := c28 c.name hs
  simp only [go_sem, Chg.d, w1]
  refine c26a.call rfl rfl rfl ?_
  simp only [go_sem, w1]
  cases d1 : decide (1 ≤ c.at' ∧ c.at' ≤ 1000) with
  | false => simp only [go_sem, d1]
  | true =>
    simp only [go_sem, d1, w1]
    refine c26b.call rfl rfl rfl ?_
    cases d2 : decide (0 ≤ c.st ∧ c.st < (n : Int)) with
    | false => simp only [go_sem, d1, d2]
    | true =>
      simp only [go_sem, d1, d2]
      refine c28a.call rfl rfl rfl ?_
      simp only [go_sem]

theorem c16 (t : Town) (h1 : t.first.length ≤ 1000) (h2 : t.ch.length ≤ 1000) : PC prog 16 [.d t.d] (.d t.d) := by
  refine PC.run (fun _ => false) tt_ok (fn := f16) (rs := [.cell 2 25]) rfl rfl rfl rfl rfl rfl rfl ?_
  have s1 := sized_strs t.first
  have s2 := sized_chg t.ch
  have l1 : t.first.length ≤ 4294967296 := by omega
  have l2 : t.ch.length ≤ 4294967296 := by omega
  simp only [go_sem, Town.d]
  refine ADrw.treeG (fun _ => false) tt_ok (by kernel_rfl) (fun k => if k = 2 ∨ k = 6 then some .L else if k = 9 then some .W else some .S) (.ones [0, 1, 2, 3, 4, 5, 6, 7, 8, 9] .done) (Nat.zero_le _) (fun _ h => nomatch h) rfl rfl (by kernel_rfl) ?_
  simp only [go_sem, s1, s2, l1, l2, List.length_map, show sized 1 [] = true from rfl, show sized 3 [] = true from rfl]

theorem beq_self_dec {α : Type} [DecidableEq α] (l : α) : decide (l = l) = true := by simp

theorem c20 (t : Town) (h1 : t.first.length ≤ 1000) (h2 : t.ch.length ≤ 1000) : PC prog 20 [.d t.d, .d t.d] (.d (.bool true)) := by
  refine PC.run (fun _ => false) tt_ok (fn := f20) (rs := [.tmp 4]) rfl rfl rfl rfl rfl rfl rfl ?_
  simp only [go_sem, Town.d]
  refine (c31 t.first t.first (by omega) (by omega)).call rfl rfl rfl ?_
  simp only [go_sem, beq_self_dec, List.length_map]
  refine ALoop.by (S := Nat) (fun i => [(5, .d (.int .i64 i)), (3, .ptr 1 0), (2, .ptr 0 0)]) (fun _ => [townB t, townB t]) (fun i => t.ch.length - i) (fun i => i ≤ t.ch.length) 0 (Nat.zero_le _) (fun _ h => nomatch h) (Nat.zero_le _) (ForgetTo.same' (Nat.zero_le _) ⟨rfl, rfl, rfl, trivial⟩ rfl) ?_
  rintro i hi hn
  refine AWP.run (fun _ => false) tt_ok (fun _ h => nomatch h) (Nat.zero_le _) rfl ?_
  simp only [go_sem, townB, List.length_map]
  refine Br_split (fun hd => ?_) (fun hd => ?_) <;> simp only [go_sem, hd]
  have hlt : i < t.ch.length := by simpa using hd
  have hix : idx? (t.ch.map Chg.d) (i : Int) = some t.ch[i].d := by simp [idx?, List.getElem?_eq_getElem hlt]
  have hcd : t.ch[i].d = .agg [.int .i64 t.ch[i].at', .int .i64 t.ch[i].st, .str t.ch[i].name] := rfl
  have hnx : IntKind.i64.wrap ((i : Int) + 1) = ((i + 1 : Nat) : Int) := by rw [w64 (by omega) (by omega)]; omega
  rw [hcd] at hix
  generalize t.ch[i].at' = x1 at *
  generalize t.ch[i].st = x2 at *
  generalize t.ch[i].name = x3 at *
  refine ADrw.treeG (fun _ => false) tt_ok (by kernel_rfl) (fun k => if k = 1 ∨ k = 6 then some .L else some .S) (.ones [0, 1, 2, 3, 4, 5, 6, 7, 8, 9, 10] .done) (Nat.zero_le _) (fun _ h => nomatch h) rfl rfl (by kernel_rfl) ?_
  simp only [go_sem, hix, beq_self_dec, beq_ba, hnx]
  exact ⟨i + 1, hlt, by omega, ForgetTo.same' (Nat.zero_le _) ⟨rfl, rfl, rfl, trivial⟩ rfl⟩

theorem callP_succ (l : List Chg) (z : ByteArray) (s : Nat) (hour : Int) {i : Nat} (hi : i < l.length) : callP (l.take (i + 1)) z s hour = if l[i].st = (s : Int) ∧ l[i].at' ≤ hour ∧ (callP (l.take i) z s hour).2 ≤ l[i].at' then (l[i].name, l[i].at') else callP (l.take i) z s hour := by
  rw [List.take_succ_eq_append_getElem hi, callP, List.foldl_append]; rfl

theorem c27 (t : Town) (h2 : t.ch.length ≤ 1000) {s : Nat} (hs : s < t.first.length) (hour : Int) : PC prog 27 [.d t.d, .d (.int .i64 s), .d (.int .i64 hour)] (.d (.str (calledT t s hour))) := by
  refine PC.run (fun _ => false) tt_ok (fn := f27) (rs := [.tmp 6]) rfl rfl rfl rfl rfl rfl rfl ?_
  have hix : idx? (t.first.map D.str) (s : Int) = some (.str (t.first.getD s default)) := by rw [getDG hs]; simp [idx?, List.getElem?_eq_getElem hs]
  simp only [go_sem, Town.d, hix]
  rw [calledT]
  generalize t.first.getD s default = z at *
  refine ALoop.by (S := Nat) (fun i => [(9, .d (.int .i64 i)), (8, .d (.int .i64 (callP (t.ch.take i) z s hour).2)), (7, .d (.str (callP (t.ch.take i) z s hour).1)), (3, .ptr 0 0), (2, .d (.int .i64 hour)), (1, .d (.int .i64 s))]) (fun _ => [townB t]) (fun i => t.ch.length - i) (fun i => i ≤ t.ch.length) 0 (Nat.zero_le _) (fun _ h => nomatch h) (Nat.zero_le _) (ForgetTo.same' (Nat.zero_le _) ⟨rfl, rfl, rfl, rfl, rfl, rfl, trivial⟩ rfl) ?_
  rintro i hi hn
  refine AWP.run (fun _ => false) tt_ok (fun _ h => nomatch h) (Nat.zero_le _) rfl ?_
  simp only [go_sem, townB, List.length_map]
  refine Br_split (fun hd => ?_) (fun hd => ?_) <;> simp only [go_sem, hd]
  · have hlt : i < t.ch.length := by simpa using hd
    have hix : idx? (t.ch.map Chg.d) (i : Int) = some t.ch[i].d := by simp [idx?, List.getElem?_eq_getElem hlt]
    have hcd : t.ch[i].d = .agg [.int .i64 t.ch[i].at', .int .i64 t.ch[i].st, .str t.ch[i].name] := rfl
    have hnx : IntKind.i64.wrap ((i : Int) + 1) = ((i + 1 : Nat) : Int) := by rw [w64 (by omega) (by omega)]; omega
    have hsu := callP_succ t.ch z s hour hlt
    rw [hcd] at hix
    have fin : ∀ (p : ByteArray × Int) (E : Env), p = callP (t.ch.take (i + 1)) z s hour → EWp 1 [townB t, .cells [.d (.int .i64 t.ch[i].at'), .d (.int .i64 t.ch[i].st), .d (.str t.ch[i].name)]] E [(9, .d (.int .i64 ((i + 1 : Nat) : Int))), (8, .d (.int .i64 p.2)), (7, .d (.str p.1)), (3, .ptr 0 0), (2, .d (.int .i64 hour)), (1, .d (.int .i64 s))] →
        ∃ s', s' ≤ t.ch.length ∧ t.ch.length - s' < t.ch.length - i ∧ ForgetTo 0 E [townB t, .cells [.d (.int .i64 t.ch[i].at'), .d (.int .i64 t.ch[i].st), .d (.str t.ch[i].name)]] [(9, .d (.int .i64 s')), (8, .d (.int .i64 (callP (t.ch.take s') z s hour).2)), (7, .d (.str (callP (t.ch.take s') z s hour).1)), (3, .ptr 0 0), (2, .d (.int .i64 hour)), (1, .d (.int .i64 s))] [townB t] := fun p E hp hE => by
      subst hp
      exact ⟨i + 1, hlt, by omega, ForgetTo.drop (H0 := [_]) (Y := [_]) (Nat.zero_le _) rfl (by simp [BBs, BB, VBs, VB, townB]) hE⟩
    rw [hsu] at fin
    simp only [townB] at fin
    generalize callP (t.ch.take i) z s hour = p at *
    generalize t.ch[i].at' = x1 at *
    generalize t.ch[i].st = x2 at *
    generalize t.ch[i].name = x3 at *
    simp only [go_sem, hix]
    by_cases h1 : x2 = (s : Int)
    · simp only [go_sem, decide_eq_true h1]
      by_cases h3 : x1 ≤ hour
      · simp only [go_sem, decide_eq_true h3]
        by_cases h4 : p.2 ≤ x1
        · rw [if_pos ⟨h1, h3, h4⟩] at fin
          simp only [go_sem, decide_eq_true h4]
          refine ADrw.treeG (fun _ => false) tt_ok (by kernel_rfl) (fun k => if k = 1 ∨ k = 3 then some .L else some .S) (.ones [0, 1, 2, 3, 4, 5] .done) (Nat.zero_le _) (fun _ h => nomatch h) rfl rfl (by kernel_rfl) ?_
          simp only [go_sem, hnx]
          exact fin (x3, x1) _ rfl (by simp [EWp, Env.look, pubV])
        · rw [if_neg (fun h => h4 h.2.2)] at fin
          simp only [go_sem, decide_eq_false h4, hnx]
          exact fin p _ rfl (by simp [EWp, Env.look, pubV])
      · rw [if_neg (fun h => h3 h.2.1)] at fin
        simp only [go_sem, decide_eq_false h3, hnx]
        exact fin p _ rfl (by simp [EWp, Env.look, pubV])
    · rw [if_neg (fun h => h1 h.1)] at fin
      simp only [go_sem, decide_eq_false h1, hnx]
      exact fin p _ rfl (by simp [EWp, Env.look, pubV])
  · have hie : i = t.ch.length := by simp only [decide_eq_false_iff_not] at hd; omega
    subst hie
    rw [List.take_length]
end Go.Aw
end

section
set_option maxRecDepth 100000
namespace Go.Aw
open Go Go.Proofs.Tryz

/-- How many changes of a street there are in an hour, among the first ones. -/
def cntC (t : Town) (h : Int) (s i : Nat) : Nat := ((t.ch.take i).filter fun c => decide (c.at' = h ∧ c.st = (s : Int))).length
theorem cntC_succ (t : Town) (h : Int) (s : Nat) {i : Nat} (hi : i < t.ch.length) : cntC t h s (i + 1) = cntC t h s i + if t.ch[i].at' = h ∧ t.ch[i].st = (s : Int) then 1 else 0 := by
  rw [cntC, cntC, List.take_succ_eq_append_getElem hi, List.filter_append, List.length_append]
  congr 1
  rw [List.filter_cons, List.filter_nil]
  split <;> simp_all
theorem cntC_le (t : Town) (h : Int) (s i : Nat) : cntC t h s i ≤ i := by
  have := List.length_filter_le (fun c : Chg => decide (c.at' = h ∧ c.st = (s : Int))) (t.ch.take i)
  have h2 := List.length_take_le i t.ch
  rw [cntC]; omega

/-- Is a street called as another one of the first ones? -/
def likeC (t : Town) (h : Int) (s o : Nat) : Bool := (List.range o).any fun o => !decide (o = s) && decide (calledT t o h = calledT t s h)
theorem likeC_succ (t : Town) (h : Int) (s o : Nat) : likeC t h s (o + 1) = (likeC t h s o || (!decide (o = s) && decide (calledT t o h = calledT t s h))) := by
  rw [likeC, List.range_succ, List.any_append]; simp [likeC]

theorem count_two {α : Type} [DecidableEq α] [Inhabited α] : ∀ (l : List α) (s : Nat), s < l.length → (1 < cntL (l.getD s default) l ↔ ∃ o, o < l.length ∧ o ≠ s ∧ l.getD o default = l.getD s default)
  | [], s, h => by simp at h
  | a :: l, 0, _ => by
    have e : cntL ((a :: l).getD 0 default) (a :: l) = cntL a l + 1 := by simp [cntL]
    rw [e]
    constructor
    · intro h
      have hm : a ∈ l := List.count_pos_iff.1 (by rw [cntL] at h; omega)
      obtain ⟨i, hi, he⟩ := List.getElem_of_mem hm
      exact ⟨i + 1, by simpa using hi, by omega, by simp [List.getElem?_eq_getElem hi, he]⟩
    · rintro ⟨o, h1, h2, h3⟩
      obtain ⟨i, rfl⟩ : ∃ i, o = i + 1 := ⟨o - 1, by omega⟩
      have hi : i < l.length := by simpa using h1
      have hm : a ∈ l := by
        simp [List.getElem?_eq_getElem hi] at h3
        rw [← h3]; exact List.getElem_mem _
      have : 0 < cntL a l := List.count_pos_iff.2 hm
      omega
  | a :: l, s + 1, h => by
    have hs : s < l.length := by simpa using h
    have ih := count_two l s hs
    have e0 : (a :: l).getD (s + 1) default = l.getD s default := by simp
    rw [e0]
    have e : cntL (l.getD s default) (a :: l) = cntL (l.getD s default) l + if a = l.getD s default then 1 else 0 := by
      rw [cntL, cntL, List.count_cons]
      simp
    have hp : 0 < cntL (l.getD s default) l := List.count_pos_iff.2 (by rw [getDG hs]; exact List.getElem_mem _)
    rw [e]
    by_cases ha : a = l.getD s default
    · rw [if_pos ha]
      exact ⟨fun _ => ⟨0, by simp, by omega, by simpa using ha⟩, fun _ => by omega⟩
    · rw [if_neg ha, Nat.add_zero, ih]
      constructor
      · rintro ⟨o, h1, h2, h3⟩
        exact ⟨o + 1, by simpa using h1, by omega, by simpa using h3⟩
      · rintro ⟨o, h1, h2, h3⟩
        cases o with
        | zero => exact absurd (by simpa using h3) ha
        | succ o => exact ⟨o, by simpa using h1, by omega, by simpa using h3⟩

theorem like_iff (t : Town) (h : Int) {s : Nat} (hs : s < t.first.length) : likeC t h s t.first.length = decide (1 < cntL (calledT t s h) (namesT t h)) := by
  have := count_two (namesT t h) s (by rw [namesT_len]; exact hs)
  rw [namesT_get hs, namesT_len] at this
  rw [Bool.eq_iff_iff, decide_eq_true_eq, this, likeC, List.any_eq_true]
  constructor
  · rintro ⟨o, h1, h2⟩
    simp only [Bool.and_eq_true, Bool.not_eq_true', decide_eq_false_iff_not, decide_eq_true_eq, List.mem_range] at h1 h2
    exact ⟨o, h1, h2.1, by rw [namesT_get h1]; exact h2.2⟩
  · rintro ⟨o, h1, h2, h3⟩
    rw [namesT_get h1] at h3
    exact ⟨o, List.mem_range.2 h1, by simp [h2, h3]⟩

def twC (t : Town) (h : Int) (k : Nat) : List Int := natI ((List.range k).filter fun s => decide (1 < cntC t h s t.ch.length))
def alC (t : Town) (h : Int) (k : Nat) : List Int := natI ((List.range k).filter fun s => likeC t h s t.first.length)
theorem twC_succ (t : Town) (h : Int) (k : Nat) : twC t h (k + 1) = twC t h k ++ if 1 < cntC t h k t.ch.length then [(k : Int)] else [] := by
  rw [twC, twC, natI, natI, List.range_succ, List.filter_append, List.map_append]
  congr 1
  rw [List.filter_cons, List.filter_nil]
  split <;> simp_all
theorem alC_succ (t : Town) (h : Int) (k : Nat) : alC t h (k + 1) = alC t h k ++ if likeC t h k t.first.length = true then [(k : Int)] else [] := by
  rw [alC, alC, natI, natI, List.range_succ, List.filter_append, List.map_append]
  congr 1
  rw [List.filter_cons, List.filter_nil]
  split <;> simp_all
theorem twC_len (t : Town) (h : Int) (k : Nat) : (twC t h k).length ≤ k := by
  have := List.length_filter_le (fun s => decide (1 < cntC t h s t.ch.length)) (List.range k)
  rw [twC, natI, List.length_map]; simpa using this
theorem alC_len (t : Town) (h : Int) (k : Nat) : (alC t h k).length ≤ k := by
  have := List.length_filter_le (fun s => likeC t h s t.first.length) (List.range k)
  rw [alC, natI, List.length_map]; simpa using this

theorem clash_C (t : Town) (h : Int) : natI (clashT t h) = if twC t h t.first.length = [] then alC t h t.first.length else twC t h t.first.length := by
  have e1 : twC t h t.first.length = natI (twiceT t h) := by
    rw [twC, twiceT]
    congr 1
    refine List.filter_congr fun s _ => ?_
    rw [cntC, List.take_length]
  have e2 : alC t h t.first.length = natI (alikeT t h) := by
    rw [alC, alikeT]
    congr 1
    refine List.filter_congr fun s hs => ?_
    exact like_iff t h (by simpa using hs)
  rw [e1, e2, clashT]
  by_cases h0 : twiceT t h = []
  · rw [if_neg (by rw [h0]; simp), if_pos (by rw [h0]; rfl)]
  · rw [if_pos h0, if_neg (show ¬ natI (twiceT t h) = [] from fun e => h0 (List.map_eq_nil_iff.1 e))]

theorem c75 (t : Town) (h1 : t.first.length ≤ 1000) (h2 : t.ch.length ≤ 1000) (hour : Int) : PC prog 75 [.d t.d, .d (.int .i64 hour)] (.d (.sl ((natI (clashT t hour)).map (.int .i64)))) := by
  refine PC.run (fun k => k == 12 || k == 13) tt_ok (fn := f75) (rs := [.tmp 4]) rfl rfl rfl rfl rfl rfl rfl ?_
  simp only [go_sem, Town.d]
  refine ALoop.by (S := Nat) (fun s => [(7, .d (.int .i64 s)), (6, .ref 2 (alC t hour s).length 0 (alC t hour s).length), (5, .ref 1 (twC t hour s).length 0 (twC t hour s).length), (2, .ptr 0 0), (1, .d (.int .i64 hour))])
    (fun s => [townB t, .arr 1 false ((twC t hour s).map (.int .i64)), .arr 1 false ((alC t hour s).map (.int .i64))]) (fun s => t.first.length - s) (fun s => s ≤ t.first.length) 0 (Nat.zero_le _) (fun _ h => nomatch h) (Nat.zero_le _) (ForgetTo.same' (Nat.zero_le _) ⟨rfl, rfl, rfl, rfl, rfl, trivial⟩ rfl) ?_
  rintro s hs hn
  refine AWP.run (fun _ => false) tt_ok (fun _ h => nomatch h) (Nat.zero_le _) rfl ?_
  simp only [go_sem, townB, List.length_map]
  refine Br_split (fun hd => ?_) (fun hd => ?_) <;> simp only [go_sem, hd]
  · have hlt : s < t.first.length := by simpa using hd
    have hnx : IntKind.i64.wrap ((s : Int) + 1) = ((s + 1 : Nat) : Int) := by rw [w64 (by omega) (by omega)]; omega
    have hu1 := twC_succ t hour s
    have hu2 := alC_succ t hour s
    have hl1 := twC_len t hour s
    have hl2 := alC_len t hour s
    have fin : ∀ (A B : List Int) (E : Env), A = twC t hour (s + 1) → B = alC t hour (s + 1) → EWe E [(7, .d (.int .i64 ((s + 1 : Nat) : Int))), (6, .ref 2 B.length 0 B.length), (5, .ref 1 A.length 0 A.length), (2, .ptr 0 0), (1, .d (.int .i64 hour))] →
        ∃ s', s' ≤ t.first.length ∧ t.first.length - s' < t.first.length - s ∧ ForgetTo 0 E [townB t, .arr 1 false (A.map (.int .i64)), .arr 1 false (B.map (.int .i64))] [(7, .d (.int .i64 s')), (6, .ref 2 (alC t hour s').length 0 (alC t hour s').length), (5, .ref 1 (twC t hour s').length 0 (twC t hour s').length), (2, .ptr 0 0), (1, .d (.int .i64 hour))]
          [townB t, .arr 1 false ((twC t hour s').map (.int .i64)), .arr 1 false ((alC t hour s').map (.int .i64))] := fun A B E hA hB hE => by
      subst hA hB
      exact ⟨s + 1, hlt, by omega, ForgetTo.same' (Nat.zero_le _) hE rfl⟩
    rw [hu1, hu2] at fin
    clear hu1 hu2
    simp only [townB] at fin
    generalize twC t hour s = A at *
    generalize alC t hour s = B at *
    refine ALoop.by (S := Nat) (fun i => [(10, .d (.int .i64 i)), (9, .d (.bool false)), (8, .d (.int .i64 (cntC t hour s i))), (7, .d (.int .i64 s)), (6, .ref 2 B.length 0 B.length), (5, .ref 1 A.length 0 A.length), (2, .ptr 0 0), (1, .d (.int .i64 hour))])
      (fun _ => [townB t, .arr 1 false (A.map (.int .i64)), .arr 1 false (B.map (.int .i64))]) (fun i => t.ch.length - i) (fun i => i ≤ t.ch.length) 0 (Nat.zero_le _) (fun _ h => nomatch h) (Nat.zero_le _) (ForgetTo.same' (Nat.zero_le _) ⟨rfl, rfl, rfl, rfl, rfl, rfl, rfl, rfl, trivial⟩ rfl) ?_
    rintro i hi hn2
    refine AWP.run (fun _ => false) tt_ok (fun _ h => nomatch h) (Nat.zero_le _) rfl ?_
    simp only [go_sem, townB, List.length_map]
    refine Br_split (fun hd => ?_) (fun hd => ?_) <;> simp only [go_sem, hd]
    · have hit : i < t.ch.length := by simpa using hd
      have hix : idx? (t.ch.map Chg.d) (i : Int) = some t.ch[i].d := by simp [idx?, List.getElem?_eq_getElem hit]
      have hcd : t.ch[i].d = .agg [.int .i64 t.ch[i].at', .int .i64 t.ch[i].st, .str t.ch[i].name] := rfl
      have hni : IntKind.i64.wrap ((i : Int) + 1) = ((i + 1 : Nat) : Int) := by rw [w64 (by omega) (by omega)]; omega
      have hcs := cntC_succ t hour s hit
      have hcl := cntC_le t hour s i
      have hnc : IntKind.i64.wrap ((cntC t hour s i : Int) + 1) = ((cntC t hour s i + 1 : Nat) : Int) := by rw [w64 (by omega) (by omega)]; omega
      rw [hcd] at hix
      generalize t.ch[i].at' = x1 at *
      generalize t.ch[i].st = x2 at *
      generalize t.ch[i].name = x3 at *
      simp only [go_sem, hix]
      by_cases g1 : x1 = hour
      · simp only [go_sem, decide_eq_true g1, hix]
        by_cases g2 : x2 = (s : Int)
        · rw [if_pos ⟨g1, g2⟩] at hcs
          simp only [go_sem, decide_eq_true g2, hni, hnc]
          exact ⟨i + 1, hit, by omega, ForgetTo.same' (Nat.zero_le _) (by simp [EWe, Env.look, hcs]) rfl⟩
        · rw [if_neg (fun h => g2 h.2)] at hcs
          simp only [go_sem, decide_eq_false g2, hni]
          exact ⟨i + 1, hit, by omega, ForgetTo.same' (Nat.zero_le _) (by simp [EWe, Env.look, hcs]) rfl⟩
      · rw [if_neg (fun h => g1 h.1)] at hcs
        simp only [go_sem, decide_eq_false g1, hni]
        exact ⟨i + 1, hit, by omega, ForgetTo.same' (Nat.zero_le _) (by simp [EWe, Env.look, hcs]) rfl⟩
    · have hie : i = t.ch.length := by simp only [decide_eq_false_iff_not] at hd; omega
      subst hie
      have hcle := cntC_le t hour s t.ch.length
      generalize hC : cntC t hour s t.ch.length = C at *
      refine ALoop.by (S := Nat) (fun o => [(11, .d (.int .i64 o)), (9, .d (.bool (likeC t hour s o))), (8, .d (.int .i64 C)), (7, .d (.int .i64 s)), (6, .ref 2 B.length 0 B.length), (5, .ref 1 A.length 0 A.length), (2, .ptr 0 0), (1, .d (.int .i64 hour))])
        (fun _ => [townB t, .arr 1 false (A.map (.int .i64)), .arr 1 false (B.map (.int .i64))]) (fun o => t.first.length - o) (fun o => o ≤ t.first.length) 0 (Nat.zero_le _) (fun _ h => nomatch h) (Nat.zero_le _) (ForgetTo.same' (Nat.zero_le _) ⟨rfl, rfl, rfl, rfl, rfl, rfl, rfl, rfl, trivial⟩ rfl) ?_
      rintro o ho hn3
      refine AWP.run (fun _ => false) tt_ok (fun _ h => nomatch h) (Nat.zero_le _) rfl ?_
      simp only [go_sem, townB, List.length_map]
      refine Br_split (fun hd => ?_) (fun hd => ?_) <;> simp only [go_sem, hd]
      · have hot : o < t.first.length := by simpa using hd
        have hno : IntKind.i64.wrap ((o : Int) + 1) = ((o + 1 : Nat) : Int) := by rw [w64 (by omega) (by omega)]; omega
        have hls := likeC_succ t hour s o
        have c27a := c27 t h2 hot hour
        have c27b := c27 t h2 hlt hour
        simp only [Town.d] at c27a c27b
        generalize calledT t o hour = co at *
        generalize calledT t s hour = cs at *
        refine ADrw.treeG (fun _ => false) tt_ok (by kernel_rfl) (fun k => if k = 6 ∨ k = 10 then some .L else some .S) (.ones [0, 1, 2, 3, 4, 5, 6, 7, 8, 9, 10, 11, 12, 13, 14, 15, 16, 17] .done) (Nat.zero_le _) (fun _ h => nomatch h) rfl rfl (by kernel_rfl) ?_
        cases hlk : likeC t hour s o with
        | true =>
          rw [hlk, Bool.true_or] at hls
          simp only [go_sem, hno]
          exact ⟨o + 1, hot, by omega, ForgetTo.same' (Nat.zero_le _) (by simp [EWe, Env.look, hls]) rfl⟩
        | false =>
          rw [hlk, Bool.false_or] at hls
          by_cases hos : o = s
          · rw [decide_eq_true hos, Bool.not_true, Bool.false_and] at hls
            have d1 : decide ((o : Int) = (s : Int)) = true := decide_eq_true (by omega)
            simp only [go_sem, d1, hno]
            exact ⟨o + 1, hot, by omega, ForgetTo.same' (Nat.zero_le _) (by simp [EWe, Env.look, hls]) rfl⟩
          · rw [decide_eq_false hos, Bool.not_false, Bool.true_and] at hls
            have d1 : decide ((o : Int) = (s : Int)) = false := decide_eq_false (by omega)
            simp only [go_sem, d1]
            refine c27a.callS rfl rfl rfl rfl rfl rfl ?_
            simp only [go_sem]
            refine c27b.callS rfl rfl rfl rfl rfl rfl ?_
            simp only [go_sem, beq_str, hno]
            exact ⟨o + 1, hot, by omega, ForgetTo.same' (Nat.zero_le _) (by simp [EWe, Env.look, hls]) rfl⟩
      · have hoe : o = t.first.length := by simp only [decide_eq_false_iff_not] at hd; omega
        subst hoe
        have lA : (A.map (D.int .i64)).length = A.length := by simp
        have lB : (B.map (D.int .i64)).length = B.length := by simp
        have dA : decide (A.length ≤ 4294967295) = true := decide_eq_true (by omega)
        have dB : decide (B.length ≤ 4294967295) = true := decide_eq_true (by omega)
        have mA : (A ++ [(s : Int)]).map (D.int .i64) = A.map (.int .i64) ++ [.int .i64 s] := by simp
        have mB : (B ++ [(s : Int)]).map (D.int .i64) = B.map (.int .i64) ++ [.int .i64 s] := by simp
        generalize likeC t hour s t.first.length = K at *
        by_cases g1 : 1 < C
        · have d1 : decide ((1 : Int) < (C : Int)) = true := decide_eq_true (by omega)
          rw [if_pos g1] at fin
          cases K with
          | true =>
            rw [if_pos rfl] at fin
            have fin := fun E => fin (A ++ [(s : Int)]) (B ++ [(s : Int)]) E rfl rfl
            rw [mA, mB] at fin
            simp only [go_sem, d1, lA, lB, dA, dB, hnx]
            exact fin _ (by simp [EWe, Env.look])
          | false =>
            rw [if_neg (by simp), List.append_nil] at fin
            have fin := fun E => fin (A ++ [(s : Int)]) B E rfl rfl
            rw [mA] at fin
            simp only [go_sem, d1, lA, lB, dA, dB, hnx]
            exact fin _ (by simp [EWe, Env.look])
        · have d1 : decide ((1 : Int) < (C : Int)) = false := decide_eq_false (by omega)
          rw [if_neg g1, List.append_nil] at fin
          cases K with
          | true =>
            rw [if_pos rfl] at fin
            have fin := fun E => fin A (B ++ [(s : Int)]) E rfl rfl
            rw [mB] at fin
            simp only [go_sem, d1, lA, lB, dA, dB, hnx]
            exact fin _ (by simp [EWe, Env.look])
          | false =>
            rw [if_neg (by simp), List.append_nil] at fin
            have fin := fun E => fin A B E rfl rfl
            simp only [go_sem, d1, hnx]
            exact fin _ (by simp [EWe, Env.look])
  · have hie : s = t.first.length := by simp only [decide_eq_false_iff_not] at hd; omega
    subst hie
    rw [clash_C]
    have t1 : ((twC t hour t.first.length).map (D.int .i64)).take (twC t hour t.first.length).length = (twC t hour t.first.length).map (.int .i64) := List.take_of_length_le (by simp)
    have t2 : ((alC t hour t.first.length).map (D.int .i64)).take (alC t hour t.first.length).length = (alC t hour t.first.length).map (.int .i64) := List.take_of_length_le (by simp)
    by_cases h0 : twC t hour t.first.length = []
    · rw [if_pos h0]
      have d1 : decide ((0 : Int) < ((twC t hour t.first.length).length : Int)) = false := decide_eq_false (by rw [h0]; simp)
      simp only [go_sem, List.length_map, d1, t2]
    · rw [if_neg h0]
      have d1 : decide ((0 : Int) < ((twC t hour t.first.length).length : Int)) = true := decide_eq_true (by have := List.length_pos_iff.2 h0; omega)
      simp only [go_sem, List.length_map, d1, t1]
end Go.Aw
end

section
set_option maxRecDepth 100000
namespace Go.Aw
open Go Go.Proofs.Tryz

def firstV (t : Town) : List V :=
  if (nbT t).2.2 = [] then [.d (.int .i64 1001), .slx (some true) []] else [.d (.int .i64 (nbT t).2.1), .d (.sl ((nbT t).2.2.map (.int .i64)))]

theorem c21 (t : Town) (ht : t.Ok) : PC prog 21 [.d t.d] (.tup (firstV t)) := by
  have hl1 := ht.len.2
  have hl2 := ht.chl
  refine PC.run (fun _ => false) tt_ok (fn := f21) (rs := [.tmp 2, .tmp 3]) rfl rfl rfl rfl rfl rfl rfl ?_
  simp only [go_sem, Town.d]
  refine ALoop.by (S := Nat) (fun h => [(4, .d (.int .i64 h)), (1, .ptr 0 0)]) (fun _ => [townB t]) (fun h => 1001 - h) (fun h => (1 ≤ h ∧ h ≤ 1001) ∧ ∀ k : Int, 1 ≤ k → k < h → clashT t k = []) 1 (Nat.zero_le _) (fun _ h => nomatch h) ⟨by omega, fun k h1 h2 => by omega⟩ (ForgetTo.same' (Nat.zero_le _) ⟨rfl, rfl, trivial⟩ rfl) ?_
  rintro h ⟨⟨h1, h2⟩, hcl⟩ hn
  refine AWP.run (fun _ => false) tt_ok (fun _ h => nomatch h) (Nat.zero_le _) rfl ?_
  simp only [go_sem, townB]
  refine Br_split (fun hd => ?_) (fun hd => ?_) <;> simp only [go_sem, hd]
  · have hle : h ≤ 1000 := by simp only [decide_eq_true_eq] at hd; omega
    have hnx : IntKind.i64.wrap ((h : Int) + 1) = ((h + 1 : Nat) : Int) := by rw [w64 (by omega) (by omega)]; omega
    refine (c75 t (by omega) (by omega) h).call rfl rfl rfl ?_
    simp only [go_sem, List.length_map]
    refine Br_split (fun he => ?_) (fun he => ?_) <;> simp only [go_sem, he]
    · have hne : clashT t h ≠ [] := fun e => by rw [e] at he; simp [natI] at he
      have hv : firstV t = [.d (.int .i64 h), .d (.sl ((natI (clashT t h)).map (.int .i64)))] := by
        rcases nbT_spec ht with ⟨k, hk, e, hne2, hb⟩ | ⟨_, h3, _⟩
        · have hkh : k = h := by
            rcases Int.lt_trichotomy k h with hh | hh | hh
            · exact absurd (hcl k hk.1 hh) hne2
            · exact hh
            · exact absurd (hb h (by omega) hh) hne
          subst hkh
          rw [firstV, e, if_neg (show ¬ natI (clashT t h) = [] from fun e => hne (List.map_eq_nil_iff.1 e))]
        · exact absurd (h3 h (by omega)) hne
      rw [hv]
    · have hne : clashT t h = [] := by
        cases hc : clashT t h with
        | nil => rfl
        | cons a b => rw [hc] at he; simp [natI] at he
      simp only [go_sem, hnx]
      refine ⟨h + 1, ⟨⟨by omega, by omega⟩, fun k k1 k2 => ?_⟩, by omega, ForgetTo.same' (Nat.zero_le _) ⟨rfl, rfl, trivial⟩ rfl⟩
      rcases Int.lt_or_le k h with hh | hh
      · exact hcl k k1 hh
      · rw [show k = h by omega]; exact hne
  · have hh : h = 1001 := by simp only [decide_eq_false_iff_not] at hd; omega
    have hv : firstV t = [.d (.int .i64 1001), .slx (some true) []] := by
      rcases nbT_spec ht with ⟨k, hk, e, hne2, hb⟩ | ⟨e, _, _⟩
      · exact absurd (hcl k hk.1 (by omega)) hne2
      · rw [firstV, e]; rfl
    rw [hv]

theorem chk4 {t : Town} (h : ¬ (1 ≤ t.first.length ∧ t.first.length ≤ 6) ∨ (∃ i, i < t.first.length ∧ nm (t.first.getD i default) = false) ∨ ∃ k i, k < i ∧ i < t.first.length ∧ t.first.getD k default = t.first.getD i default) : checkT t = 4 := by
  rw [checkT]
  by_cases h1 : (!(decide (1 ≤ t.first.length) && decide (t.first.length ≤ 6)) || t.first.any fun s => !nm s) = true
  · rw [if_pos h1]
  · rw [if_neg h1, if_pos]
    simp only [Bool.not_eq_true, Bool.or_eq_false_iff, Bool.not_eq_false', Bool.and_eq_true, decide_eq_true_eq, List.any_eq_false, Bool.not_eq_true', Bool.not_eq_false] at h1
    rcases h with h | ⟨i, hi, h⟩ | ⟨k, i, hk, hi, h⟩
    · exact absurd h1.1 h
    · rw [getDG hi] at h
      exact absurd (h1.2 _ (List.getElem_mem hi)) (by simp [h])
    · intro e
      have : i ∈ twinsP t.first := List.mem_filter.2 ⟨List.mem_range.2 hi, decide_eq_true ((count_two t.first i hi).2 ⟨k, by omega, by omega, h⟩)⟩
      rw [e] at this; cases this

theorem chkR {t : Town} (h0 : 1 ≤ t.first.length ∧ t.first.length ≤ 6) (h1 : ∀ i, i < t.first.length → nm (t.first.getD i default) = true) (h2 : ∀ i k, k < i → i < t.first.length → t.first.getD k default ≠ t.first.getD i default) :
    checkT t = if t.ch.length > 8 then 5 else if t.ch.any (fun c => !chgOk t.first.length c) then 2 else 0 := by
  rw [checkT, if_neg, if_neg]
  · rw [ne_eq, Classical.not_not, twinsP, List.filter_eq_nil_iff]
    intro i hi
    rw [decide_eq_true_eq, count_two t.first i (List.mem_range.1 hi)]
    rintro ⟨o, ho, hne, e⟩
    rcases Nat.lt_or_gt_of_ne hne with h | h
    · exact h2 i o h (List.mem_range.1 hi) e
    · exact h2 o i h ho e.symm
  · simp only [Bool.not_eq_true, Bool.or_eq_false_iff, Bool.not_eq_false', Bool.and_eq_true, decide_eq_true_eq, List.any_eq_false, Bool.not_eq_true', Bool.not_eq_false]
    refine ⟨h0, fun s hs => ?_⟩
    obtain ⟨i, hi, e⟩ := List.getElem_of_mem hs
    have := h1 i hi
    rwa [getDG hi, e] at this

theorem c19 (t : Town) (h1 : t.first.length ≤ 1000) (h2 : t.ch.length ≤ 1000) (hfn : ∀ s ∈ t.first, s.size ≤ 1000) (hcn : ∀ c ∈ t.ch, c.name.size ≤ 1000) : PC prog 19 [.d t.d] (.d (.int .i64 (checkT t))) := by
  refine PC.run (fun _ => false) tt_ok (fn := f19) (rs := [.tmp 2]) rfl rfl rfl rfl rfl rfl rfl ?_
  simp only [go_sem, Town.d, List.length_map]
  refine (c26 t.first.length 1 6).call rfl rfl rfl ?_
  cases hc : decide ((1 : Int) ≤ (t.first.length : Int) ∧ (t.first.length : Int) ≤ 6) with
  | false =>
    have : checkT t = 4 := chk4 (.inl (by simp only [decide_eq_false_iff_not] at hc; omega))
    rw [this]
    simp only [go_sem]
  | true =>
    have h0 : 1 ≤ t.first.length ∧ t.first.length ≤ 6 := by simp only [decide_eq_true_eq] at hc; omega
    simp only [go_sem]
    refine ALoop.by (S := Nat) (fun i => [(4, .d (.int .i64 i)), (3, .d (.int .i64 t.first.length)), (1, .ptr 0 0)]) (fun _ => [townB t]) (fun i => t.first.length - i)
      (fun i => i ≤ t.first.length ∧ (∀ j, j < i → nm (t.first.getD j default) = true) ∧ ∀ j k, k < j → j < i → t.first.getD k default ≠ t.first.getD j default) 0 (Nat.zero_le _) (fun _ h => nomatch h) ⟨Nat.zero_le _, fun _ h => by omega, fun _ _ _ h => by omega⟩ (ForgetTo.same' (Nat.zero_le _) ⟨rfl, rfl, rfl, trivial⟩ rfl) ?_
    rintro i ⟨hi, hA, hB⟩ hn
    refine AWP.run (fun _ => false) tt_ok (fun _ h => nomatch h) (Nat.zero_le _) rfl ?_
    simp only [go_sem, townB]
    refine Br_split (fun hd => ?_) (fun hd => ?_) <;> simp only [go_sem, hd]
    · have hlt : i < t.first.length := by simpa using hd
      have hix : idx? (t.first.map D.str) (i : Int) = some (.str (t.first.getD i default)) := by rw [getDG hlt]; simp [idx?, List.getElem?_eq_getElem hlt]
      have hsz : (t.first.getD i default).size ≤ 1000 := by rw [getDG hlt]; exact hfn _ (List.getElem_mem hlt)
      have hnx : IntKind.i64.wrap ((i : Int) + 1) = ((i + 1 : Nat) : Int) := by rw [w64 (by omega) (by omega)]; omega
      have bad := fun e => chk4 (t := t) (.inr (.inl ⟨i, hlt, e⟩))
      have bad2 := fun k hk e => chk4 (t := t) (.inr (.inr ⟨k, i, hk, hlt, e⟩))
      have c28a := c28 (t.first.getD i default) hsz
      have fin : (nm (t.first.getD i default) = true) → (∀ k, k < i → t.first.getD k default ≠ t.first.getD i default) → (∀ j, j < i + 1 → nm (t.first.getD j default) = true) ∧ ∀ j k, k < j → j < i + 1 → t.first.getD k default ≠ t.first.getD j default := fun e1 e2 => by
        refine ⟨fun j hj => ?_, fun j k hk hj => ?_⟩
        · rcases Nat.lt_or_ge j i with h | h
          · exact hA j h
          · rw [show j = i by omega]; exact e1
        · rcases Nat.lt_or_ge j i with h | h
          · exact hB j k hk h
          · rw [show j = i by omega] at hk ⊢; exact e2 k hk
      generalize hz : t.first.getD i default = z at *
      simp only [go_sem, hix]
      refine c28a.call rfl rfl rfl ?_
      cases hm : nm z with
      | false =>
        rw [bad hm]
        simp only [go_sem]
      | true =>
        simp only [go_sem]
        refine ALoop.by (S := Nat) (fun k => [(5, .d (.int .i64 k)), (4, .d (.int .i64 i)), (3, .d (.int .i64 t.first.length)), (1, .ptr 0 0)]) (fun _ => [townB t]) (fun k => i - k)
          (fun k => k ≤ i ∧ ∀ o, o < k → t.first.getD o default ≠ z) 0 (Nat.zero_le _) (fun _ h => nomatch h) ⟨Nat.zero_le _, fun _ h => by omega⟩ (ForgetTo.same' (Nat.zero_le _) ⟨rfl, rfl, rfl, rfl, trivial⟩ rfl) ?_
        rintro k ⟨hk, hC⟩ hn2
        refine AWP.run (fun _ => false) tt_ok (fun _ h => nomatch h) (Nat.zero_le _) rfl ?_
        simp only [go_sem, townB]
        refine Br_split (fun he => ?_) (fun he => ?_) <;> simp only [go_sem, he]
        · have hki : k < i := by simpa using he
          have hkx : idx? (t.first.map D.str) (k : Int) = some (.str (t.first.getD k default)) := by rw [getDG (show k < t.first.length by omega)]; simp [idx?, List.getElem?_eq_getElem (show k < t.first.length by omega)]
          have hnk : IntKind.i64.wrap ((k : Int) + 1) = ((k + 1 : Nat) : Int) := by rw [w64 (by omega) (by omega)]; omega
          refine ADrw.treeG (fun _ => false) tt_ok (by kernel_rfl) (fun k => if k = 1 ∨ k = 6 then some .L else some .S) (.ones [0, 1, 2, 3, 4, 5, 6, 7, 8, 9, 10] .done) (Nat.zero_le _) (fun _ h => nomatch h) rfl rfl (by kernel_rfl) ?_
          simp only [go_sem, hix, hkx, beq_str]
          refine Br_split (fun hf => ?_) (fun hf => ?_) <;> simp only [go_sem, hf]
          · rw [bad2 k hki (by simpa using hf)]
          · simp only [go_sem, hnk]
            refine ⟨k + 1, ⟨by omega, fun o ho => ?_⟩, by omega, ForgetTo.same' (Nat.zero_le _) ⟨rfl, rfl, rfl, rfl, trivial⟩ rfl⟩
            rcases Nat.lt_or_ge o k with h | h
            · exact hC o h
            · rw [show o = k by omega]; simpa using hf
        · have hki : k = i := by simp only [decide_eq_false_iff_not] at he; omega
          simp only [go_sem, hnx]
          exact ⟨i + 1, ⟨hlt, fin hm (hki ▸ hC)⟩, by omega, ForgetTo.same' (Nat.zero_le _) ⟨rfl, rfl, rfl, trivial⟩ rfl⟩
    · have hie : i = t.first.length := by simp only [decide_eq_false_iff_not] at hd; omega
      subst hie
      rw [chkR h0 hA hB]
      simp only [go_sem, List.length_map]
      refine Br_split (fun he => ?_) (fun he => ?_) <;> simp only [go_sem, he]
      · rw [if_pos (by simp only [decide_eq_true_eq] at he; omega)]
      · rw [if_neg (by simp only [decide_eq_false_iff_not] at he; omega)]
        refine ALoop.by (S := Nat) (fun i => [(6, .d (.int .i64 i)), (3, .d (.int .i64 t.first.length)), (1, .ptr 0 0)]) (fun _ => [townB t]) (fun i => t.ch.length - i)
          (fun i => i ≤ t.ch.length ∧ (t.ch.take i).any (fun c => !chgOk t.first.length c) = false) 0 (Nat.zero_le _) (fun _ h => nomatch h) ⟨Nat.zero_le _, rfl⟩ (ForgetTo.same' (Nat.zero_le _) ⟨rfl, rfl, rfl, trivial⟩ rfl) ?_
        rintro j ⟨hj, hx⟩ hn2
        refine AWP.run (fun _ => false) tt_ok (fun _ h => nomatch h) (Nat.zero_le _) rfl ?_
        simp only [go_sem, townB, List.length_map]
        refine Br_split (fun hf => ?_) (fun hf => ?_) <;> simp only [go_sem, hf]
        · have hlt : j < t.ch.length := by simpa using hf
          have hix : idx? (t.ch.map Chg.d) (j : Int) = some t.ch[j].d := by simp [idx?, List.getElem?_eq_getElem hlt]
          have hnj : IntKind.i64.wrap ((j : Int) + 1) = ((j + 1 : Nat) : Int) := by rw [w64 (by omega) (by omega)]; omega
          have c39a := c39 t.ch[j] t.first.length (by omega) (hcn _ (List.getElem_mem hlt))
          have bad : chgOk t.first.length t.ch[j] = false → t.ch.any (fun c => !chgOk t.first.length c) = true := fun e => List.any_eq_true.2 ⟨_, List.getElem_mem hlt, by rw [e]; rfl⟩
          have fin : chgOk t.first.length t.ch[j] = true → (t.ch.take (j + 1)).any (fun c => !chgOk t.first.length c) = false := fun e => by rw [List.take_succ_eq_append_getElem hlt, List.any_append, hx]; simp [e]
          generalize t.ch[j] = c at *
          simp only [go_sem, hix]
          refine c39a.call rfl rfl rfl ?_
          cases hm : chgOk t.first.length c with
          | false =>
            rw [bad hm]
            simp only [go_sem, if_true]
          | true =>
            simp only [go_sem, hnj]
            exact ⟨j + 1, ⟨hlt, fin hm⟩, by omega, ForgetTo.same' (Nat.zero_le _) ⟨rfl, rfl, rfl, trivial⟩ rfl⟩
        · have hje : j = t.ch.length := by simp only [decide_eq_false_iff_not] at hf; omega
          subst hje
          rw [List.take_length] at hx
          rw [hx]
          simp only [go_sem, Bool.false_eq_true, if_false]

end Go.Aw
end

section
set_option maxRecDepth 100000
namespace Go.Aw
open Go Go.Proofs.Tryz

def allW (t : Town) (l : List ByteArray) (i : Nat) : List ByteArray := (l ++ t.first) ++ (t.ch.take i).map (·.name)
def longB (t : Town) (l : List ByteArray) : Bool :=
  decide (20 < t.first.length) || (decide (20 < t.ch.length) || (decide (20 < l.length) || (allW t l t.ch.length).any fun s => decide (40 < s.size)))

theorem long_fits {t : Town} {l : List ByteArray} (h : longB t l = false) : t.Small ∧ t.first.length ≤ 20 ∧ t.ch.length ≤ 20 ∧ l.length ≤ 20 ∧ (∀ s ∈ t.first, s.size ≤ 40) ∧ (∀ c ∈ t.ch, c.name.size ≤ 40) ∧ ∀ s ∈ l, s.size ≤ 40 := by
  simp only [longB, Bool.or_eq_false_iff, decide_eq_false_iff_not, Nat.not_lt, List.any_eq_false, decide_eq_true_eq, allW, List.take_length, List.mem_append, List.mem_map] at h
  obtain ⟨h1, h2, h3, h4⟩ := h
  have f1 : ∀ s ∈ t.first, s.size ≤ 40 := fun s hs => h4 s (.inl (.inr hs))
  have f2 : ∀ c ∈ t.ch, c.name.size ≤ 40 := fun c hc => h4 _ (.inr ⟨c, hc, rfl⟩)
  exact ⟨⟨by omega, by omega, fun s hs => by have := f1 s hs; omega, fun c hc => by have := f2 c hc; omega⟩, h1, h2, h3, f1, f2, fun s hs => h4 s (.inl (.inl hs))⟩

theorem allW_succ (t : Town) (l : List ByteArray) {i : Nat} (h : i < t.ch.length) : allW t l (i + 1) = allW t l i ++ [t.ch[i].name] := by
  rw [allW, List.take_succ_eq_append_getElem h, List.map_append, ← List.append_assoc]; rfl

theorem c14 (t : Town) (l : List ByteArray) : PC prog 14 [.d t.d, .d (.sl (l.map .str))] (.d (.bool (longB t l))) := by
  refine PC.run (fun k => k == 23) tt_ok (fn := f14) (rs := [.tmp 4]) rfl rfl rfl rfl rfl rfl rfl ?_
  simp only [go_sem, Town.d, List.length_map]
  have hb : ∀ n : Nat, decide ((20 : Int) < (n : Int)) = decide (20 < n) := fun n => by rw [Bool.eq_iff_iff, decide_eq_true_eq, decide_eq_true_eq]; omega
  rw [longB]
  simp only [hb]
  cases d1 : decide (20 < t.first.length) with
  | true => simp only [go_sem, hb, d1, Bool.true_or]
  | false =>
  cases d2 : decide (20 < t.ch.length) with
  | true => simp only [go_sem, hb, d1, d2, Bool.true_or, Bool.false_or, List.length_map]
  | false =>
  simp only [go_sem, hb, d1, d2, Bool.true_or, Bool.false_or, List.length_map]
  have h1 : t.first.length ≤ 20 := by simp only [decide_eq_false_iff_not] at d1; omega
  have h2 : t.ch.length ≤ 20 := by simp only [decide_eq_false_iff_not] at d2; omega
  have s1 := sized_strs t.first
  have s2 := sized_strs l
  cases d3 : decide (20 < l.length) with
  | true =>
    simp only [go_sem, hb, d1, d2, d3, Bool.true_or, Bool.false_or, List.length_map]
    try simp only [go_sem]
  | false =>
  have h3 : l.length ≤ 20 := by simp only [decide_eq_false_iff_not] at d3; omega
  have b1 : t.first.length ≤ 4294967296 := by omega
  have b2 : l.length ≤ 4294967296 := by omega
  have b3 : l.length + t.first.length ≤ 4294967296 := by omega
  have b4 : 0 + l.length + t.first.length ≤ 4294967296 := by omega
  simp only [go_sem, hb, d1, d2, d3, Bool.true_or, Bool.false_or, List.length_map, s1, s2, List.length_nil, List.map_nil, b1, b2, b3]
  try simp only [go_sem, hb, d1, d2, d3, Bool.true_or, Bool.false_or, List.length_map, s1, s2, List.length_nil, List.map_nil, b1, b2, b3]
  simp only [Bool.false_or]
  refine ALoop.by (S := Nat) (fun i => [(6, .d (.int .i64 i)), (5, .ref 1 (allW t l i).length 0 (allW t l i).length), (2, .ptr 0 0)]) (fun i => [townB t, .arr 1 false ((allW t l i).map .str)]) (fun i => t.ch.length - i) (fun i => i ≤ t.ch.length) 0 (Nat.zero_le _) (fun _ h => nomatch h) (Nat.zero_le _) ?_ ?_
  · exact ForgetTo.same' (Nat.zero_le _) (by simp [EWe, Env.look, allW]) (by simp [townB, allW])
  rintro i hi hn
  refine AWP.run (fun _ => false) tt_ok (fun _ h => nomatch h) (Nat.zero_le _) rfl ?_
  simp only [go_sem, townB, List.length_map]
  refine Br_split (fun hd => ?_) (fun hd => ?_) <;> simp only [go_sem, hd]
  · have hlt : i < t.ch.length := by simpa using hd
    have hix : idx? (t.ch.map Chg.d) (i : Int) = some t.ch[i].d := by simp [idx?, List.getElem?_eq_getElem hlt]
    have hcd : t.ch[i].d = .agg [.int .i64 t.ch[i].at', .int .i64 t.ch[i].st, .str t.ch[i].name] := rfl
    have hnx : IntKind.i64.wrap ((i : Int) + 1) = ((i + 1 : Nat) : Int) := by rw [w64 (by omega) (by omega)]; omega
    have hsu := allW_succ t l hlt
    have hln : (allW t l i).length ≤ 60 := by simp [allW]; omega
    have fin : ∀ (A : List ByteArray) (E : Env), A = allW t l (i + 1) → EWe E [(6, .d (.int .i64 ((i + 1 : Nat) : Int))), (5, .ref 1 A.length 0 A.length), (2, .ptr 0 0)] →
        ∃ s', s' ≤ t.ch.length ∧ t.ch.length - s' < t.ch.length - i ∧ ForgetTo 0 E [townB t, .arr 1 false (A.map .str)] [(6, .d (.int .i64 s')), (5, .ref 1 (allW t l s').length 0 (allW t l s').length), (2, .ptr 0 0)] [townB t, .arr 1 false ((allW t l s').map .str)] := fun A E hA hE => by
      subst hA
      exact ⟨i + 1, hlt, by omega, ForgetTo.same' (Nat.zero_le _) hE rfl⟩
    rw [hsu] at fin
    clear hsu
    simp only [townB] at fin
    rw [hcd] at hix
    generalize allW t l i = A at *
    generalize t.ch[i].at' = x1 at *
    generalize t.ch[i].st = x2 at *
    generalize t.ch[i].name = x3 at *
    have s3 : sized 1 [D.str x3] = true := rfl
    have b5 : A.length + 1 ≤ 4294967296 := by omega
    simp only [go_sem, hix, s3, List.length_map, List.length_cons, List.length_nil, b5, hnx]
    have f2 := fun E => fin (A ++ [x3]) E rfl
    simp only [List.map_append, List.map_cons, List.map_nil, List.length_append, List.length_cons, List.length_nil, Nat.zero_add] at f2
    exact f2 _ ⟨rfl, rfl, rfl, trivial⟩
  · have hie : i = t.ch.length := by simp only [decide_eq_false_iff_not] at hd; omega
    subst hie
    have hln : (allW t l t.ch.length).length ≤ 60 := by simp [allW]; omega
    generalize allW t l t.ch.length = A at *
    refine ALoop.by (S := Nat) (fun i => [(7, .d (.int .i64 i)), (5, .ref 1 A.length 0 A.length)]) (fun _ => [townB t, .arr 1 false (A.map .str)]) (fun i => A.length - i)
      (fun i => i ≤ A.length ∧ (A.take i).any (fun s => decide (40 < s.size)) = false) 0 (Nat.zero_le _) (fun _ h => nomatch h) ⟨Nat.zero_le _, rfl⟩ (ForgetTo.same' (Nat.zero_le _) ⟨rfl, rfl, trivial⟩ rfl) ?_
    rintro i ⟨hi, hx⟩ hn2
    refine AWP.run (fun _ => false) tt_ok (fun _ h => nomatch h) (Nat.zero_le _) rfl ?_
    simp only [go_sem, townB, List.length_map]
    refine Br_split (fun he => ?_) (fun he => ?_) <;> simp only [go_sem, he]
    · have hlt : i < A.length := by simpa using he
      have hix : idx? (A.map D.str) (i : Int) = some (.str A[i]) := by simp [idx?, List.getElem?_eq_getElem hlt]
      have hnx : IntKind.i64.wrap ((i : Int) + 1) = ((i + 1 : Nat) : Int) := by rw [w64 (by omega) (by omega)]; omega
      have bad : 40 < A[i].size → A.any (fun s => decide (40 < s.size)) = true := fun e => List.any_eq_true.2 ⟨_, List.getElem_mem hlt, decide_eq_true e⟩
      have fin : ¬ 40 < A[i].size → (A.take (i + 1)).any (fun s => decide (40 < s.size)) = false := fun e => by rw [List.take_succ_eq_append_getElem hlt, List.any_append, hx]; simp; omega
      generalize A[i] = x at *
      have i1 : (0 : Int) ≤ (i : Int) ∧ (i : Int) < (A.length : Int) := by omega
      have hg : (A.map D.str)[i]? = some (.str x) := by simpa [idx?] using hix
      simp only [go_sem, hix, List.length_map, hlt, i1, Int.toNat_natCast, hg]
      refine Br_split (fun hf => ?_) (fun hf => ?_) <;> simp only [go_sem, hf]
      · rw [bad (by simp only [decide_eq_true_eq] at hf; omega)]
      · simp only [go_sem, hnx]
        exact ⟨i + 1, ⟨hlt, fin (by simp only [decide_eq_false_iff_not] at hf; omega)⟩, by omega, ForgetTo.same' (Nat.zero_le _) ⟨rfl, rfl, trivial⟩ rfl⟩
    · have hie : i = A.length := by simp only [decide_eq_false_iff_not] at he; omega
      subst hie
      rw [List.take_length] at hx
      rw [hx]
end Go.Aw
end

section
set_option maxRecDepth 100000
namespace Go.Aw
open Go Go.Proofs.Tryz

theorem clashT_len (t : Town) (k : Int) : (clashT t k).length ≤ t.first.length := by
  have h1 := List.length_filter_le (fun s : Nat => decide (1 < (t.ch.filter fun c => decide (c.at' = k ∧ c.st = (s : Int))).length)) (List.range t.first.length)
  rw [clashT]
  split
  · rw [twiceT]; simpa using h1
  · rw [alikeT]; refine Nat.le_trans (List.length_filter_le _ _) ?_; simp

theorem c3 (t : Town) : PC prog 3 [.d t.d] (.d (.bool true)) := by
  refine PC.run (fun _ => false) tt_ok (fn := f3) (rs := [.tmp 2]) rfl rfl rfl rfl rfl rfl rfl ?_
  simp only [go_sem, Town.d]
  refine (c14 t []).call rfl rfl rfl ?_
  cases hlong : longB t [] with
  | true =>
    simp only [go_sem]
    refine c15.call rfl rfl rfl ?_
    simp only [go_sem]
  | false =>
    obtain ⟨hs, l1, l2, _, m1, m2, _⟩ := long_fits hlong
    have c16a := c16 t (by omega) (by omega)
    have c17a := c17 t hs
    have c18a := c18 t hs
    have c19a := c19 t (by omega) (by omega) hs.fn hs.cn
    have c20a := c20 t (by omega) (by omega)
    simp only [Town.d] at c16a c17a c18a c19a c20a
    simp only [go_sem]
    refine c16a.call rfl rfl rfl ?_
    simp only [go_sem]
    refine c17a.call rfl rfl rfl ?_
    simp only [go_sem]
    by_cases hc : checkT t = 0
    · have hok := checkT_iff.1 hc
      have c21a := c21 t hok
      simp only [Town.d] at c21a
      rw [firstV] at c21a
      rw [hc] at c19a
      by_cases hl : (nbT t).2.2 = []
      · have e : clashP t = (0, [], 6) := by rw [clashP, if_neg (by rw [hc]; simp), if_pos hl]
        rw [if_pos hl] at c21a
        rw [e] at c18a
        refine c18a.call rfl rfl rfl ?_
        simp only [go_sem, hc, lvI]
        refine c19a.call rfl rfl rfl ?_
        simp only [go_sem]
        refine c20a.call rfl rfl rfl ?_
        simp only [go_sem]
        refine c21a.call rfl rfl rfl ?_
        simp only [go_sem]
        refine c15.call rfl rfl rfl ?_
        simp only [go_sem]
      · have e : clashP t = ((nbT t).2.1, (nbT t).2.2, 0) := by rw [clashP, if_neg (by rw [hc]; simp), if_neg hl]
        have h1000 : decide ((nbT t).2.1 ≤ 1000) = true := by
          rcases nbT_spec hok with ⟨k, hk, e, _⟩ | ⟨e, _⟩
          · rw [e]; exact decide_eq_true hk.2
          · rw [e]; rfl
        have hlen : (nbT t).2.2.length ≤ 4294967296 := by
          rcases nbT_spec hok with ⟨k, hk, e, _⟩ | ⟨e, _⟩
          · rw [e]
            have : (natI (clashT t k)).length ≤ t.first.length := by rw [natI, List.length_map]; exact clashT_len t k
            show (natI (clashT t k)).length ≤ _
            omega
          · rw [e]; exact Nat.zero_le _
        have hlv : lvI (nbT t).2.2 = .d (.sl ((nbT t).2.2.map (.int .i64))) := by
          cases hl2 : (nbT t).2.2 with
          | nil => exact absurd hl2 hl
          | cons a b => rfl
        rw [if_neg hl] at c21a
        rw [e] at c18a
        simp only [hlv] at c18a
        have c22a := c22 (nbT t).2.2 (nbT t).2.2 hlen hlen
        generalize (nbT t).2.2 = l at *
        generalize (nbT t).2.1 = hr at *
        refine c18a.call rfl rfl rfl ?_
        simp only [go_sem, hc]
        refine c19a.call rfl rfl rfl ?_
        simp only [go_sem]
        refine c20a.call rfl rfl rfl ?_
        simp only [go_sem]
        refine c21a.call rfl rfl rfl ?_
        simp only [go_sem, h1000, decide_true]
        refine c22a.call rfl rfl rfl ?_
        simp only [go_sem, decide_true]
        refine c15.call rfl rfl rfl ?_
        simp only [go_sem]
    · have e : clashP t = (0, [], checkT t) := by rw [clashP, if_pos hc]
      rw [e] at c18a
      have d1 : decide (checkT t = 0) = false := decide_eq_false hc
      refine c18a.call rfl rfl rfl ?_
      simp only [go_sem, lvI]
      refine c19a.call rfl rfl rfl ?_
      simp only [go_sem]
      refine c20a.call rfl rfl rfl ?_
      simp only [go_sem, d1, decide_true]
      refine c15.call rfl rfl rfl ?_
      simp only [go_sem]
end Go.Aw
end

section
set_option maxRecDepth 100000
namespace Go.Aw
open Go Go.Proofs

theorem has_list {α : Type} {enc : α → D} {p : D → Prop} (he : ∀ y, p y → ∃ s, y = enc s) : ∀ l : List D, (∀ y ∈ l, p y) → ∃ ss : List α, l = ss.map enc
  | [], _ => ⟨[], rfl⟩
  | y :: r, h => by
    obtain ⟨s, rfl⟩ := he y (h y (by simp))
    obtain ⟨ss, rfl⟩ := has_list he r fun z hz => h z (List.mem_cons_of_mem _ hz)
    exact ⟨s :: ss, rfl⟩

end Go.Aw
end

section
set_option maxRecDepth 100000
namespace Go.Aw
open Go Go.Proofs.Tryz

abbrev post1 (r : Nat) : Ex → Env → Heap → Prop := FnPost Tt [.tmp r] 0 fun r H' => H' = [] ∧ r = .d (.bool true)

end Go.Aw
end

section
set_option maxRecDepth 100000
namespace Go.Aw
open Go Go.Proofs.Tryz

def nmsD (l : List ByteArray) : D := .sl (l.map .str)
end Go.Aw
end

section
set_option maxRecDepth 100000
namespace Go.Aw
open Go Go.Proofs.Tryz

def Tab (a b : ByteArray) (f : Nat → Int) (i k : Nat) : Prop :=
  (∀ x y, x < i → y ≤ b.size → f (x * 11 + y) = (ftA a.data.toList b.data.toList x y : Nat)) ∧ ∀ y, y < k → f (i * 11 + y) = (ftA a.data.toList b.data.toList i y : Nat)

theorem Tab.row {a b : ByteArray} {f : Nat → Int} {i : Nat} (h : Tab a b f i (b.size + 1)) : Tab a b f (i + 1) 0 := by
  refine ⟨fun x y hx hy => ?_, fun y hy => by omega⟩
  rcases Nat.lt_or_ge x i with h1 | h1
  · exact h.1 x y h1 hy
  · rw [show x = i by omega]; exact h.2 y (by omega)

end Go.Aw
end

section
set_option maxRecDepth 100000
namespace Go.Aw
open Go Go.Proofs.Tryz

def askB (a : Ask) : Blk := .cells [.d (.int .i64 a.lo), .d (.int .i64 a.hi), .d (.int .i64 a.most)]

end Go.Aw
end

section
set_option maxRecDepth 100000
namespace Go.Aw
open Go Go.Proofs.Tryz

def h7 (t : Town) (a : Ask) : Heap := [townB t, askB a, townB t]

end Go.Aw
end

section
set_option maxRecDepth 100000
namespace Go.Aw
open Go Go.Proofs.Tryz

theorem ascN_ext : ∀ {l m : List Nat}, l.Pairwise (· < ·) → m.Pairwise (· < ·) → (∀ x, x ∈ l ↔ x ∈ m) → l = m
  | [], [], _, _, _ => rfl
  | [], y :: m, _, _, h => by have := (h y).2 (by simp); cases this
  | x :: l, [], _, _, h => by have := (h x).1 (by simp); cases this
  | x :: l, y :: m, h1, h2, h => by
    obtain ⟨a1, a2⟩ := List.pairwise_cons.1 h1
    obtain ⟨b1, b2⟩ := List.pairwise_cons.1 h2
    have hxy : x = y := by
      have hx := (h x).1 (by simp)
      have hy := (h y).2 (by simp)
      rcases List.mem_cons.1 hx with e | hx
      · exact e
      · rcases List.mem_cons.1 hy with e | hy
        · exact e.symm
        · have := b1 x hx; have := a1 y hy; omega
    subst hxy
    rw [ascN_ext a2 b2 fun z => ?_]
    constructor
    · intro hz
      rcases List.mem_cons.1 ((h z).1 (List.mem_cons_of_mem _ hz)) with e | hz'
      · have := a1 z hz; omega
      · exact hz'
    · intro hz
      rcases List.mem_cons.1 ((h z).2 (List.mem_cons_of_mem _ hz)) with e | hz'
      · have := b1 z hz; omega
      · exact hz'

end Go.Aw
end

section
set_option maxRecDepth 100000
namespace Go.Aw
open Go Go.Proofs.Tryz

theorem c56 (l : List ByteArray) (hl : l.length ≤ 1000) : PC prog 56 [.d (.sl (l.map .str))] (.d (.sl (l.map .str))) := by
  refine PC.run (fun _ => false) tt_ok (fn := f56) (rs := [.tmp 2]) rfl rfl rfl rfl rfl rfl rfl ?_
  have s1 := sized_strs l
  have b1 : l.length ≤ 4294967296 := by omega
  simp only [go_sem, s1, List.length_map, b1, show sized 1 [] = true from rfl]

/-- A copy as a row. -/
theorem c56r (l : List ByteArray) (hl : l.length ≤ 1000) : PCr prog 56 [.d (.sl (l.map .str))] [.arr 1 false (l.map .str)] (.ref 0 l.length 0 l.length) := by
  refine PCr.of_body tt_ok (fn := f56) (rs := [.tmp 2]) 1 rfl rfl rfl rfl rfl rfl ?_
  refine AWP.run (fun k => k == 3) tt_ok (fun _ h => nomatch h) (Nat.zero_le _) rfl ?_
  have s1 := sized_strs l
  have b1 : l.length ≤ 4294967296 := by omega
  simp only [go_sem, s1, List.length_map, b1]

def poolL : List ByteArray := [⟨#[97, 115, 104]⟩, ⟨#[98, 105, 114, 99, 104]⟩, ⟨#[99, 101, 100, 97, 114]⟩, ⟨#[101, 108, 109]⟩, ⟨#[102, 105, 114]⟩, ⟨#[104, 97, 122, 101, 108]⟩, ⟨#[105, 118, 121]⟩, ⟨#[106, 117, 110, 105, 112, 101, 114]⟩, ⟨#[108, 97, 114, 99, 104]⟩, ⟨#[109, 97, 112, 108, 101]⟩]

theorem c59 : PC prog 59 [] (.slx (some false) (poolL.map .str)) := by
  refine PC.run (fun _ => false) tt_ok (fn := f59) (rs := [.tmp 0]) rfl rfl rfl rfl rfl rfl rfl ?_
  simp only [go_sem]
  rfl

/-- Has a street other than one a name? -/
def takenB (names : List ByteArray) (s : Int) (name : ByteArray) (n : Nat) : Bool := (List.range n).any fun i : Nat => !decide ((i : Int) = s) && decide (names.getD i default = name)
theorem takenB_succ (names : List ByteArray) (s : Int) (name : ByteArray) (n : Nat) : takenB names s name (n + 1) = (takenB names s name n || (!decide ((n : Int) = s) && decide (names.getD n default = name))) := by
  rw [takenB, List.range_succ, List.any_append]; simp [takenB]

theorem c99 (names : List ByteArray) (hl : names.length ≤ 1000) (s : Int) (name : ByteArray) : PC prog 99 [.d (.sl (names.map .str)), .d (.int .i64 s), .d (.str name)] (.d (.bool (takenB names s name names.length))) := by
  refine PC.run (fun _ => false) tt_ok (fn := f99) (rs := [.tmp 6]) rfl rfl rfl rfl rfl rfl rfl ?_
  simp only [go_sem]
  refine ALoop.by (S := Nat) (fun i => [(7, .d (.int .i64 i)), (2, .d (.str name)), (1, .d (.int .i64 s)), (0, .d (.sl (names.map .str)))]) (fun _ => []) (fun i => names.length - i) (fun i => i ≤ names.length ∧ takenB names s name i = false) 0 (Nat.zero_le _) (fun _ h => nomatch h) ⟨Nat.zero_le _, rfl⟩ (ForgetTo.same' (Nat.zero_le _) ⟨rfl, rfl, rfl, rfl, trivial⟩ rfl) ?_
  rintro i ⟨hi, hx⟩ hn
  refine AWP.run (fun _ => false) tt_ok (fun _ h => nomatch h) (Nat.zero_le _) rfl ?_
  simp only [go_sem, List.length_map]
  refine Br_split (fun hd => ?_) (fun hd => ?_) <;> simp only [go_sem, hd]
  · have hlt : i < names.length := by simpa using hd
    have hix : idx? (names.map D.str) (i : Int) = some (.str (names.getD i default)) := by rw [getDG hlt]; simp [idx?, List.getElem?_eq_getElem hlt]
    have hnx : IntKind.i64.wrap ((i : Int) + 1) = ((i + 1 : Nat) : Int) := by rw [w64 (by omega) (by omega)]; omega
    have hsu := takenB_succ names s name i
    rw [hx, Bool.false_or] at hsu
    have hit : takenB names s name (i + 1) = true → takenB names s name names.length = true := fun h => by
      rw [takenB, List.any_eq_true] at h ⊢
      obtain ⟨j, hj, e⟩ := h
      exact ⟨j, List.mem_range.2 (by have := List.mem_range.1 hj; omega), e⟩
    generalize names.getD i default = x at *
    cases d1 : decide ((i : Int) = s) with
    | true =>
      rw [d1] at hsu
      simp only [go_sem, d1, hnx]
      exact ⟨i + 1, ⟨hlt, hsu⟩, by omega, ForgetTo.same' (Nat.zero_le _) ⟨rfl, rfl, rfl, rfl, trivial⟩ rfl⟩
    | false =>
      rw [d1, Bool.not_false, Bool.true_and] at hsu
      simp only [go_sem, d1, hix, beq_str]
      refine Br_split (fun he => ?_) (fun he => ?_) <;> simp only [go_sem, he]
      · rw [hit (hsu.trans he)]
      · simp only [go_sem, hnx]
        exact ⟨i + 1, ⟨hlt, hsu.trans he⟩, by omega, ForgetTo.same' (Nat.zero_le _) ⟨rfl, rfl, rfl, rfl, trivial⟩ rfl⟩
  · have hie : i = names.length := by simp only [decide_eq_false_iff_not] at hd; omega
    subst hie
    rw [hx]

def calledH (hours : List Int) (all : List (List ByteArray)) (s : Nat) (hour : Int) (n : Nat) : ByteArray := (List.range n).foldl (fun nm i => if hours.getD i default ≤ hour then (all.getD i default).getD s default else nm) ⟨#[]⟩
theorem calledH_succ (hours : List Int) (all : List (List ByteArray)) (s : Nat) (hour : Int) (n : Nat) : calledH hours all s hour (n + 1) = if hours.getD n default ≤ hour then (all.getD n default).getD s default else calledH hours all s hour n := by rw [calledH, List.range_succ, List.foldl_append]; rfl

theorem c55 (hours : List Int) (all : List (List ByteArray)) (hl : hours.length = all.length) (h1000 : all.length ≤ 1000) (s : Nat) (hs : ∀ l ∈ all, s < l.length) (hour : Int) :
    PC prog 55 [.d (.sl (hours.map (.int .i64))), .d (.sl (all.map nmsD)), .d (.int .i64 s), .d (.int .i64 hour)] (.d (.str (calledH hours all s hour hours.length))) := by
  refine PC.run (fun _ => false) tt_ok (fn := f55) (rs := [.tmp 8]) rfl rfl rfl rfl rfl rfl rfl ?_
  simp only [go_sem]
  refine ALoop.by (S := Nat) (fun i => [(10, .d (.int .i64 i)), (9, .d (.str (calledH hours all s hour i))), (3, .d (.int .i64 hour)), (2, .d (.int .i64 s)), (1, .d (.sl (all.map nmsD))), (0, .d (.sl (hours.map (.int .i64))))]) (fun _ => []) (fun i => hours.length - i) (fun i => i ≤ hours.length) 0 (Nat.zero_le _) (fun _ h => nomatch h) (Nat.zero_le _) (ForgetTo.same' (Nat.zero_le _) ⟨rfl, rfl, rfl, rfl, rfl, rfl, trivial⟩ rfl) ?_
  rintro i hi hn
  refine AWP.run (fun _ => false) tt_ok (fun _ h => nomatch h) (Nat.zero_le _) rfl ?_
  simp only [go_sem, List.length_map]
  refine Br_split (fun hd => ?_) (fun hd => ?_) <;> simp only [go_sem, hd]
  · have hlt : i < hours.length := by simpa using hd
    have hla : i < all.length := by omega
    have hix : idx? (hours.map (D.int .i64)) (i : Int) = some (.int .i64 (hours.getD i default)) := by rw [getDG hlt]; simp [idx?, List.getElem?_eq_getElem hlt]
    have hiy : idx? (all.map nmsD) (i : Int) = some (.sl ((all.getD i default).map .str)) := by rw [getDG hla, idx_nat, List.getElem?_map, List.getElem?_eq_getElem hla]; rfl
    have hsl : s < (all.getD i default).length := by rw [getDG hla]; exact hs _ (List.getElem_mem hla)
    have hiz : idx? ((all.getD i default).map D.str) (s : Int) = some (.str ((all.getD i default).getD s default)) := by rw [getDG hsl]; simp [idx?, List.getElem?_eq_getElem hsl]
    have hnx : IntKind.i64.wrap ((i : Int) + 1) = ((i + 1 : Nat) : Int) := by rw [w64 (by omega) (by omega)]; omega
    have hsu := calledH_succ hours all s hour i
    generalize calledH hours all s hour i = c at *
    generalize hours.getD i default = x at *
    generalize all.getD i default = y at *
    generalize y.getD s default = z at *
    simp only [go_sem, hix]
    refine Br_split (fun he => ?_) (fun he => ?_) <;> simp only [go_sem, he]
    · rw [if_pos (by simpa using he)] at hsu
      simp only [go_sem, hiy, hiz, hnx]
      refine ⟨i + 1, hlt, by omega, ?_⟩
      rw [hsu]
      exact ForgetTo.same' (Nat.zero_le _) ⟨rfl, rfl, rfl, rfl, rfl, rfl, trivial⟩ rfl
    · rw [if_neg (by simpa using he)] at hsu
      simp only [go_sem, hnx]
      refine ⟨i + 1, hlt, by omega, ?_⟩
      rw [hsu]
      exact ForgetTo.same' (Nat.zero_le _) ⟨rfl, rfl, rfl, rfl, rfl, rfl, trivial⟩ rfl
  · have hie : i = hours.length := by simp only [decide_eq_false_iff_not] at hd; omega
    subst hie
    rfl
end Go.Aw
end

section
set_option maxRecDepth 100000
namespace Go.Aw
open Go Go.Proofs.Tryz

structure C3 where
  a : Int
  b : Int
  c : Int
deriving Inhabited
def C3.d (v : C3) : D := .agg [.int .u8 v.a, .int .u8 v.b, .int .u8 v.c]
def B8 (n : Int) : Prop := 0 ≤ n ∧ n < 256
structure C3.Ok (v : C3) : Prop where
  a : B8 v.a
  b : B8 v.b
  c : B8 v.c

structure Cnc where
  st : Int
  cs : List C3
  turn : Int
def Cnc.d (x : Cnc) : D := .agg [.int .u8 x.st, .sl (x.cs.map C3.d), .int .u8 x.turn]
structure Cnc.Ok (x : Cnc) : Prop where
  st : B8 x.st
  cs : ∀ v ∈ x.cs, v.Ok
  turn : B8 x.turn

def fstG (p : Nat → Bool) : Nat → Nat → Nat
  | 0, j => j
  | f + 1, j => if p j = true then j else fstG p f (j + 1)

theorem fstG_spec (p : Nat → Bool) : ∀ f j, (∃ J, j ≤ J ∧ J < j + f ∧ p J = true) → p (fstG p f j) = true ∧ fstG p f j < j + f ∧ j ≤ fstG p f j ∧ ∀ k, j ≤ k → k < fstG p f j → p k = false
  | 0, j, ⟨J, h1, h2, _⟩ => by omega
  | f + 1, j, ⟨J, h1, h2, h3⟩ => by
    rw [fstG]
    by_cases h : p j = true
    · rw [if_pos h]
      exact ⟨h, by omega, Nat.le_refl _, fun k k1 k2 => by omega⟩
    · rw [if_neg h]
      have hJ : j + 1 ≤ J := by
        rcases Nat.eq_or_lt_of_le h1 with e | e
        · rw [← e] at h3; exact absurd h3 h
        · exact e
      obtain ⟨a1, a2, a3, a4⟩ := fstG_spec p f (j + 1) ⟨J, hJ, by omega, h3⟩
      refine ⟨a1, by omega, by omega, fun k k1 k2 => ?_⟩
      rcases Nat.eq_or_lt_of_le k1 with e | e
      · rw [← e]; simpa using h
      · exact a4 k e k2

/-- The first name of the pool, from one on, that no other street has. -/
def freeJ (now : List ByteArray) (s : Int) (n0 : Nat) : Nat := fstG (fun j => !takenB now s (poolL.getD ((n0 + j) % 10) default) now.length) 10 0
def freeN (now : List ByteArray) (s : Int) (n0 : Nat) : Nat := (n0 + freeJ now s n0) % 10

theorem pool_nodup : poolL.Nodup := by decide +kernel

theorem freeJ_spec {now : List ByteArray} (hl : now.length ≤ 6) (s : Int) (n0 : Nat) : freeJ now s n0 < 10 ∧ takenB now s (poolL.getD (freeN now s n0) default) now.length = false ∧ ∀ k, k < freeJ now s n0 → takenB now s (poolL.getD ((n0 + k) % 10) default) now.length = true := by
  have hex : ∃ J, 0 ≤ J ∧ J < 0 + 10 ∧ (fun j => !takenB now s (poolL.getD ((n0 + j) % 10) default) now.length) J = true := by
    refine Classical.byContradiction fun hno => ?_
    have hall : ∀ k, k < 10 → poolL.getD k default ∈ now := fun k hk => by
      have h1 : takenB now s (poolL.getD ((n0 + (k + 10 - n0 % 10) % 10) % 10) default) now.length = true := by
        cases h : takenB now s (poolL.getD ((n0 + (k + 10 - n0 % 10) % 10) % 10) default) now.length with
        | true => rfl
        | false => exact absurd ⟨(k + 10 - n0 % 10) % 10, Nat.zero_le _, by omega, by simp only [h, Bool.not_false]⟩ hno
      rw [show (n0 + (k + 10 - n0 % 10) % 10) % 10 = k by omega, takenB, List.any_eq_true] at h1
      obtain ⟨i, hi, e⟩ := h1
      rw [Bool.and_eq_true, decide_eq_true_eq] at e
      rw [← e.2, getDG (List.mem_range.1 hi)]
      exact List.getElem_mem _
    have := nodup_sub poolL now pool_nodup fun x hx => by
      obtain ⟨k, hk, e⟩ := List.getElem_of_mem hx
      have := hall k hk
      rw [getDG hk, e] at this
      exact this
    have h10 : poolL.length = 10 := rfl
    omega
  obtain ⟨a1, a2, _, a4⟩ := fstG_spec _ 10 0 hex
  refine ⟨by simpa [freeJ] using a2, by simpa [freeJ, freeN] using a1, fun k hk => ?_⟩
  have := a4 k (Nat.zero_le _) hk
  simpa using this

structure MkS where
  at' : Int
  now : List ByteArray
  hours : List Int
  all : List (List ByteArray)
  ch : List Chg
def mkStep (s : MkS) (v : C3) : MkS :=
  ⟨s.at' + (1 + v.a % 140), s.now.set (v.b % s.now.length).toNat (poolL.getD (freeN s.now (v.b % s.now.length) (v.c % 10).toNat) default), s.hours ++ [s.at' + (1 + v.a % 140)],
   s.all ++ [s.now.set (v.b % s.now.length).toNat (poolL.getD (freeN s.now (v.b % s.now.length) (v.c % 10).toNat) default)],
   s.ch ++ [⟨s.at' + (1 + v.a % 140), v.b % s.now.length, poolL.getD (freeN s.now (v.b % s.now.length) (v.c % 10).toNat) default⟩]⟩
def Cnc.names (x : Cnc) : List ByteArray := poolL.take (2 + x.st % 5).toNat
def Cnc.mk0 (x : Cnc) : MkS := ⟨0, x.names, [0], [x.names], []⟩
def Cnc.mkN (x : Cnc) (n : Nat) : MkS := (x.cs.take n).foldl mkStep x.mk0
theorem Cnc.mkN_succ (x : Cnc) {n : Nat} (h : n < x.cs.length) : x.mkN (n + 1) = mkStep (x.mkN n) x.cs[n] := by
  rw [mkN, List.take_succ_eq_append_getElem h, List.foldl_append]; rfl
def Cnc.mkZ (x : Cnc) : MkS := x.mkN (min x.cs.length 7)
/-- The changes, turned. -/
def Cnc.turned (x : Cnc) : List Chg := x.mkZ.ch.drop (x.turn % x.mkZ.ch.length).toNat ++ x.mkZ.ch.take (x.turn % x.mkZ.ch.length).toNat
def Cnc.town (x : Cnc) : Town := ⟨x.names, x.turned⟩

def cncB (x : Cnc) : Blk := .cells [.d (.int .u8 x.st), .d (.sl (x.cs.map C3.d)), .d (.int .u8 x.turn)]

abbrev post53 (x : Cnc) : Ex → Env → Heap → Prop := FnPost Tt [.cell 2 25, .tmp 3, .tmp 4] 0 fun r H => H = [] ∧ r = .tup [.d x.town.d, .d (.sl (x.mkZ.hours.map (.int .i64))), .d (.sl (x.mkZ.all.map nmsD))]

theorem poolL_take {K : Nat} (h : K ≤ 10) : (poolL.take K).length = K := by rw [List.length_take]; exact Nat.min_eq_left h

theorem names_K (x : Cnc) (hx : x.Ok) : ∃ K : Nat, IntKind.i64.wrap (2 + (IntKind.i64.wrap x.st).tmod 5) = (K : Int) ∧ x.names = poolL.take K ∧ 2 ≤ K ∧ K ≤ 6 := by
  have h1 := hx.st
  simp only [B8] at h1
  refine ⟨(2 + x.st % 5).toNat, ?_, rfl, by omega, by omega⟩
  rw [w64 (n := x.st) (by omega) (by omega), Int.tmod_eq_emod_of_nonneg h1.1, w64 (by omega) (by omega)]; omega

def e53a (x : Cnc) : Env := [(10, .d (.int .i64 0)), (9, .d (.sl (x.names.map .str))), (8, .ref 3 1 0 1), (7, .ref 2 1 0 1), (6, .ptr 4 0), (2, .ptr 1 0), (1, .ptr 0 0)]
def h53a (x : Cnc) : Heap := [cncB x, .cells [.d (.sl []), .d (.sl [])], .arr 1 false [.int .i64 0], .arr 1 false [.sl (x.names.map .str)], .cells [.d (.sl (x.names.map .str)), .slx (some true) []]]

theorem c53_a (x : Cnc) (hx : x.Ok) (hrest : AWP prog f53.ntmps 0 none (restC 4 (bodyOf f53)) (e53a x) (h53a x) (post53 x)) :
    PC prog 53 [.d x.d] (.tup [.d x.town.d, .d (.sl (x.mkZ.hours.map (.int .i64))), .d (.sl (x.mkZ.all.map nmsD))]) := by
  refine PC.of_body tt_ok (fn := f53) (c := bodyOf f53) (rs := [.cell 2 25, .tmp 3, .tmp 4]) rfl rfl rfl rfl rfl rfl ?_
  obtain ⟨K, hK, hKn, hK1, hK2⟩ := names_K x hx
  have hK0 : (0 : Int) ≤ (K : Int) := by omega
  have hnl := poolL_take (show K ≤ 10 by omega)
  have hpl : poolL.length = 10 := rfl
  have hpl2 : K ≤ poolL.length := by rw [hpl]; omega
  have sp := sized_strs poolL
  have c56a := c56 x.names (by rw [hKn, hnl]; omega)
  refine AWP.stepN 4 (e53a x) (h53a x) (fun k => k == 26 || k == 27 || k == 30) tt_ok (fun _ h => nomatch h) (Nat.zero_le _) rfl ?_ hrest
  simp only [e53a, h53a]
  rw [hKn] at c56a ⊢
  have hmt : List.take K (poolL.map D.str) = (poolL.take K).map D.str := (List.map_take).symm
  simp only [go_sem, Cnc.d]
  refine ADrw.treeG (fun k => k == 26 || k == 27 || k == 30) tt_ok (by kernel_rfl) (fun k => if k = 2 then some .L else some .S) (.ones [0, 1, 2, 3, 4, 5, 6, 7] .done) (Nat.zero_le _) (fun _ h => nomatch h) rfl rfl (by kernel_rfl) ?_
  simp only [go_sem]
  refine c59.callS rfl rfl rfl rfl rfl rfl ?_
  simp only [go_sem, hK, hK0, Int.toNat_natCast, sp, hpl2, hmt]
  generalize poolL.take K = N at *
  refine c56a.call rfl rfl rfl ?_
  simp only [go_sem]
  refine c56a.call rfl rfl rfl ?_
  simp only [go_sem]
  refine c56a.call rfl rfl rfl ?_
  simp only [go_sem]
  exact ForgetTo.same' (Nat.zero_le _) ⟨rfl, rfl, rfl, rfl, rfl, rfl, rfl, trivial⟩ rfl

def e53 (s : MkS) : Env := [(10, .d (.int .i64 s.at')), (9, .d (.sl (s.now.map .str))), (8, .ref 3 s.all.length 0 s.all.length), (7, .ref 2 s.hours.length 0 s.hours.length), (6, .ptr 4 0), (2, .ptr 1 0), (1, .ptr 0 0)]
def h53 (x : Cnc) (s : MkS) : Heap := [cncB x, .cells [.d (.sl []), .d (.sl [])], .arr 1 false (s.hours.map (.int .i64)), .arr 1 false (s.all.map nmsD), .cells [.d (.sl (x.names.map .str)), .ref 5 s.ch.length 0 s.ch.length], .arr 3 (decide (s.ch.length = 0)) (s.ch.map Chg.d)]

structure MkOk (x : Cnc) (n : Nat) (s : MkS) : Prop where
  now : s.now.length = x.names.length
  at' : 0 ≤ s.at' ∧ s.at' ≤ 140 * n
  ch : s.ch.length = n
  hours : s.hours.length = n + 1
  all : s.all.length = n + 1

theorem mkStep_ok {x : Cnc} {i : Nat} {s : MkS} (h : MkOk x i s) {v : C3} (hv : v.Ok) : MkOk x (i + 1) (mkStep s v) := by
  have ha := hv.a
  simp only [B8] at ha
  refine ⟨by simp [mkStep, h.now], ?_, by simp [mkStep, h.ch], by simp [mkStep, h.hours], by simp [mkStep, h.all]⟩
  have := h.at'
  show 0 ≤ s.at' + (1 + v.a % 140) ∧ s.at' + (1 + v.a % 140) ≤ 140 * ((i + 1 : Nat) : Int)
  omega

theorem c53_b (x : Cnc) (hx : x.Ok)
    (hrest : AWP prog f53.ntmps 0 none (restC 1 (restC 4 (bodyOf f53))) [(8, .ref 3 x.mkZ.all.length 0 x.mkZ.all.length), (7, .ref 2 x.mkZ.hours.length 0 x.mkZ.hours.length), (6, .ptr 4 0), (2, .ptr 1 0), (1, .ptr 0 0)] (h53 x x.mkZ) (post53 x)) :
    AWP prog f53.ntmps 0 none (restC 4 (bodyOf f53)) (e53a x) (h53a x) (post53 x) := by
  refine AWP.nilrow 4 1 3 rfl rfl (Nat.zero_le _) ?_
  refine AWP.stepN 1 _ _ (fun k => k == 200) tt_ok (fun _ h => nomatch h) (Nat.zero_le _) rfl ?_ hrest
  clear hrest
  simp only [e53a, h53a]
  simp only [go_sem]
  refine ALoop.by (S := Nat) (fun i => (11, .d (.int .i64 i)) :: e53 (x.mkN i)) (fun i => h53 x (x.mkN i)) (fun i => min x.cs.length 7 - i) (fun i => i ≤ min x.cs.length 7 ∧ MkOk x i (x.mkN i)) 0 (Nat.zero_le _) (fun _ h => nomatch h) ⟨Nat.zero_le _, ⟨rfl, ⟨by simp [Cnc.mkN, Cnc.mk0], by simp [Cnc.mkN, Cnc.mk0]⟩, rfl, rfl, rfl⟩⟩ ?_ ?_
  · exact ForgetTo.same' (Nat.zero_le _) ⟨rfl, rfl, rfl, rfl, rfl, rfl, rfl, rfl, trivial⟩ rfl
  rintro i ⟨hi, hok⟩ hn
  have hKl : 2 ≤ x.names.length ∧ x.names.length ≤ 6 := by
    obtain ⟨K, _, hKn, hK1, hK2⟩ := names_K x hx
    rw [hKn, poolL_take (by omega)]; exact ⟨hK1, hK2⟩
  by_cases hlt : i < min x.cs.length 7
  · have hic : i < x.cs.length := by omega
    have hsn := x.mkN_succ hic
    have hvo := hx.cs _ (List.getElem_mem hic)
    have hix : idx? (x.cs.map C3.d) (i : Int) = some x.cs[i].d := by simp [idx?, List.getElem?_eq_getElem hic]
    have d1 : decide ((i : Int) < (x.cs.length : Int)) = true := decide_eq_true (by omega)
    have d2 : decide ((i : Int) < 7) = true := decide_eq_true (by omega)
    have hnx : IntKind.i64.wrap ((i : Int) + 1) = ((i + 1 : Nat) : Int) := by rw [w64 (by omega) (by omega)]; omega
    have hok2 := mkStep_ok hok hvo
    generalize hv : x.cs[i] = v at *
    refine AWP.part ((11, .d (.int .i64 i)) :: e53 (x.mkN i)) (h53 x (x.mkN i)) ?_ ?_
    · refine AWP.runS (fun _ => false) tt_ok (fun _ h => nomatch h) (Nat.zero_le _) rfl ?_
      simp only [e53, h53, cncB]
      simp only [go_sem, List.length_map, d1, d2]
      exact ForgetTo.same' (Nat.zero_le _) ⟨rfl, rfl, rfl, rfl, rfl, rfl, rfl, rfl, trivial⟩ rfl
    · refine AWP.blk ((11, .d (.int .i64 i)) :: e53 (mkStep (x.mkN i) v)) (h53 x (mkStep (x.mkN i) v)) ?_ ?_
      · clear hsn
        generalize x.mkN i = s at *
        obtain ⟨ha, hb, hc⟩ := hvo
        simp only [B8] at ha hb hc
        have hvd : v.d = .agg [.int .u8 v.a, .int .u8 v.b, .int .u8 v.c] := rfl
        rw [hvd] at hix
        have hL := hok.now
        have hat := hok.at'
        have wa : IntKind.i64.wrap v.a = v.a := w64 (by omega) (by omega)
        have wb : IntKind.i64.wrap v.b = v.b := w64 (by omega) (by omega)
        have wc : IntKind.i64.wrap v.c = v.c := w64 (by omega) (by omega)
        have ta : v.a.tmod 140 = v.a % 140 := Int.tmod_eq_emod_of_nonneg ha.1
        have tb : v.b.tmod (s.now.length : Int) = v.b % s.now.length := Int.tmod_eq_emod_of_nonneg hb.1
        have tc : v.c.tmod 10 = v.c % 10 := Int.tmod_eq_emod_of_nonneg hc.1
        have wa1 : IntKind.i64.wrap (1 + v.a % 140) = 1 + v.a % 140 := w64 (by omega) (by omega)
        have wa2 : IntKind.i64.wrap (s.at' + (1 + v.a % 140)) = s.at' + (1 + v.a % 140) := w64 (by omega) (by omega)
        have hne : ¬ (s.now.length : Int) = 0 := by omega
        refine AWP.stepN 6 [(13, .d (.int .i64 (v.b % s.now.length))), (11, .d (.int .i64 i)), (10, .d (.int .i64 (s.at' + (1 + v.a % 140)))), (9, .d (.sl ((mkStep s v).now.map .str))), (8, .ref 3 s.all.length 0 s.all.length), (7, .ref 2 s.hours.length 0 s.hours.length), (6, .ptr 4 0), (2, .ptr 1 0), (1, .ptr 0 0)] (h53 x s) (fun _ => false) tt_ok (fun _ h => nomatch h) (Nat.zero_le _) rfl ?_ ?_
        · simp only [e53, h53, cncB]
          simp only [go_sem, hix, wa, wb, ta, wa1, wa2]
          refine ADrw.treeG (fun _ => false) tt_ok (by kernel_rfl) (fun k => if k = 1 ∨ k = 7 then some .L else some .S) (.ones [0, 1, 2, 3, 4, 5, 6, 7, 8, 9, 10, 11] .done) (Nat.zero_le _) (fun _ h => nomatch h) rfl rfl (by kernel_rfl) ?_
          have hrb : remO .i64 v.b (s.now.length : Int) = some (.int .i64 (v.b % s.now.length)) := by rw [remO_ne hne, tb]
          simp only [go_sem, List.length_map, wb, wc, tc, hrb]
          have hst0 := Int.emod_nonneg v.b hne
          have hst1 := Int.emod_lt_of_pos v.b (show (0 : Int) < s.now.length by omega)
          have hnow2 : (mkStep s v).now = s.now.set (v.b % s.now.length).toNat (poolL.getD (freeN s.now (v.b % s.now.length) (v.c % 10).toNat) default) := rfl
          rw [hnow2]
          clear hok2 hrb tb
          obtain ⟨f1, f2, f3⟩ := freeJ_spec (show s.now.length ≤ 6 by omega) (v.b % s.now.length) (v.c % 10).toNat
          have hfN : freeN s.now (v.b % s.now.length) (v.c % 10).toNat = ((v.c % 10).toNat + freeJ s.now (v.b % s.now.length) (v.c % 10).toNat) % 10 := rfl
          have c99a := fun nm => c99 s.now (by omega) (v.b % s.now.length) nm
          generalize hm0 : (v.c % 10).toNat = n0 at *
          have hn0 : v.c % 10 = (n0 : Int) := by omega
          have hn10 : n0 < 10 := by omega
          rw [hn0]
          generalize freeN s.now (v.b % s.now.length) n0 = fN at *
          generalize freeJ s.now (v.b % s.now.length) n0 = J at *
          generalize v.b % s.now.length = st at *
          refine ALoop.by (S := Nat) (fun j => [(14, .d (.int .i64 (((n0 + j) % 10 : Nat) : Int))), (13, .d (.int .i64 st)), (11, .d (.int .i64 i)), (10, .d (.int .i64 (s.at' + (1 + v.a % 140)))), (9, .d (.sl (s.now.map .str))), (8, .ref 3 s.all.length 0 s.all.length), (7, .ref 2 s.hours.length 0 s.hours.length), (6, .ptr 4 0), (2, .ptr 1 0), (1, .ptr 0 0)])
            (fun _ => h53 x s ++ [.cells [.d (.int .u8 v.a), .d (.int .u8 v.b), .d (.int .u8 v.c)]]) (fun j => J - j) (fun j => j ≤ J) 0 (Nat.zero_le _) (fun _ h => nomatch h) (Nat.zero_le _) ?_ ?_
          · rw [Nat.add_zero, Nat.mod_eq_of_lt hn10]
            exact ForgetTo.same' (Nat.zero_le _) ⟨rfl, rfl, rfl, rfl, rfl, rfl, rfl, rfl, rfl, rfl, trivial⟩ rfl
          rintro j hj hn3
          refine AWP.run (fun _ => false) tt_ok (fun _ h => nomatch h) (Nat.zero_le _) rfl ?_
          simp only [h53, cncB, List.cons_append, List.nil_append]
          simp only [go_sem]
          refine c59.call rfl rfl rfl ?_
          have hm10 : (n0 + j) % 10 < 10 := Nat.mod_lt _ (by omega)
          have hpx : idx? (poolL.map D.str) (((n0 + j) % 10 : Nat) : Int) = some (.str (poolL.getD ((n0 + j) % 10) default)) := by rw [idx_nat, List.getElem?_map, getDG (show (n0 + j) % 10 < poolL.length from hm10), List.getElem?_eq_getElem (show (n0 + j) % 10 < poolL.length from hm10)]; rfl
          simp only [go_sem, hpx]
          refine (c99a _).call rfl rfl rfl ?_
          rcases Nat.lt_or_ge j J with hjJ | hjJ
          · rw [f3 j hjJ]
            have hr1 : (IntKind.i64.wrap ((((n0 + j) % 10 : Nat) : Int) + 1)).tmod 10 = (((n0 + (j + 1)) % 10 : Nat) : Int) := by rw [w64 (by omega) (by omega), Int.tmod_eq_emod_of_nonneg (by omega)]; omega
            simp only [go_sem, hr1]
            exact ⟨j + 1, hjJ, by omega, ForgetTo.same' (Nat.zero_le _) ⟨rfl, rfl, rfl, rfl, rfl, rfl, rfl, rfl, rfl, rfl, trivial⟩ rfl⟩
          · have hjE : j = J := by omega
            subst hjE
            rw [← hfN, f2]
            have hf10 : fN < poolL.length := by rw [hfN]; exact hm10
            rw [← hfN] at hpx
            generalize poolL.getD fN default = nmx at *
            simp only [go_sem]
            refine (c56r s.now (by omega)).call rfl rfl rfl ?_
            simp only [go_sem]
            refine c59.call rfl rfl rfl ?_
            have e1 : (0 : Int) ≤ st ∧ st < (s.now.length : Int) := ⟨hst0, hst1⟩
            have hsn2 : st.toNat < s.now.length := by omega
            have hg : (s.now.map D.str)[st.toNat]? = some (.str s.now[st.toNat]) := by rw [List.getElem?_map, List.getElem?_eq_getElem hsn2]; rfl
            have hms : (s.now.map D.str).set st.toNat (.str nmx) = (s.now.set st.toNat nmx).map D.str := (List.map_set).symm
            simp only [go_sem, hpx, List.length_map, e1, hg]
            rw [hms]
            have hln : (s.now.set st.toNat nmx).length = s.now.length := by simp
            have htk : List.take s.now.length ((s.now.set st.toNat nmx).map D.str) = (s.now.set st.toNat nmx).map D.str := List.take_of_length_le (by simp)
            refine ForgetTo.dropR (H0 := [_, _, _, _, _, _]) (Y := [_, _]) (Nat.zero_le _) rfl (by simp [BBs, BB, VBs, VB]) ?_
            refine ⟨rfl, rfl, rfl, ?_, rfl, rfl, rfl, rfl, rfl, trivial⟩
            simp [Env.look, pubV]
            exact List.take_of_length_le (by simp)
        · have hst0 := Int.emod_nonneg v.b hne
          have hst1 := Int.emod_lt_of_pos v.b (show (0 : Int) < s.now.length by omega)
          have hmk : mkStep s v = ⟨s.at' + (1 + v.a % 140), (mkStep s v).now, s.hours ++ [s.at' + (1 + v.a % 140)], s.all ++ [(mkStep s v).now], s.ch ++ [⟨s.at' + (1 + v.a % 140), v.b % s.now.length, poolL.getD (freeN s.now (v.b % s.now.length) (v.c % 10).toNat) default⟩]⟩ := rfl
          have hnow2 : (mkStep s v).now = s.now.set (v.b % s.now.length).toNat (poolL.getD (freeN s.now (v.b % s.now.length) (v.c % 10).toNat) default) := rfl
          rw [hmk]
          rw [hnow2]
          clear hok2 hmk hnow2
          generalize poolL.getD (freeN s.now (v.b % s.now.length) (v.c % 10).toNat) default = nmx at *
          generalize v.b % s.now.length = st at *
          generalize s.at' + (1 + v.a % 140) = at2 at *
          have hsn2 : st.toNat < (s.now.set st.toNat nmx).length := by simp; omega
          have hget : (s.now.set st.toNat nmx)[st.toNat]'hsn2 = nmx := by simp
          have hix2 : idx? ((s.now.set st.toNat nmx).map D.str) st = some (.str nmx) := by
            have e : st = ((st.toNat : Nat) : Int) := by omega
            rw [e, idx_nat, List.getElem?_map, List.getElem?_eq_getElem (by simpa using hsn2)]
            simp only [Int.toNat_natCast] at hget ⊢
            simp
          generalize s.now.set st.toNat nmx = now2 at *
          have c61a := c61 at2 st nmx
          have s3 : sized 3 [D.agg [.int .i64 at2, .int .i64 st, .str nmx]] = true := rfl
          have hcl := hok.ch
          have hhl := hok.hours
          have hal := hok.all
          simp only [e53, h53, cncB]
          refine AWP.runS (fun _ => false) tt_ok (fun _ h => nomatch h) (Nat.zero_le _) rfl ?_
          simp only [go_sem]
          refine ADrw.treeG (fun _ => false) tt_ok (by kernel_rfl) (fun k => if k = 1 then some .L else if k = 10 ∨ k = 12 then some .W else some .S) (.ones [0, 1, 2, 3, 4, 5, 6, 7, 8, 9, 10, 11, 12] .done) (Nat.zero_le _) (fun _ h => nomatch h) rfl rfl (by kernel_rfl) ?_
          simp only [go_sem, hix2]
          refine c61a.callS rfl rfl rfl rfl rfl rfl ?_
          have si : sized 1 [D.int .i64 at2] = true := rfl
          have sn : sized 1 [D.sl (now2.map .str)] = true := rfl
          have b1 : decide (s.ch.length ≤ 4294967295) = true := decide_eq_true (by omega)
          have b2 : decide (s.hours.length ≤ 4294967295) = true := decide_eq_true (by omega)
          have b3 : decide (s.all.length ≤ 4294967295) = true := decide_eq_true (by omega)
          simp only [go_sem, s3, List.length_map, b1, b2, b3, si, sn]
          refine ForgetTo.same' (Nat.zero_le _) ?_ ?_
          · simp only [List.length_append, List.length_cons, List.length_nil, Nat.zero_add]
            exact ⟨rfl, rfl, rfl, rfl, rfl, rfl, rfl, rfl, trivial⟩
          · simp [nmsD, Chg.d]
      · refine AWP.run (fun _ => false) tt_ok (fun _ h => nomatch h) (Nat.zero_le _) rfl ?_
        rw [← hsn] at hok2 ⊢
        simp only [e53, h53, cncB]
        simp only [go_sem, hnx]
        refine ⟨i + 1, ⟨by omega, hok2⟩, by omega, ForgetTo.same' (Nat.zero_le _) ⟨rfl, rfl, rfl, rfl, rfl, rfl, rfl, rfl, trivial⟩ rfl⟩
  · have hie : i = min x.cs.length 7 := by omega
    refine AWP.runS (fun _ => false) tt_ok (fun _ h => nomatch h) (Nat.zero_le _) rfl ?_
    have fin : ∀ E, EWe E [(8, .ref 3 x.mkZ.all.length 0 x.mkZ.all.length), (7, .ref 2 x.mkZ.hours.length 0 x.mkZ.hours.length), (6, .ptr 4 0), (2, .ptr 1 0), (1, .ptr 0 0)] → ForgetTo 0 E (h53 x x.mkZ) [(8, .ref 3 x.mkZ.all.length 0 x.mkZ.all.length), (7, .ref 2 x.mkZ.hours.length 0 x.mkZ.hours.length), (6, .ptr 4 0), (2, .ptr 1 0), (1, .ptr 0 0)] (h53 x x.mkZ) := fun E hE => ForgetTo.same' (Nat.zero_le _) hE rfl
    rw [hie]
    simp only [Cnc.mkZ] at fin ⊢
    generalize x.mkN (min x.cs.length 7) = s at *
    simp only [e53, h53, cncB] at fin ⊢
    by_cases h7 : x.cs.length ≤ 7
    · rw [Nat.min_eq_left h7]
      simp only [go_sem, List.length_map, Int.lt_irrefl, decide_false]
      refine fin _ ?_
      exact ⟨rfl, rfl, rfl, rfl, rfl, trivial⟩
    · rw [Nat.min_eq_right (by omega)]
      have d1 : decide ((7 : Int) < (x.cs.length : Int)) = true := decide_eq_true (by omega)
      simp only [go_sem, List.length_map, d1]
      refine fin _ ?_
      exact ⟨rfl, rfl, rfl, rfl, rfl, trivial⟩
end Go.Aw
end

section
set_option maxRecDepth 100000
namespace Go.Aw
open Go Go.Proofs.Tryz

theorem mkN_ok (x : Cnc) (hx : x.Ok) : ∀ n, n ≤ x.cs.length → MkOk x n (x.mkN n)
  | 0, _ => ⟨rfl, ⟨by simp [Cnc.mkN, Cnc.mk0], by simp [Cnc.mkN, Cnc.mk0]⟩, rfl, rfl, rfl⟩
  | n + 1, h => by
    rw [x.mkN_succ (show n < x.cs.length by omega)]
    exact mkStep_ok (mkN_ok x hx n (by omega)) (hx.cs _ (List.getElem_mem _))

theorem c53 (x : Cnc) (hx : x.Ok) : PC prog 53 [.d x.d] (.tup [.d x.town.d, .d (.sl (x.mkZ.hours.map (.int .i64))), .d (.sl (x.mkZ.all.map nmsD))]) := by
  refine c53_a x hx (c53_b x hx ?_)
  have hok := mkN_ok x hx (min x.cs.length 7) (Nat.min_le_left _ _)
  have hmz : x.mkN (min x.cs.length 7) = x.mkZ := rfl
  rw [hmz] at hok
  have hch := hok.ch
  have htw : x.turned = x.mkZ.ch.drop (x.turn % x.mkZ.ch.length).toNat ++ x.mkZ.ch.take (x.turn % x.mkZ.ch.length).toNat := rfl
  have htn := hx.turn
  simp only [B8] at htn
  have hchl : x.mkZ.ch.length ≤ 7 := by rw [hch]; exact Nat.min_le_right _ _
  simp only [h53, post53, Cnc.town, Town.d]
  generalize x.mkZ = s at *
  have hta : List.take s.all.length (s.all.map nmsD) = s.all.map nmsD := List.take_of_length_le (by simp)
  have hth : List.take s.hours.length (s.hours.map (D.int .i64)) = s.hours.map (D.int .i64) := List.take_of_length_le (by simp)
  refine AWP.runS (fun k => k == 115) tt_ok (fun _ h => nomatch h) (Nat.zero_le _) rfl ?_
  by_cases h0 : s.ch = []
  · have ht0 : x.turned = [] := by rw [htw, h0]; simp
    rw [ht0, h0]
    simp only [cncB]
    simp only [go_sem, List.length_map, List.length_nil, List.map_nil, hta, hth]
  · have hpos : 0 < s.ch.length := List.length_pos_iff.2 h0
    have dpos : decide ((0 : Int) < (s.ch.length : Int)) = true := decide_eq_true (by omega)
    have hne : ¬ (s.ch.length : Int) = 0 := by omega
    have hnil : decide (s.ch.length = 0) = false := decide_eq_false (by omega)
    have wt : IntKind.i64.wrap x.turn = x.turn := w64 (by omega) (by omega)
    have hrem : remO .i64 x.turn (s.ch.length : Int) = some (.int .i64 (x.turn % s.ch.length)) := by rw [remO_ne hne, Int.tmod_eq_emod_of_nonneg htn.1]
    have k0 := Int.emod_nonneg x.turn hne
    have k1 := Int.emod_lt_of_pos x.turn (show (0 : Int) < s.ch.length by omega)
    obtain ⟨k, hk⟩ : ∃ k : Nat, x.turn % s.ch.length = (k : Int) := ⟨(x.turn % s.ch.length).toNat, by omega⟩
    rw [hk] at htw hrem k0 k1
    simp only [Int.toNat_natCast] at htw
    have hkl : k ≤ s.ch.length := by omega
    have hkk : k < s.ch.length := by omega
    have hsub : k + (s.ch.length - k) = s.ch.length := by omega
    have htr := sized_chg (s.ch.drop k)
    have htl := sized_chg (s.ch.take k)
    have sc := sized_chg s.ch
    simp only [cncB]
    simp only [go_sem, List.length_map, dpos, wt, hrem, hnil]
    refine ADrw.treeG (fun k => k == 115) tt_ok (by kernel_rfl) (fun k => if k = 2 ∨ k = 4 ∨ k = 7 ∨ k = 9 then some .L else if k = 5 ∨ k = 10 ∨ k = 12 then some .W else if k = 0 then some .A else some .S) (.ones [1, 2, 3, 4, 6, 8] (.two 0 (.two 5 (.ones [7, 9, 10, 11, 12] .done) 7 (.two 5 (.ones [9, 10, 11, 12] .done) 9 (.ones [5, 10, 11, 12] .done))) 7 (.two 0 (.two 5 (.ones [9, 10, 11, 12] .done) 9 (.ones [5, 10, 11, 12] .done)) 9 (.ones [0, 5, 10, 11, 12] .done)))) (Nat.zero_le _) (fun _ h => nomatch h) rfl rfl (by kernel_rfl) ?_
    have hdr : List.take (s.ch.length - k) (List.drop k (s.ch.map Chg.d)) = (s.ch.drop k).map Chg.d := by rw [← List.map_drop]; exact List.take_of_length_le (by simp)
    have htk : List.take k (s.ch.map Chg.d) = (s.ch.take k).map Chg.d := (List.map_take).symm
    have hdl : (s.ch.drop k).length = s.ch.length - k := by simp
    have htl2 : (s.ch.take k).length = k := by rw [List.length_take]; omega
    have q1 : s.ch.length - k ≤ 4294967296 := by omega
    have q2 : s.ch.length - k + k ≤ 4294967296 := by omega
    simp only [go_sem, List.length_map, k0, hkl, hkk, hsub, Int.toNat_natCast, hdr, htk, htr, htl, hdl, htl2, q1, q2, Nat.sub_zero]
    have hlA : ((s.ch.drop k).map Chg.d ++ (s.ch.take k).map Chg.d).length = s.ch.length - k + k := by rw [List.length_append, List.length_map, List.length_map, hdl, htl2]
    have htA : List.take (s.ch.length - k + k) ((s.ch.drop k).map Chg.d ++ (s.ch.take k).map Chg.d) = (s.ch.drop k).map Chg.d ++ (s.ch.take k).map Chg.d := List.take_of_length_le (by rw [hlA]; exact Nat.le_refl _)
    simp only [go_sem, hlA, htA, hth, hta, htw, List.map_append]
end Go.Aw
end

section
set_option maxRecDepth 100000
namespace Go.Aw
open Go Go.Proofs.Tryz

structure MkI (x : Cnc) (n : Nat) (s : MkS) : Prop where
  ok : MkOk x n s
  hours : s.hours = 0 :: s.ch.map (·.at')
  now : s.now = applyC s.ch x.names
  all : ∀ i, i ≤ n → s.all.getD i default = applyC (s.ch.take i) x.names
  asc : s.ch.Pairwise fun a b => a.at' < b.at'
  top : ∀ c ∈ s.ch, 1 ≤ c.at' ∧ c.at' ≤ s.at'
  sts : ∀ c ∈ s.ch, 0 ≤ c.st ∧ c.st < x.names.length
  nms : ∀ c ∈ s.ch, c.name ∈ poolL
  pool : ∀ z ∈ s.now, z ∈ poolL
  nodup : s.now.Nodup
  alln : ∀ l ∈ s.all, l.Nodup ∧ l.length = x.names.length

theorem set_nodup {l : List ByteArray} (h : l.Nodup) {i : Nat} {z : ByteArray} (hz : ∀ j, j < l.length → j ≠ i → l.getD j default ≠ z) : (l.set i z).Nodup := by
  rw [List.Nodup, List.pairwise_iff_getElem] at h ⊢
  intro a b ha hb hab
  have ha' : a < l.length := by simpa using ha
  have hb' : b < l.length := by simpa using hb
  rw [List.getElem_set, List.getElem_set]
  by_cases h1 : i = a
  · rw [if_pos h1, if_neg (by omega)]
    have := hz b hb' (by omega)
    rw [getDG hb'] at this
    exact fun e => this e.symm
  · rw [if_neg h1]
    by_cases h2 : i = b
    · rw [if_pos h2]
      have := hz a ha' (by omega)
      rw [getDG ha'] at this
      exact this
    · rw [if_neg h2]
      exact h a b ha' hb' hab

theorem pool_get {k : Nat} (h : k < 10) : poolL.getD k default ∈ poolL := by
  rw [getDG (show k < poolL.length from h)]; exact List.getElem_mem _

theorem freeN_lt (now : List ByteArray) (s : Int) (n0 : Nat) : freeN now s n0 < 10 := Nat.mod_lt _ (by omega)

theorem mkI_step {x : Cnc} (hl6 : 2 ≤ x.names.length ∧ x.names.length ≤ 6) {n : Nat} {s : MkS} (h : MkI x n s) {v : C3} (hv : v.Ok) : MkI x (n + 1) (mkStep s v) := by
  have hok2 := mkStep_ok h.ok hv
  have hL := h.ok.now
  have hne : ¬ (s.now.length : Int) = 0 := by omega
  have k0 := Int.emod_nonneg v.b hne
  have k1 := Int.emod_lt_of_pos v.b (show (0 : Int) < s.now.length by omega)
  obtain ⟨_, f2, _⟩ := freeJ_spec (show s.now.length ≤ 6 by omega) (v.b % s.now.length) (v.c % 10).toNat
  have hpg := pool_get (freeN_lt s.now (v.b % s.now.length) (v.c % 10).toNat)
  have hch := h.ok.ch
  have hall := h.ok.all
  have ha := hv.a
  simp only [B8] at ha
  have hat := h.ok.at'
  have e1 : (mkStep s v).ch = s.ch ++ [⟨s.at' + (1 + v.a % 140), v.b % s.now.length, poolL.getD (freeN s.now (v.b % s.now.length) (v.c % 10).toNat) default⟩] := rfl
  have e2 : (mkStep s v).now = s.now.set (v.b % s.now.length).toNat (poolL.getD (freeN s.now (v.b % s.now.length) (v.c % 10).toNat) default) := rfl
  have e3 : (mkStep s v).hours = s.hours ++ [s.at' + (1 + v.a % 140)] := rfl
  have e4 : (mkStep s v).all = s.all ++ [(mkStep s v).now] := rfl
  have e5 : (mkStep s v).at' = s.at' + (1 + v.a % 140) := rfl
  generalize mkStep s v = s2 at *
  generalize poolL.getD (freeN s.now (v.b % s.now.length) (v.c % 10).toNat) default = z at *
  generalize v.b % s.now.length = st at *
  have hap : s2.now = applyC s2.ch x.names := by rw [e1, applyC_snoc, ← h.now, e2]
  have hnd : s2.now.Nodup := by
    rw [e2]
    refine set_nodup h.nodup fun j hj hne2 e => ?_
    rw [takenB, List.any_eq_false] at f2
    have := f2 j (List.mem_range.2 hj)
    rw [Bool.and_eq_true, Bool.not_eq_true', decide_eq_false_iff_not, decide_eq_true_eq] at this
    exact this ⟨by omega, e⟩
  refine ⟨hok2, ?_, hap, fun i hi => ?_, ?_, fun c hc => ?_, fun c hc => ?_, fun c hc => ?_, fun y hy => ?_, hnd, fun l hl => ?_⟩
  · rw [e3, e1, h.hours]; simp
  · rcases Nat.lt_or_ge i (n + 1) with h1 | h1
    · rw [e4, List.getD_eq_getElem?_getD, List.getElem?_append_left (by omega), ← List.getD_eq_getElem?_getD, h.all i (by omega), e1, List.take_append_of_le_length (by omega)]
    · have : i = n + 1 := by omega
      subst this
      rw [e4, List.getD_eq_getElem?_getD, List.getElem?_append_right (by omega), hall, Nat.sub_self, List.take_of_length_le (by rw [e1]; simp [hch]), ← hap]; rfl
  · rw [e1, List.pairwise_append]
    refine ⟨h.asc, List.pairwise_singleton _ _, fun a ha2 b hb => ?_⟩
    rw [List.mem_singleton.1 hb]
    have := (h.top a ha2).2
    show a.at' < s.at' + (1 + v.a % 140)
    omega
  · rw [e1] at hc
    rcases List.mem_append.1 hc with hc | hc
    · have := h.top c hc; omega
    · rw [List.mem_singleton.1 hc]
      show 1 ≤ s.at' + (1 + v.a % 140) ∧ s.at' + (1 + v.a % 140) ≤ s2.at'
      omega
  · rw [e1] at hc
    rcases List.mem_append.1 hc with hc | hc
    · exact h.sts c hc
    · rw [List.mem_singleton.1 hc]
      show 0 ≤ st ∧ st < (x.names.length : Int)
      omega
  · rw [e1] at hc
    rcases List.mem_append.1 hc with hc | hc
    · exact h.nms c hc
    · rw [List.mem_singleton.1 hc]; exact hpg
  · rw [e2] at hy
    rcases List.mem_or_eq_of_mem_set hy with hy | hy
    · exact h.pool y hy
    · rw [hy]; exact hpg
  · rw [e4] at hl
    rcases List.mem_append.1 hl with hl | hl
    · exact h.alln l hl
    · rw [List.mem_singleton.1 hl]; exact ⟨hnd, hok2.now⟩

theorem mkI_all (x : Cnc) (hx : x.Ok) : ∀ n, n ≤ x.cs.length → MkI x n (x.mkN n)
  | 0, _ => by
    obtain ⟨K, _, hKn, hK1, hK2⟩ := names_K x hx
    have hnd : x.names.Nodup := by rw [hKn]; exact pool_nodup.sublist (List.take_sublist _ _)
    refine ⟨mkN_ok x hx 0 (Nat.zero_le _), rfl, rfl, fun i hi => ?_, List.Pairwise.nil, (fun c hc => by cases hc), (fun c hc => by cases hc), (fun c hc => by cases hc), fun z hz => ?_, hnd, fun l hl => ?_⟩
    · have : i = 0 := by omega
      subst this; rfl
    · have hz' : z ∈ x.names := hz
      rw [hKn] at hz'; exact List.mem_of_mem_take hz'
    · have hl' : l ∈ [x.names] := hl
      rw [List.mem_singleton.1 hl']; exact ⟨hnd, rfl⟩
  | n + 1, h => by
    have hKl : 2 ≤ x.names.length ∧ x.names.length ≤ 6 := by
      obtain ⟨K, _, hKn, hK1, hK2⟩ := names_K x hx
      rw [hKn, poolL_take (by omega)]; exact ⟨hK1, hK2⟩
    rw [x.mkN_succ (show n < x.cs.length by omega)]
    exact mkI_step hKl (mkI_all x hx n (by omega)) (hx.cs _ (List.getElem_mem _))
end Go.Aw
end

section
set_option maxRecDepth 100000
namespace Go.Aw
open Go Go.Proofs.Tryz

theorem chg_ext : ∀ {l m : List Chg}, (l.Pairwise fun a b => a.at' < b.at') → (m.Pairwise fun a b => a.at' < b.at') → (∀ x, x ∈ l ↔ x ∈ m) → l = m
  | [], [], _, _, _ => rfl
  | [], y :: m, _, _, h => by have := (h y).2 (by simp); cases this
  | x :: l, [], _, _, h => by have := (h x).1 (by simp); cases this
  | x :: l, y :: m, h1, h2, h => by
    obtain ⟨a1, a2⟩ := List.pairwise_cons.1 h1
    obtain ⟨b1, b2⟩ := List.pairwise_cons.1 h2
    have hxy : x = y := by
      have hx := (h x).1 (by simp)
      have hy := (h y).2 (by simp)
      rcases List.mem_cons.1 hx with e | hx
      · exact e
      · rcases List.mem_cons.1 hy with e | hy
        · exact e.symm
        · have := b1 x hx; have := a1 y hy; omega
    subst hxy
    rw [chg_ext a2 b2 fun z => ?_]
    constructor
    · intro hz
      rcases List.mem_cons.1 ((h z).1 (List.mem_cons_of_mem _ hz)) with e | hz'
      · rw [e] at hz; have := a1 x hz; omega
      · exact hz'
    · intro hz
      rcases List.mem_cons.1 ((h z).2 (List.mem_cons_of_mem _ hz)) with e | hz'
      · rw [e] at hz; have := b1 x hz; omega
      · exact hz'

theorem asc_inj {l : List Chg} (h : l.Pairwise fun a b => a.at' < b.at') {a b : Chg} (ha : a ∈ l) (hb : b ∈ l) (e : a.at' = b.at') : a = b := by
  obtain ⟨i, hi, rfl⟩ := List.getElem_of_mem ha
  obtain ⟨j, hj, rfl⟩ := List.getElem_of_mem hb
  rw [List.pairwise_iff_getElem] at h
  rcases Nat.lt_trichotomy i j with h1 | h1 | h1
  · have := h i j hi hj h1; omega
  · subst h1; rfl
  · have := h j i hj hi h1; omega

theorem asc_nodup {l : List Chg} (h : l.Pairwise fun a b => a.at' < b.at') : l.Nodup := h.imp fun h e => by rw [e] at h; exact Int.lt_irrefl _ h

theorem sort_asc {l m : List Chg} (hl : l.Pairwise fun a b => a.at' < b.at') (hm : m.Nodup) (h : ∀ x, x ∈ m ↔ x ∈ l) : sortG ltC m = l := by
  refine chg_ext ?_ hl fun x => by rw [sortG_mem, h]
  have h1 := sortG_sorted ltC_ok m
  have h2 := sortG_nodup ltC m hm
  rw [SortedG, List.pairwise_iff_getElem] at h1
  rw [List.Nodup, List.pairwise_iff_getElem] at h2
  rw [List.pairwise_iff_getElem]
  intro i j hi hj hij
  have a1 := h1 i j hi hj hij
  have a2 := h2 i j hi hj hij
  simp only [ltC, decide_eq_false_iff_not] at a1
  rcases Int.lt_or_le (sortG ltC m)[i].at' (sortG ltC m)[j].at' with h3 | h3
  · exact h3
  · exact absurd (asc_inj hl ((h _).1 (sortG_mem.1 (List.getElem_mem hi))) ((h _).1 (sortG_mem.1 (List.getElem_mem hj))) (by omega)) a2

theorem filt_take (h : Int) : ∀ {l : List Chg}, (l.Pairwise fun a b => a.at' < b.at') → ∃ m, m ≤ l.length ∧ l.filter (fun c => decide (c.at' ≤ h)) = l.take m
  | [], _ => ⟨0, Nat.le_refl _, rfl⟩
  | x :: l, hp => by
    obtain ⟨a1, a2⟩ := List.pairwise_cons.1 hp
    by_cases hx : x.at' ≤ h
    · obtain ⟨m, hm, e⟩ := filt_take h a2
      exact ⟨m + 1, by simpa using hm, by rw [List.filter_cons, if_pos (decide_eq_true hx), e]; rfl⟩
    · refine ⟨0, Nat.zero_le _, ?_⟩
      rw [List.filter_eq_nil_iff.2]
      · rfl
      · intro c hc
        rw [decide_eq_true_eq]
        rcases List.mem_cons.1 hc with rfl | hc
        · exact hx
        · have := a1 c hc; omega

theorem twins_nodup {l : List ByteArray} (h : l.Nodup) : twinsP l = [] := by
  rw [twinsP, List.filter_eq_nil_iff]
  intro i hi
  have hi' : i < l.length := by simpa using hi
  rw [decide_eq_true_eq, count_two l i hi']
  rintro ⟨o, ho, hne, e⟩
  rw [List.Nodup, List.pairwise_iff_getElem] at h
  rw [getDG ho, getDG hi'] at e
  rcases Nat.lt_or_gt_of_ne hne with h1 | h1
  · exact h o i ho hi' h1 e
  · exact h i o hi' ho h1 e.symm

theorem pool_nm : ∀ z ∈ poolL, nm z = true := by decide +kernel

theorem mkI_z (x : Cnc) (hx : x.Ok) : MkI x (min x.cs.length 7) x.mkZ := mkI_all x hx _ (Nat.min_le_left _ _)

theorem names_l (x : Cnc) (hx : x.Ok) : (2 ≤ x.names.length ∧ x.names.length ≤ 6) ∧ x.names.Nodup ∧ ∀ z ∈ x.names, z ∈ poolL := by
  obtain ⟨K, _, hKn, hK1, hK2⟩ := names_K x hx
  rw [hKn, poolL_take (by omega)]
  exact ⟨⟨hK1, hK2⟩, pool_nodup.sublist (List.take_sublist _ _), fun z hz => List.mem_of_mem_take hz⟩

theorem turned_perm (x : Cnc) : x.turned.Perm x.mkZ.ch := by
  rw [Cnc.turned]
  exact List.perm_append_comm.trans (by rw [List.take_append_drop])

theorem town_ok (x : Cnc) (hx : x.Ok) : x.town.Ok := by
  have hI := mkI_z x hx
  obtain ⟨hl, hnd, hpl⟩ := names_l x hx
  have hp := turned_perm x
  have hch := hI.ok.ch
  refine ⟨⟨by show 1 ≤ x.names.length; omega, hl.2⟩, fun z hz => pool_nm z (hpl z hz), twins_nodup hnd, ?_, fun c hc => ?_⟩
  · show x.turned.length ≤ 8
    rw [hp.length_eq, hch]; omega
  · have hc' : c ∈ x.mkZ.ch := hp.mem_iff.1 hc
    have h1 := hI.top c hc'
    have h2 := hI.sts c hc'
    have h3 := hI.nms c hc'
    have h4 := hI.ok.at'
    show chgOk x.names.length c = true
    rw [chgOk, pool_nm _ h3, decide_eq_true (show 1 ≤ c.at' ∧ c.at' ≤ 1000 by omega), decide_eq_true h2]; rfl

theorem town_names (x : Cnc) (hx : x.Ok) (h : Int) : namesT x.town h = applyC (x.mkZ.ch.filter fun c => decide (c.at' ≤ h)) x.names := by
  have hI := mkI_z x hx
  have hp := turned_perm x
  rw [namesT_eq (town_ok x hx)]
  show applyC ((sortG ltC x.turned).filter _) x.names = _
  rw [sort_asc hI.asc (hp.nodup_iff.2 (asc_nodup hI.asc)) fun c => hp.mem_iff]

theorem town_nodup (x : Cnc) (hx : x.Ok) (h : Int) : (namesT x.town h).Nodup := by
  have hI := mkI_z x hx
  rw [town_names x hx]
  obtain ⟨m, hm, e⟩ := filt_take h hI.asc
  rw [e, ← hI.all m (by rw [← hI.ok.ch]; exact hm)]
  have hml : m < x.mkZ.all.length := by rw [hI.ok.all, ← hI.ok.ch]; omega
  rw [getDG hml]
  exact (hI.alln _ (List.getElem_mem hml)).1

/-- How a street is called: by the program and by the hours and names. -/
theorem called_made (x : Cnc) (hx : x.Ok) {s : Nat} (hs : s < x.names.length) {h : Int} (h0 : 0 ≤ h) : calledT x.town s h = calledH x.mkZ.hours x.mkZ.all s h x.mkZ.hours.length := by
  have hI := mkI_z x hx
  have hcl := hI.ok.ch
  have key : ∀ n, n ≤ x.mkZ.ch.length → calledH x.mkZ.hours x.mkZ.all s h (n + 1) = (applyC ((x.mkZ.ch.take n).filter fun c => decide (c.at' ≤ h)) x.names).getD s default := by
    intro n
    induction n with
    | zero =>
      intro _
      rw [calledH_succ, hI.all 0 (Nat.zero_le _), hI.hours]
      rw [if_pos (show (0 :: x.mkZ.ch.map (·.at')).getD 0 default ≤ h from h0)]
      rfl
    | succ n ih =>
      intro hn
      have hnl : n < x.mkZ.ch.length := by omega
      have hh : x.mkZ.hours.getD (n + 1) default = x.mkZ.ch[n].at' := by
        rw [hI.hours, List.getD_eq_getElem?_getD, List.getElem?_cons_succ, List.getElem?_map, List.getElem?_eq_getElem hnl]; rfl
      rw [calledH_succ, ih (by omega), hh, hI.all (n + 1) (by omega), List.take_succ_eq_append_getElem hnl, List.filter_append]
      by_cases hc : x.mkZ.ch[n].at' ≤ h
      · rw [if_pos hc, List.filter_cons, if_pos (decide_eq_true hc), List.filter_nil, List.filter_eq_self.2]
        intro c hcm
        obtain ⟨i, hi, e⟩ := List.getElem_of_mem hcm
        have hi' : i < n := by rw [List.length_take] at hi; omega
        rw [List.getElem_take] at e
        have := List.pairwise_iff_getElem.1 hI.asc i n (by omega) hnl hi'
        rw [e] at this
        exact decide_eq_true (by omega)
      · rw [if_neg hc, List.filter_cons, if_neg (by simpa using hc), List.filter_nil, List.append_nil]
  have h1 := key x.mkZ.ch.length (Nat.le_refl _)
  rw [List.take_length, ← town_names x hx, namesT_get (t := x.town) hs] at h1
  rw [hI.ok.hours, ← hcl]
  exact h1.symm
end Go.Aw
end

section
set_option maxRecDepth 100000
namespace Go.Aw
open Go Go.Proofs

theorem has_u8 {f : Nat} {y : D} (h : HasT Tryz.prog (f + 1) 5 y) : ∃ n, y = .int .u8 n ∧ B8 n := by
  unfold HasT at h
  rw [Tryz.underlying5] at h
  obtain ⟨n, rfl, h⟩ := h
  refine ⟨n, rfl, ?_⟩
  simp [Lit.wf, IntKind.min, IntKind.max, IntKind.bits, IntKind.signed] at h
  simp only [B8]; omega

theorem has_c3 {f : Nat} {y : D} (h : HasT Tryz.prog (f + 3) 115 y) : ∃ s : C3, y = s.d ∧ s.Ok := by
  unfold HasT at h
  rw [Tryz.underlying115] at h
  obtain ⟨l, rfl, h⟩ := h
  simp only [HasN] at h
  obtain ⟨y1, r1, rfl, h1, y2, r2, rfl, h2, y3, r3, rfl, h3, rfl⟩ := h
  obtain ⟨n1, rfl, b1⟩ := has_u8 h1
  obtain ⟨n2, rfl, b2⟩ := has_u8 h2
  obtain ⟨n3, rfl, b3⟩ := has_u8 h3
  exact ⟨⟨n1, n2, n3⟩, rfl, ⟨b1, b2, b3⟩⟩

theorem has_c3s {f : Nat} {y : D} (h : HasT Tryz.prog (f + 4) 101 y) : ∃ l : List C3, y = .sl (l.map C3.d) ∧ ∀ p ∈ l, p.Ok := by
  unfold HasT at h
  rw [Tryz.underlying101] at h
  obtain ⟨l, rfl, _, hl⟩ := h
  obtain ⟨ss, rfl⟩ := has_list (enc := fun n : {n : C3 // n.Ok} => n.1.d) (fun y hy => by obtain ⟨n, rfl, hn⟩ := has_c3 hy; exact ⟨⟨n, hn⟩, rfl⟩) l hl
  refine ⟨ss.map Subtype.val, by simp, fun n hn => ?_⟩
  obtain ⟨x, _, rfl⟩ := List.mem_map.1 hn
  exact x.2

theorem has_council {f : Nat} {y : D} (h : HasT Tryz.prog (f + 5) 103 y) : ∃ x : Cnc, y = x.d ∧ x.Ok := by
  unfold HasT at h
  rw [Tryz.underlying103] at h
  obtain ⟨l, rfl, h⟩ := h
  simp only [HasFs] at h
  obtain ⟨y1, r1, rfl, h1, y2, r2, rfl, h2, y3, r3, rfl, h3, rfl⟩ := h
  obtain ⟨n1, rfl, b1⟩ := has_u8 h1
  obtain ⟨l2, rfl, b2⟩ := has_c3s h2
  obtain ⟨n3, rfl, b3⟩ := has_u8 h3
  exact ⟨⟨n1, l2, n3⟩, rfl, ⟨b1, b2, b3⟩⟩
end Go.Aw
end

section
set_option maxRecDepth 100000
namespace Go.Aw
open Go Go.Proofs.Tryz

def Cnc.bad (x : Cnc) (c : Chg) : Town := ⟨x.names, x.turned ++ [c]⟩

theorem bad_called (x : Cnc) (c : Chg) (s : Nat) (h : Int) : calledT (x.bad c) s h = if c.st = (s : Int) ∧ c.at' ≤ h ∧ (callP x.turned (x.names.getD s default) s h).2 ≤ c.at' then c.name else calledT x.town s h := by
  rw [calledT, calledT]
  show (callP (x.turned ++ [c]) (x.names.getD s default) s h).1 = _
  rw [callP, List.foldl_append]
  show (if c.st = (s : Int) ∧ c.at' ≤ h ∧ (callP x.turned (x.names.getD s default) s h).2 ≤ c.at' then (c.name, c.at') else callP x.turned (x.names.getD s default) s h).1 = _
  split <;> rfl

theorem callP_le (s : Nat) (h : Int) (h0 : 0 ≤ h) (z : ByteArray) : ∀ l : List Chg, (callP l z s h).2 ≤ h := fun l => by
  induction l using snoc_ind with
  | h0 => exact h0
  | h1 l c ih =>
    rw [callP, List.foldl_append]
    show (if c.st = (s : Int) ∧ c.at' ≤ h ∧ (callP l z s h).2 ≤ c.at' then (c.name, c.at') else callP l z s h).2 ≤ h
    split
    · rename_i hc; exact hc.2.1
    · exact ih

theorem bad_before (x : Cnc) (c : Chg) {h : Int} (hh : h < c.at') : namesT (x.bad c) h = namesT x.town h := by
  refine List.map_congr_left fun s _ => ?_
  rw [bad_called, if_neg (fun e => by omega)]

theorem at_len (x : Cnc) (hx : x.Ok) (h : Int) (p : Chg → Bool) (hp : ∀ c, p c = true → c.at' = h) : (x.turned.filter p).length ≤ 1 := by
  have hI := mkI_z x hx
  rw [((turned_perm x).filter _).length_eq]
  have hpw := hI.asc.filter p
  have hmem : ∀ c ∈ x.mkZ.ch.filter p, c.at' = h := fun c hc => hp c (List.mem_filter.1 hc).2
  generalize x.mkZ.ch.filter p = F at *
  match F, hpw, hmem with
  | [], _, _ => simp
  | [a], _, _ => simp
  | a :: b :: r, hpw, hmem =>
    have h1 := (List.pairwise_cons.1 hpw).1 b (by simp)
    have h2 := hmem a (by simp)
    have h3 := hmem b (by simp)
    omega

theorem bad_ok (x : Cnc) (hx : x.Ok) {c : Chg} (h1 : 1 ≤ c.at' ∧ c.at' ≤ 1000) (h2 : 0 ≤ c.st ∧ c.st < x.names.length) (h3 : nm c.name = true) : (x.bad c).Ok := by
  have ht := town_ok x hx
  have hI := mkI_z x hx
  refine ⟨ht.len, ht.nms, ht.one, ?_, fun d hd => ?_⟩
  · show (x.turned ++ [c]).length ≤ 8
    rw [List.length_append, (turned_perm x).length_eq, hI.ok.ch, List.length_singleton]; omega
  · rcases List.mem_append.1 hd with hd | hd
    · exact ht.chs d hd
    · rw [List.mem_singleton.1 hd]
      show chgOk x.names.length c = true
      rw [chgOk, h3, decide_eq_true h1, decide_eq_true h2]; rfl

theorem bad_clean (x : Cnc) (hx : x.Ok) {c : Chg} {h : Int} (hh : h < c.at') : clashT (x.bad c) h = [] := by
  have ht : twiceT (x.bad c) h = [] := by
    rw [twiceT, List.filter_eq_nil_iff]
    intro s _
    rw [decide_eq_true_eq, Nat.not_lt]
    show ((x.turned ++ [c]).filter _).length ≤ 1
    rw [List.filter_append, List.length_append, List.filter_cons, if_neg (by simp only [decide_eq_true_eq]; omega), List.filter_nil, List.length_nil, Nat.add_zero]
    exact at_len x hx h _ fun c hc => (of_decide_eq_true hc).1
  rw [clashT, ht, if_neg (by simp), alikeT_eq, bad_before x c hh, twins_nodup (town_nodup x hx h)]

/-- What Clash answers of a town that is bad in an hour for the first time. -/
theorem bad_clash (x : Cnc) (hx : x.Ok) {c : Chg} (hok : (x.bad c).Ok) (h1 : 1 ≤ c.at' ∧ c.at' ≤ 1000) (hne : clashT (x.bad c) c.at' ≠ []) : clashP (x.bad c) = (c.at', natI (clashT (x.bad c) c.at'), 0) ∧ openE (x.bad c) = 9 := by
  have hc := checkT_iff.2 hok
  rcases nbT_spec hok with ⟨k, hk, e, hne2, hb⟩ | ⟨_, h3, _⟩
  · have hkc : k = c.at' := by
      rcases Int.lt_trichotomy k c.at' with hh | hh | hh
      · exact absurd (bad_clean x hx hh) hne2
      · exact hh
      · exact absurd (hb _ h1.1 hh) hne
    subst hkc
    have hn : ¬ (nbT (x.bad c)).2.2 = [] := by rw [e]; exact fun e => hne2 (List.map_eq_nil_iff.1 e)
    refine ⟨?_, ?_⟩
    · rw [clashP, if_neg (by rw [hc]; simp), if_neg hn, e]
    · rw [openE, if_neg (by rw [hc]; simp), if_pos hn]
  · exact absurd (h3 _ h1.1) hne

theorem filt_one {n s : Nat} (hs : s < n) (p : Nat → Bool) (hp : ∀ i, i < n → (p i = true ↔ i = s)) : (List.range n).filter p = [s] := by
  refine ascN_ext (List.pairwise_lt_range.filter _) (List.pairwise_singleton _ _) fun i => ?_
  rw [List.mem_filter, List.mem_range, List.mem_singleton]
  exact ⟨fun h => (hp i h.1).1 h.2, fun h => by subst h; exact ⟨hs, (hp i hs).2 rfl⟩⟩

theorem filt_two {n s o : Nat} (hs : s < n) (ho : o < n) (hne : s ≠ o) (p : Nat → Bool) (hp : ∀ i, i < n → (p i = true ↔ i = s ∨ i = o)) : (List.range n).filter p = [min s o, max s o] := by
  refine ascN_ext (List.pairwise_lt_range.filter _) ?_ fun i => ?_
  · refine List.pairwise_cons.2 ⟨fun a ha => ?_, List.pairwise_singleton _ _⟩
    rw [List.mem_singleton.1 ha]; omega
  · rw [List.mem_filter, List.mem_range, List.mem_cons, List.mem_singleton]
    constructor
    · intro h
      rcases (hp i h.1).1 h.2 with e | e <;> subst e <;> omega
    · intro h
      have h1 : i = s ∨ i = o := by omega
      exact ⟨by omega, (hp i (by omega)).2 h1⟩

/-- A street with two changes in an hour. -/
theorem twice_A (x : Cnc) (hx : x.Ok) {c : Chg} (hc : c ∈ x.turned) {z : ByteArray} : clashT (x.bad ⟨c.at', c.st, z⟩) c.at' = [c.st.toNat] := by
  have hI := mkI_z x hx
  have hst := hI.sts c ((turned_perm x).mem_iff.1 hc)
  have ht : twiceT (x.bad ⟨c.at', c.st, z⟩) c.at' = [c.st.toNat] := by
    rw [twiceT]
    refine filt_one (show c.st.toNat < x.names.length by omega) _ fun s hs => ?_
    rw [decide_eq_true_eq]
    show 1 < ((x.turned ++ [(⟨c.at', c.st, z⟩ : Chg)]).filter _).length ↔ _
    rw [List.filter_append, List.length_append, List.filter_cons, List.filter_nil]
    have hle := at_len x hx c.at' (fun d => decide (d.at' = c.at' ∧ d.st = (s : Int))) fun d hd => (of_decide_eq_true hd).1
    by_cases e : c.st = (s : Int)
    · have hpos : 0 < (x.turned.filter fun d => decide (d.at' = c.at' ∧ d.st = (s : Int))).length := List.length_pos_iff.2 fun h => by
        have : c ∈ x.turned.filter fun d => decide (d.at' = c.at' ∧ d.st = (s : Int)) := List.mem_filter.2 ⟨hc, decide_eq_true (show c.at' = c.at' ∧ c.st = (s : Int) from ⟨rfl, e⟩)⟩
        rw [h] at this; cases this
      rw [if_pos (show decide ((⟨c.at', c.st, z⟩ : Chg).at' = c.at' ∧ (⟨c.at', c.st, z⟩ : Chg).st = (s : Int)) = true from decide_eq_true ⟨rfl, e⟩)]
      simp only [List.length_cons, List.length_nil]
      omega
    · rw [if_neg (by simp only [decide_eq_true_eq]; exact fun h => e h.2)]
      simp only [List.length_nil]
      omega
  rw [clashT, ht, if_pos (by simp)]

/-- A street that takes the name of another one. -/
theorem twice_B (x : Cnc) (hx : x.Ok) {c : Chg} {o : Nat} (h1 : 1 ≤ c.at') (h2 : 0 ≤ c.st ∧ c.st < x.names.length) (ho : o < x.names.length) (hne : c.st.toNat ≠ o) (hno : ∀ d ∈ x.turned, ¬ (d.at' = c.at' ∧ d.st = c.st)) (hz : c.name = calledT x.town o c.at') :
    clashT (x.bad c) c.at' = [min c.st.toNat o, max c.st.toNat o] := by
  have ht : twiceT (x.bad c) c.at' = [] := by
    rw [twiceT, List.filter_eq_nil_iff]
    intro s _
    rw [decide_eq_true_eq, Nat.not_lt]
    show ((x.turned ++ [c]).filter _).length ≤ 1
    rw [List.filter_append, List.length_append, List.filter_cons, List.filter_nil]
    have hle := at_len x hx c.at' (fun d => decide (d.at' = c.at' ∧ d.st = (s : Int))) fun d hd => (of_decide_eq_true hd).1
    by_cases e : c.st = (s : Int)
    · have h0 : x.turned.filter (fun d => decide (d.at' = c.at' ∧ d.st = (s : Int))) = [] := List.filter_eq_nil_iff.2 fun d hd => by
        rw [decide_eq_true_eq, ← e]; exact hno d hd
      rw [h0]; split <;> simp
    · rw [if_neg (by simp only [decide_eq_true_eq]; exact fun h => e h.2)]
      simp only [List.length_nil]; omega
  have hnd := town_nodup x hx c.at'
  have hcal : ∀ i, i < x.names.length → calledT (x.bad c) i c.at' = if i = c.st.toNat then c.name else calledT x.town i c.at' := fun i hi => by
    rw [bad_called]
    by_cases e : i = c.st.toNat
    · rw [if_pos e, if_pos ⟨by omega, Int.le_refl _, callP_le i c.at' (by omega) _ _⟩]
    · rw [if_neg e, if_neg (fun h => e (by omega))]
  have hinj : ∀ i j, i < x.names.length → j < x.names.length → calledT x.town i c.at' = calledT x.town j c.at' → i = j := fun i j hi hj e => by
    rw [List.Nodup, List.pairwise_iff_getElem] at hnd
    have li : i < (namesT x.town c.at').length := by rw [namesT_len]; exact hi
    have lj : j < (namesT x.town c.at').length := by rw [namesT_len]; exact hj
    have gi := namesT_get (t := x.town) hi c.at'
    have gj := namesT_get (t := x.town) hj c.at'
    rw [getDG li] at gi
    rw [getDG lj] at gj
    rcases Nat.lt_trichotomy i j with h | h | h
    · exact absurd (gi.trans (e.trans gj.symm)) (hnd i j li lj h)
    · exact h
    · exact absurd (gj.trans (e.symm.trans gi.symm)) (hnd j i lj li h)
  rw [clashT, ht, if_neg (by simp), alikeT_eq, twinsP, namesT_len]
  refine filt_two (show c.st.toNat < x.names.length by omega) ho hne _ fun i hi => ?_
  rw [decide_eq_true_eq, count_two _ i (by rw [namesT_len]; exact hi), namesT_len]
  have hNi := namesT_get (t := x.bad c) (s := i) hi c.at'
  rw [hNi, hcal i hi]
  constructor
  · rintro ⟨j, hj, hji, e⟩
    rw [namesT_get (t := x.bad c) hj, hcal j hj] at e
    by_cases e1 : i = c.st.toNat
    · exact .inl e1
    · rw [if_neg e1] at e
      by_cases e2 : j = c.st.toNat
      · rw [if_pos e2, hz] at e
        exact .inr (hinj o i ho hi e).symm
      · rw [if_neg e2] at e
        exact absurd (hinj j i hj hi e) hji
  · rintro (e | e)
    · refine ⟨o, ho, by omega, ?_⟩
      rw [namesT_get (t := x.bad c) ho, hcal o ho, if_neg (fun h => hne h.symm), if_pos e, hz]
    · refine ⟨c.st.toNat, by show c.st.toNat < x.names.length; omega, by omega, ?_⟩
      rw [namesT_get (t := x.bad c) (show c.st.toNat < x.names.length by omega), hcal _ (by omega), if_pos rfl, if_neg (by omega), e, hz]
end Go.Aw
end

section
set_option maxRecDepth 100000
namespace Go.Aw
open Go Go.Proofs.Tryz

theorem c54r (t : Town) (h1 : t.first.length ≤ 1000) (h2 : t.ch.length ≤ 1000) : PCr prog 54 [.d t.d] [townB t, .cells [.d (.sl (t.first.map .str)), .ref 2 t.ch.length 0 t.ch.length], .arr 3 false (t.ch.map Chg.d)] (.agg [.d (.sl (t.first.map .str)), .ref 2 t.ch.length 0 t.ch.length]) := by
  refine PCr.of_body tt_ok (fn := f54) (rs := [.cell 2 25]) 3 rfl rfl rfl rfl rfl rfl ?_
  refine AWP.run (fun k => k == 9) tt_ok (fun _ h => nomatch h) (Nat.zero_le _) rfl ?_
  have c56a := c56 t.first h1
  have s2 := sized_chg t.ch
  have l2 : t.ch.length ≤ 4294967296 := by omega
  simp only [go_sem, Town.d]
  refine ADrw.treeG (fun k => k == 9) tt_ok (by kernel_rfl) (fun k => if k = 1 ∨ k = 5 then some .L else if k = 6 ∨ k = 8 then some .W else some .S) (.ones [0, 1, 2, 3, 4, 5, 6, 7, 8] .done) (Nat.zero_le _) (fun _ h => nomatch h) rfl rfl (by kernel_rfl) ?_
  simp only [go_sem]
  refine c56a.callS rfl rfl rfl rfl rfl rfl ?_
  simp only [go_sem, s2, l2, List.length_map, show sized 3 [] = true from rfl, townB]

theorem c54h {H : Heap} {id : Nat} {first : List ByteArray} {ch : List Chg} (hid : H[id]? = some (.arr 3 false (ch.map Chg.d))) (hB : BBs H.length H) (h1 : first.length ≤ 1000) (h2 : ch.length ≤ 1000) {Q : V → Heap → Prop} (hq : Q (.d (Town.d ⟨first, ch⟩)) H) :
    ACalls prog 54 [.agg [.d (.sl (first.map .str)), .ref id ch.length 0 ch.length]] H Q := by
  refine ACalls.run (fun _ => false) tt_ok (fn := f54) (rs := [.cell 2 25]) rfl rfl rfl rfl rfl rfl rfl ?_
  have hil := lt_of_getElem? hid
  have hg : ∀ Y : Heap, (H ++ Y)[id]? = some (.arr 3 false (ch.map Chg.d)) := fun Y => get_app hid Y
  have c56a := c56 first h1
  have s2 := sized_chg ch
  have l2 : ch.length ≤ 4294967296 := by omega
  have htk : List.take ch.length (ch.map Chg.d) = ch.map Chg.d := List.take_of_length_le (by simp)
  simp only [go_sem, List.append_assoc, List.cons_append, List.nil_append, List.length_append, List.length_cons, List.length_nil]
  refine ADrw.treeG (fun _ => false) tt_ok (by kernel_rfl) (fun k => if k = 1 ∨ k = 5 ∨ k = 6 then some .L else if k = 8 then some .W else some .S) (.ones [0, 1, 2, 3, 4, 5, 6, 7, 8] .done) (by simp) (fun _ h => nomatch h) rfl rfl (by kernel_rfl) ?_
  simp only [go_sem, ap0, ap1]
  refine c56a.callS rfl rfl rfl rfl rfl rfl ?_
  simp only [go_sem, ap0, ap1, hg, s2, l2, List.length_map, htk, show sized 3 [] = true from rfl, as0, as1]
  exact ⟨.inr (by simpa using hB), by simpa [Town.d] using hq⟩
end Go.Aw
end

section
set_option maxRecDepth 100000
namespace Go.Aw
open Go Go.Proofs.Tryz

def c3B (v : C3) : Blk := .cells [.d (.int .u8 v.a), .d (.int .u8 v.b), .d (.int .u8 v.c)]
def e13a (x : Cnc) : Env := [(8, .ptr 6 0), (7, .d (.sl (x.mkZ.all.map nmsD))), (6, .d (.sl (x.mkZ.hours.map (.int .i64)))), (5, .ptr 2 0), (3, .ptr 1 0)]
def h13 (x : Cnc) (v : C3) (ch : List Chg) : Heap := [cncB x, c3B v, townB x.town, townB x.town, .cells [.d (.sl (x.names.map .str)), .ref 5 x.turned.length 0 x.turned.length], .arr 3 false (ch.map Chg.d), .cells [.d (.sl (x.names.map .str)), .ref 5 ch.length 0 ch.length]]

theorem c13_a (x : Cnc) (hx : x.Ok) (v : C3)
    (hrest : AWP prog f13.ntmps 0 none (restC 4 (bodyOf f13)) (e13a x) (h13 x v x.turned) (post1 4)) :
    PC prog 13 [.d x.d, .d v.d] (.d (.bool true)) := by
  refine PC.of_body tt_ok (fn := f13) (c := bodyOf f13) (rs := [.tmp 4]) rfl rfl rfl rfl rfl rfl ?_
  have hxd : x.d = .agg [.int .u8 x.st, .sl (x.cs.map C3.d), .int .u8 x.turn] := rfl
  have hvd : v.d = .agg [.int .u8 v.a, .int .u8 v.b, .int .u8 v.c] := rfl
  have c53a := c53 x hx
  have hok := town_ok x hx
  have htl : x.turned.length ≤ 8 := hok.chl
  have hnl : x.names.length ≤ 6 := hok.len.2
  have c54a := c54r x.town (by show x.names.length ≤ _; omega) (by show x.turned.length ≤ _; omega)
  have htd : x.town.d = .agg [.sl (x.names.map .str), .sl (x.turned.map Chg.d)] := rfl
  have htb : townB x.town = .cells [.d (.sl (x.names.map .str)), .d (.sl (x.turned.map Chg.d))] := rfl
  refine AWP.stepN 4 _ _ (fun _ => false) tt_ok (fun _ h => nomatch h) (Nat.zero_le _) rfl ?_ hrest
  clear hrest
  simp only [e13a, h13, cncB, c3B, htb]
  rw [hxd, htd] at c53a
  rw [htd, htb] at c54a
  have e1 : x.town.first = x.names := rfl
  have e2 : x.town.ch = x.turned := rfl
  rw [e1, e2] at c54a
  generalize x.mkZ = s at *
  simp only [go_sem, hxd, hvd]
  refine c53a.call rfl rfl rfl ?_
  simp only [go_sem]
  refine c54a.call rfl rfl rfl ?_
  simp only [go_sem, List.length_map]
  exact ForgetTo.same' (Nat.zero_le _) ⟨rfl, rfl, rfl, rfl, rfl, trivial⟩ rfl

structure BadC (x : Cnc) (p : Chg × List Int) : Prop where
  ok : (x.bad p.1).Ok
  at' : 1 ≤ p.1.at' ∧ p.1.at' ≤ 1000
  due : natI (clashT (x.bad p.1) p.1.at') = p.2
  ne : p.2 ≠ []

def e13b (p : Chg × List Int) : Env := [(10, .slx (some false) (p.2.map (.int .i64))), (9, .d (.int .i64 p.1.at')), (8, .ptr 6 0)]

theorem c13_b (x : Cnc) (hx : x.Ok) (v : C3) (hv : v.Ok)
    (hrest : ∀ p, BadC x p → AWP prog f13.ntmps 0 none (restC 1 (restC 4 (bodyOf f13))) (e13b p) (h13 x v (x.turned ++ [p.1])) (post1 4)) :
    AWP prog f13.ntmps 0 none (restC 4 (bodyOf f13)) (e13a x) (h13 x v x.turned) (post1 4) := by
  refine AWP.stepS (S := Chg × List Int) 1 e13b (fun p => h13 x v (x.turned ++ [p.1])) (BadC x) (fun _ => false) tt_ok (fun _ h => nomatch h) (Nat.zero_le _) rfl ?_ (fun p hp _ => hrest p hp)
  clear hrest
  obtain ⟨ha, hb, hc⟩ := hv
  simp only [B8] at ha hb hc
  have hok := town_ok x hx
  have hI := mkI_z x hx
  have hp := turned_perm x
  have htl : x.turned.length ≤ 8 := hok.chl
  obtain ⟨hnl, _, _⟩ := names_l x hx
  have wb : IntKind.i64.wrap v.b = v.b := w64 (by omega) (by omega)
  have wc : IntKind.i64.wrap v.c = v.c := w64 (by omega) (by omega)
  have tc : v.c.tmod 10 = v.c % 10 := Int.tmod_eq_emod_of_nonneg hc.1
  have ta : v.a.tmod 2 = v.a % 2 := Int.tmod_eq_emod_of_nonneg ha.1
  have htb : townB x.town = .cells [.d (.sl (x.names.map .str)), .d (.sl (x.turned.map Chg.d))] := rfl
  simp only [e13a, h13, cncB, c3B, htb]
  simp only [go_sem, List.length_map, ta]
  by_cases hA : v.a % 2 = 0 ∧ 0 < x.turned.length
  · have d1 : decide (v.a % 2 = 0) = true := decide_eq_true hA.1
    have d2 : decide ((0 : Int) < (x.turned.length : Int)) = true := decide_eq_true (by omega)
    have hne : ¬ (x.turned.length : Int) = 0 := by omega
    have tb : remO .i64 v.b (x.turned.length : Int) = some (.int .i64 (v.b % x.turned.length)) := by rw [remO_ne hne, Int.tmod_eq_emod_of_nonneg hb.1]
    have k0 := Int.emod_nonneg v.b hne
    have k1 := Int.emod_lt_of_pos v.b (show (0 : Int) < x.turned.length by omega)
    obtain ⟨j, hj⟩ : ∃ j : Nat, v.b % x.turned.length = (j : Int) := ⟨(v.b % x.turned.length).toNat, by omega⟩
    rw [hj] at tb k1
    have hjl : j < x.turned.length := by omega
    have hix : idx? (x.turned.map Chg.d) (j : Int) = some x.turned[j].d := by simp [idx?, List.getElem?_eq_getElem hjl]
    have hcm : x.turned[j] ∈ x.turned := List.getElem_mem hjl
    have hod : x.turned[j].d = .agg [.int .i64 x.turned[j].at', .int .i64 x.turned[j].st, .str x.turned[j].name] := rfl
    rw [hod] at hix
    have hz : (v.c % 10).toNat < 10 := by omega
    have hzp : idx? (poolL.map D.str) (v.c % 10) = some (.str (poolL.getD (v.c % 10).toNat default)) := by
      have e : v.c % 10 = (((v.c % 10).toNat : Nat) : Int) := by omega
      rw [e, idx_nat, List.getElem?_map, Int.toNat_natCast, getDG (show (v.c % 10).toNat < poolL.length from hz), List.getElem?_eq_getElem (show (v.c % 10).toNat < poolL.length from hz)]; rfl
    have hnz := pool_nm _ (pool_get hz)
    have hbc : BadC x (⟨x.turned[j].at', x.turned[j].st, poolL.getD (v.c % 10).toNat default⟩, [x.turned[j].st]) := by
      have hm := hp.mem_iff.1 hcm
      have ht1 := hI.top _ hm
      have ht2 := hI.sts _ hm
      have ht4 := hI.ok.at'
      refine ⟨bad_ok x hx ?_ ht2 hnz, ?_, ?_, by simp⟩
      · show 1 ≤ x.turned[j].at' ∧ x.turned[j].at' ≤ 1000; omega
      · show 1 ≤ x.turned[j].at' ∧ x.turned[j].at' ≤ 1000; omega
      · show natI (clashT (x.bad ⟨x.turned[j].at', x.turned[j].st, _⟩) x.turned[j].at') = _
        rw [twice_A x hx hcm, natI, List.map_singleton]
        congr 1; omega
    have c61a := c61 x.turned[j].at' x.turned[j].st (poolL.getD (v.c % 10).toNat default)
    generalize poolL.getD (v.c % 10).toNat default = z at *
    generalize x.turned[j].name = c3 at *
    generalize x.turned[j].st = c2 at *
    generalize x.turned[j].at' = c1 at *
    have sc : sized 3 [D.agg [.int .i64 c1, .int .i64 c2, .str z]] = true := rfl
    have b1 : x.turned.length + 1 ≤ 4294967296 := by omega
    have b2 : decide (x.turned.length ≤ 4294967295) = true := decide_eq_true (by omega)
    simp only [go_sem, d1, d2]
    refine ADrw.treeG (fun _ => false) tt_ok (by kernel_rfl) (fun k => if k = 1 ∨ k = 3 then some .L else if k = 10 then some .W else if k = 9 then some .A else some .S) (.ones [0, 1, 2, 3, 4, 5, 6, 7, 8, 9, 10] .done) (Nat.zero_le _) (fun _ h => nomatch h) rfl rfl (by kernel_rfl) ?_
    simp only [go_sem, wb, tb, hix]
    refine ADrw.treeG (fun _ => false) tt_ok (by kernel_rfl) (fun k => if k = 1 ∨ k = 3 then some .L else some .S) (.ones [0, 1, 2, 3, 4, 5, 6] .done) (Nat.zero_le _) (fun _ h => nomatch h) rfl rfl (by kernel_rfl) ?_
    simp only [go_sem]
    refine ADrw.treeG (fun _ => false) tt_ok (by kernel_rfl) (fun k => if k = 1 ∨ k = 3 ∨ k = 5 ∨ k = 8 then some .L else if k = 15 ∨ k = 17 then some .W else some .S) (.ones [0, 1, 2, 3, 4, 5, 6, 7, 8, 9, 10, 11, 12, 13, 14, 15, 16, 17] .done) (Nat.zero_le _) (fun _ h => nomatch h) rfl rfl (by kernel_rfl) ?_
    simp only [go_sem]
    refine c59.callS rfl rfl rfl rfl rfl rfl ?_
    simp only [go_sem, wc, tc, hzp]
    refine c61a.callS rfl rfl rfl rfl rfl rfl ?_
    simp only [go_sem, sc, List.length_map, b1, b2]
    refine ⟨(⟨c1, c2, z⟩, [c2]), hbc, ?_⟩
    simp only [e13b, List.length_append, List.length_cons, List.length_nil, Nat.zero_add, List.map_append, List.map_cons, List.map_nil]
    exact ForgetTo.drop (H0 := [_, _, _, _, _, _, _]) (Y := [_]) (Nat.zero_le _) rfl (by simp [BBs, BB, VBs, VB]) ⟨⟨rfl, rfl⟩, ⟨rfl, rfl⟩, ⟨rfl, rfl⟩, trivial⟩
  · have hneL : ¬ (x.names.length : Int) = 0 := by omega
    have hneM : ¬ ((x.names.length : Int) - 1) = 0 := by omega
    have k0 := Int.emod_nonneg v.b hneL
    have k1 := Int.emod_lt_of_pos v.b (show (0 : Int) < x.names.length by omega)
    have q0 : 0 ≤ v.b / (x.names.length : Int) := Int.ediv_nonneg hb.1 (by omega)
    have q1 : v.b / (x.names.length : Int) ≤ v.b := Int.ediv_le_self _ hb.1
    have r0 := Int.emod_nonneg (v.b / (x.names.length : Int)) hneM
    have r1 := Int.emod_lt_of_pos (v.b / (x.names.length : Int)) (show (0 : Int) < (x.names.length : Int) - 1 by omega)
    have tb : remO .i64 v.b (x.names.length : Int) = some (.int .i64 (v.b % x.names.length)) := by rw [remO_ne hneL, Int.tmod_eq_emod_of_nonneg hb.1]
    have tq : v.b.tdiv (x.names.length : Int) = v.b / (x.names.length : Int) := Int.tdiv_eq_ediv_of_nonneg hb.1
    have wq : IntKind.i64.wrap (v.b / (x.names.length : Int)) = v.b / (x.names.length : Int) := w64 (by omega) (by omega)
    have qo : quoO .i64 v.b (x.names.length : Int) = some (.int .i64 (v.b / (x.names.length : Int))) := by rw [quoO_ne hneL, tq, wq]
    have wm : IntKind.i64.wrap ((x.names.length : Int) - 1) = (x.names.length : Int) - 1 := w64 (by omega) (by omega)
    have tr : remO .i64 (v.b / (x.names.length : Int)) ((x.names.length : Int) - 1) = some (.int .i64 (v.b / (x.names.length : Int) % ((x.names.length : Int) - 1))) := by rw [remO_ne hneM, Int.tmod_eq_emod_of_nonneg q0]
    have w1 : IntKind.i64.wrap (v.b % x.names.length + 1) = v.b % x.names.length + 1 := w64 (by omega) (by omega)
    have w2 : IntKind.i64.wrap (v.b % x.names.length + 1 + v.b / (x.names.length : Int) % ((x.names.length : Int) - 1)) = v.b % x.names.length + 1 + v.b / (x.names.length : Int) % ((x.names.length : Int) - 1) := w64 (by omega) (by omega)
    have o0 := Int.emod_nonneg (v.b % x.names.length + 1 + v.b / (x.names.length : Int) % ((x.names.length : Int) - 1)) hneL
    have o1 := Int.emod_lt_of_pos (v.b % x.names.length + 1 + v.b / (x.names.length : Int) % ((x.names.length : Int) - 1)) (show (0 : Int) < x.names.length by omega)
    have to : remO .i64 (v.b % x.names.length + 1 + v.b / (x.names.length : Int) % ((x.names.length : Int) - 1)) (x.names.length : Int) = some (.int .i64 ((v.b % x.names.length + 1 + v.b / (x.names.length : Int) % ((x.names.length : Int) - 1)) % x.names.length)) := by rw [remO_ne hneL, Int.tmod_eq_emod_of_nonneg (by omega)]
    have hso : v.b % x.names.length ≠ (v.b % x.names.length + 1 + v.b / (x.names.length : Int) % ((x.names.length : Int) - 1)) % x.names.length := by
      generalize v.b / (x.names.length : Int) % ((x.names.length : Int) - 1) = r at *
      generalize v.b % (x.names.length : Int) = s at *
      rcases Int.lt_or_le (s + 1 + r) x.names.length with h | h
      · rw [Int.emod_eq_of_lt (by omega) h]; omega
      · have e : (s + 1 + r) % (x.names.length : Int) = s + 1 + r - x.names.length := by
          rw [← Int.sub_emod_right, Int.emod_eq_of_lt (by omega) (by omega)]
        rw [e]; omega
    have wat : IntKind.i64.wrap (1 + IntKind.i64.wrap (3 * v.c)) = 1 + 3 * v.c := by rw [w64 (n := 3 * v.c) (by omega) (by omega), w64 (by omega) (by omega)]
    have hcase : (decide (v.a % 2 = 0) = true ∧ decide ((0 : Int) < (x.turned.length : Int)) = false) ∨ decide (v.a % 2 = 0) = false := by
      cases d1 : decide (v.a % 2 = 0) with
      | true => exact .inl ⟨rfl, decide_eq_false fun h => hA ⟨of_decide_eq_true d1, by omega⟩⟩
      | false => exact .inr rfl
    have hzc := fun (o : Nat) (ho : o < x.names.length) (h : Int) (h0 : 0 ≤ h) => called_made x hx (s := o) ho h0
    have c55a := fun (o : Nat) (ho : o < x.names.length) (h : Int) => c55 x.mkZ.hours x.mkZ.all (by rw [hI.ok.hours, hI.ok.all]) (by rw [hI.ok.all]; omega) o (fun l hl => by rw [(hI.alln l hl).2]; exact ho) h
    have hsz := fun (o : Nat) (ho : o < x.names.length) (h : Int) => called_nm hok (s := o) ho h
    have hB := fun (c : Chg) (o : Nat) => @twice_B x hx c o
    have hbad := fun (c : Chg) => @bad_ok x hx c
    rcases hcase with ⟨d1, d2⟩ | d1
    all_goals first | simp only [go_sem, d1, d2, List.length_map, wb, tb] | simp only [go_sem, d1, List.length_map, wb, tb]
    all_goals
      refine ADrw.treeG (fun _ => false) tt_ok (by kernel_rfl) (fun k => if k = 3 ∨ k = 6 ∨ k = 10 ∨ k = 16 then some .L else some .S) (.ones [0, 1, 2, 3, 4, 5, 6, 7, 8, 9, 10, 11, 12, 13, 14, 15, 16, 17, 18, 19] .done) (Nat.zero_le _) (fun _ h => nomatch h) rfl rfl (by kernel_rfl) ?_
      simp only [go_sem, List.length_map, wb, w1, qo, wm, tr, w2, to, wc, wat]
      generalize hoI : (v.b % x.names.length + 1 + v.b / (x.names.length : Int) % ((x.names.length : Int) - 1)) % (x.names.length : Int) = oI at *
      generalize hsI : v.b % (x.names.length : Int) = sI at *
      obtain ⟨o, rfl⟩ : ∃ o : Nat, oI = (o : Int) := ⟨oI.toNat, by omega⟩
      have hol : o < x.names.length := by omega
      refine ALoop.by (S := Nat) (fun i => [(15, .d (.int .i64 i)), (14, .d (.int .i64 o)), (13, .d (.int .i64 sI)), (9, .d (.int .i64 (1 + 3 * v.c))), (8, .ptr 6 0), (7, .d (.sl (x.mkZ.all.map nmsD))), (6, .d (.sl (x.mkZ.hours.map (.int .i64)))), (5, .ptr 2 0)])
        (fun _ => h13 x v x.turned) (fun i => x.turned.length - i) (fun i => i ≤ x.turned.length ∧ ∀ d ∈ x.turned.take i, ¬ (d.at' = 1 + 3 * v.c ∧ d.st = sI)) 0 (Nat.zero_le _) (by intro _ h; cases h) ⟨Nat.zero_le _, fun d hd => by simp at hd⟩ ?_ ?_
      · refine ForgetTo.same' (Nat.zero_le _) ?_ rfl
        exact ⟨rfl, rfl, rfl, rfl, rfl, rfl, rfl, rfl, trivial⟩
      rintro i ⟨hi, hno⟩ hn
      refine AWP.run (fun _ => false) tt_ok (fun _ h => nomatch h) (Nat.zero_le _) rfl ?_
      simp only [h13, cncB, c3B, htb]
      simp only [go_sem, List.length_map]
      refine Br_split (fun hd => ?_) (fun hd => ?_) <;> simp only [go_sem, hd]
      · have hlt : i < x.turned.length := by simpa using hd
        have hix : idx? (x.turned.map Chg.d) (i : Int) = some x.turned[i].d := by simp [idx?, List.getElem?_eq_getElem hlt]
        have hod : x.turned[i].d = .agg [.int .i64 x.turned[i].at', .int .i64 x.turned[i].st, .str x.turned[i].name] := rfl
        rw [hod] at hix
        have hnx : IntKind.i64.wrap ((i : Int) + 1) = ((i + 1 : Nat) : Int) := by rw [w64 (by omega) (by omega)]; omega
        have nxt : ¬ (x.turned[i].at' = 1 + 3 * v.c ∧ x.turned[i].st = sI) → ∀ d ∈ x.turned.take (i + 1), ¬ (d.at' = 1 + 3 * v.c ∧ d.st = sI) := fun h d hd => by
          rw [List.take_succ_eq_append_getElem hlt, List.mem_append, List.mem_singleton] at hd
          rcases hd with hd | rfl
          · exact hno d hd
          · exact h
        generalize x.turned[i].name = c3 at *
        generalize x.turned[i].st = c2 at *
        generalize x.turned[i].at' = c1 at *
        simp only [go_sem, hix]
        cases f1 : decide (c1 = 1 + 3 * v.c) with
        | false =>
          simp only [go_sem, f1, hnx]
          exact ⟨i + 1, ⟨hlt, nxt fun h => of_decide_eq_false f1 h.1⟩, by omega, ForgetTo.same' (Nat.zero_le _) ⟨rfl, rfl, rfl, rfl, rfl, rfl, rfl, rfl, trivial⟩ rfl⟩
        | true =>
          cases f2 : decide (c2 = sI) with
          | false =>
            simp only [go_sem, f1, f2, hix, hnx]
            exact ⟨i + 1, ⟨hlt, nxt fun h => of_decide_eq_false f2 h.2⟩, by omega, ForgetTo.same' (Nat.zero_le _) ⟨rfl, rfl, rfl, rfl, rfl, rfl, rfl, rfl, trivial⟩ rfl⟩
          | true =>
            simp only [go_sem, f1, f2, hix]
            refine c15.call rfl rfl rfl ?_
            simp only [go_sem]
      · have hie : i = x.turned.length := by simp only [decide_eq_false_iff_not] at hd; omega
        subst hie
        rw [List.take_length] at hno
        simp only [go_sem]
        refine ADrw.treeG (fun _ => false) tt_ok (by kernel_rfl) (fun k => if k = 1 then some .L else if k = 11 ∨ k = 13 then some .W else some .S) (.ones [0, 1, 2, 3, 4, 5, 6, 7, 8, 9, 10, 11, 12, 13] .done) (Nat.zero_le _) (fun _ h => nomatch h) rfl rfl (by kernel_rfl) ?_
        simp only [go_sem]
        refine (c55a o hol _).callS rfl rfl rfl rfl rfl rfl ?_
        rw [← hzc o hol _ (by omega)]
        simp only [go_sem]
        refine (c61 _ _ _).callS rfl rfl rfl rfl rfl rfl ?_
        have hnz := hsz o hol (1 + 3 * v.c)
        have hBo := fun c => hB c o
        have hbc : ∀ z, z = calledT x.town o (1 + 3 * v.c) → BadC x (⟨1 + 3 * v.c, sI, z⟩, [min sI o, max sI o]) := fun z e => by
          refine ⟨hbad _ (by show 1 ≤ 1 + 3 * v.c ∧ 1 + 3 * v.c ≤ 1000; omega) (by show 0 ≤ sI ∧ sI < (x.names.length : Int); omega) (by rw [e]; exact hnz), by show 1 ≤ 1 + 3 * v.c ∧ 1 + 3 * v.c ≤ 1000; omega, ?_, by simp⟩
          show natI (clashT (x.bad ⟨1 + 3 * v.c, sI, z⟩) (⟨1 + 3 * v.c, sI, z⟩ : Chg).at') = _
          rw [hBo ⟨1 + 3 * v.c, sI, z⟩ (by show 1 ≤ 1 + 3 * v.c; omega) (by show 0 ≤ sI ∧ sI < (x.names.length : Int); omega) hol (by show sI.toNat ≠ o; omega) hno e, natI]
          simp only [List.map_cons, List.map_nil]
          congr 1
          · omega
          · congr 1; omega
        generalize calledT x.town o (1 + 3 * v.c) = z at *
        have sc : sized 3 [D.agg [.int .i64 (1 + 3 * v.c), .int .i64 sI, .str z]] = true := rfl
        have b1 : x.turned.length + 1 ≤ 4294967296 := by omega
        have b2 : decide (x.turned.length ≤ 4294967295) = true := decide_eq_true (by omega)
        simp only [go_sem, sc, List.length_map, b1, b2]
        refine ⟨(⟨1 + 3 * v.c, sI, z⟩, [min sI o, max sI o]), hbc z rfl, ?_⟩
        simp only [e13b, List.length_append, List.length_cons, List.length_nil, Nat.zero_add, List.map_append, List.map_cons, List.map_nil]
        exact ForgetTo.same' (Nat.zero_le _) ⟨rfl, rfl, rfl, trivial⟩ rfl
end Go.Aw
end

section
set_option maxRecDepth 100000
namespace Go.Aw
open Go Go.Proofs.Tryz

theorem small_ok {t : Town} (h : t.Ok) : t.Small := by
  have h1 := h.len
  have h2 := h.chl
  refine ⟨by omega, by omega, fun s hs => ?_, fun c hc => ?_⟩
  · have := (nm_size (h.nms s hs)).2; omega
  · have := h.chs c hc
    simp only [chgOk, Bool.and_eq_true] at this
    have := (nm_size this.2).2; omega

theorem c13 (x : Cnc) (hx : x.Ok) (v : C3) (hv : v.Ok) : PC prog 13 [.d x.d, .d v.d] (.d (.bool true)) := by
  refine c13_a x hx v (c13_b x hx v hv fun p hp => ?_)
  obtain ⟨c, due⟩ := p
  obtain ⟨hok, hat, hdue, hne⟩ := hp
  dsimp only at hok hat hdue hne ⊢
  have hcl : clashT (x.bad c) c.at' ≠ [] := fun e => hne (by rw [← hdue, e]; rfl)
  obtain ⟨hP, hO⟩ := bad_clash x hx hok hat hcl
  rw [hdue] at hP
  have hs := small_ok hok
  have hbl : (x.turned ++ [c]).length ≤ 8 := hok.chl
  have hnl : x.names.length ≤ 6 := hok.len.2
  have hbd : (x.bad c).d = .agg [.sl (x.names.map .str), .sl ((x.turned ++ [c]).map Chg.d)] := rfl
  have c18a := c18 (x.bad c) hs
  have c23a := c23 (x.bad c) hs 0 0
  have c30a := c30 (x.bad c) hs
  have c46a := c46 (x.bad c) hs [] (by simp) (fun _ h => by cases h)
  have o9 : openE (x.bad c) ≠ 0 := by rw [hO]; decide
  have hN : nameP (x.bad c) 0 0 = (⟨#[]⟩, 9) := by rw [nameP, if_pos o9, hO]
  have hA : againP (x.bad c) = ([], 9) := by rw [againP, if_pos o9, hO]
  have hH : hoursP (x.bad c) [] = ([], 9) := by
    have : listE (x.bad c) [] = 9 := by rw [listE, if_pos o9, hO]
    rw [hoursP, this, if_pos (by decide)]
  have hAv : againV (([] : List ByteArray), (9 : Int)) = .slx (some true) [] := by rw [againV, if_pos (by decide)]
  have hHv : hoursV (([] : List Spn), (9 : Int)) = .slx (some true) [] := by rw [hoursV, if_pos (by decide)]
  rw [hP] at c18a
  rw [hN] at c23a
  rw [hA, hAv] at c30a
  rw [hH, hHv] at c46a
  have hlv : lvI due = .d (.sl (due.map (.int .i64))) := by
    cases due with
    | nil => exact absurd rfl hne
    | cons a b => rfl
  simp only [hlv] at c18a
  simp only [hbd, List.map_nil] at c18a c23a c30a c46a
  have hd0 : ∀ {α : Type} [DecidableEq α] (l : α), decide (l = l) = true := fun l => by simp
  have hdl : due.length ≤ 1000 := by
    have h1 := clashT_len (x.bad c) c.at'
    have h2 : (x.bad c).first.length = x.names.length := rfl
    rw [← hdue, natI, List.length_map]; omega
  have own : ∀ {Q : V → Heap → Prop} {H : Heap}, H[5]? = some (.arr 3 false ((x.turned ++ [c]).map Chg.d)) → BBs H.length H → Q (.d (.agg [.sl (x.names.map .str), .sl ((x.turned ++ [c]).map Chg.d)])) H → ACalls prog 54 [.agg [.d (.sl (x.names.map .str)), .ref 5 (x.turned ++ [c]).length 0 (x.turned ++ [c]).length]] H Q := fun h1 h2 h3 =>
    c54h (first := x.names) (ch := x.turned ++ [c]) h1 h2 (by omega) (by omega) h3
  have htb : townB x.town = .cells [.d (.sl (x.names.map .str)), .d (.sl (x.turned.map Chg.d))] := rfl
  simp only [e13b, h13, cncB, c3B, htb]
  generalize x.turned ++ [c] = ch at *
  refine AWP.runS (fun _ => false) tt_ok (fun _ h => nomatch h) (Nat.zero_le _) rfl ?_
  simp only [go_sem]
  refine ACallV.of rfl (own rfl (by simp [BBs, BB, VBs, VB]) ?_)
  simp only [go_sem]
  refine c18a.call rfl rfl rfl ?_
  simp only [go_sem, hd0, List.length_map]
  refine ALoop.by (S := Nat) (fun i => [(19, .d (.int .i64 i)), (17, .d (.sl (due.map (.int .i64)))), (10, .slx (some false) (due.map (.int .i64))), (8, .ptr 6 0)])
    (fun _ => [cncB x, c3B v, townB x.town, townB x.town, .cells [.d (.sl (x.names.map .str)), .ref 5 x.turned.length 0 x.turned.length], .arr 3 false (ch.map Chg.d), .cells [.d (.sl (x.names.map .str)), .ref 5 ch.length 0 ch.length]]) (fun i => due.length - i) (fun i => i ≤ due.length) 0 (Nat.zero_le _) (fun _ h => nomatch h) (Nat.zero_le _) (ForgetTo.same' (Nat.zero_le _) ⟨rfl, rfl, rfl, rfl, trivial⟩ rfl) ?_
  rintro i hi hn
  refine AWP.run (fun _ => false) tt_ok (fun _ h => nomatch h) (Nat.zero_le _) rfl ?_
  simp only [cncB, c3B, htb]
  simp only [go_sem, List.length_map]
  refine Br_split (fun hd => ?_) (fun hd => ?_) <;> simp only [go_sem, hd]
  · have hlt : i < due.length := by simpa using hd
    have hix : idx? (due.map (D.int .i64)) (i : Int) = some (.int .i64 due[i]) := by simp [idx?, List.getElem?_eq_getElem hlt]
    have hnx : IntKind.i64.wrap ((i : Int) + 1) = ((i + 1 : Nat) : Int) := by rw [w64 (by omega) (by omega)]; omega
    generalize due[i] = y at *
    refine ADrw.treeG (fun _ => false) tt_ok (by kernel_rfl) (fun k => some .S) (.ones [0, 1, 2, 3, 4, 5, 6, 7, 8] .done) (Nat.zero_le _) (fun _ h => nomatch h) rfl rfl (by kernel_rfl) ?_
    simp only [go_sem, hix, hd0, hnx]
    exact ⟨i + 1, hlt, by omega, ForgetTo.same' (Nat.zero_le _) ⟨rfl, rfl, rfl, rfl, trivial⟩ rfl⟩
  · simp only [go_sem]
    refine ACallV.of rfl (own rfl (by simp [BBs, BB, VBs, VB]) ?_)
    simp only [go_sem]
    refine c23a.call rfl rfl rfl ?_
    simp only [go_sem]
    refine ACallV.of rfl (own rfl (by simp [BBs, BB, VBs, VB]) ?_)
    simp only [go_sem]
    refine c30a.call rfl rfl rfl ?_
    simp only [go_sem]
    refine ACallV.of rfl (own rfl (by simp [BBs, BB, VBs, VB]) ?_)
    simp only [go_sem]
    refine c46a.call rfl rfl rfl ?_
    simp only [go_sem, beq_ba]
    refine c15.call rfl rfl rfl ?_
    simp only [go_sem]
end Go.Aw
end
