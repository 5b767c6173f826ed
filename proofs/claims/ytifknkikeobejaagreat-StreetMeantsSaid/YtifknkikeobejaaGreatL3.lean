/- The reference: Name, Change, Copy, Same, Called, Check. The reference: Clash, First. The reference: First, Check, Open; the law's long. The law's long. The law StreetClashes. Towns as arguments of the laws. The law StreetNames. Hour by hour, and page by page: the plain law. The reference: Faults. The reference: Nearest, Meant. The reference: Meant. Meant: the plain law. The law StreetMeants. The law StreetMeants: streets that are meant. Questions as arguments of the laws. -/
import Derived.Test.YtifknkikeobejaaGreatL2
set_option linter.unusedSimpArgs false
set_option linter.unusedVariables false

section
set_option maxRecDepth 100000
namespace Go.Aw
open Go Go.Proofs.Tryz

theorem c28 (s : ByteArray) (hs : s.size ≤ 1000) : PC prog 28 [.d (.str s)] (.d (.bool (nm s))) := by
  refine PC.run (fun _ => false) tt_ok (fn := f28) (rs := [.tmp 2]) rfl rfl rfl rfl rfl rfl rfl ?_
  simp only [go_sem]
  refine ALoop.by (S := Nat) (fun i => [(3, .d (.int .i64 i)), (0, .d (.str s))]) (fun _ => []) (fun i => s.size - i) (fun i => i ≤ s.size ∧ lettersTo s i = true) 0 (Nat.zero_le _) (fun _ h => nomatch h) ⟨Nat.zero_le _, rfl⟩ (ForgetTo.same' (Nat.zero_le _) ⟨rfl, rfl, trivial⟩ rfl) ?_
  rintro i ⟨hi, hli⟩ hn
  refine AWP.run (fun _ => false) tt_ok (fun _ h => nomatch h) (Nat.zero_le _) rfl ?_
  simp only [go_sem]
  refine Br_split (fun hd => ?_) (fun hd => ?_) <;> simp only [go_sem, hd]
  · have hlt : i < s.size := by simpa using hd
    have hai := aindex_str (T := Tt) (z := ⟨#[]⟩) (k := .i64) hlt
    have hgd : s.data.toList.getD i 0 = s.get! i := by rw [get_data hlt, List.getD_eq_getElem?_getD, List.getElem?_eq_getElem (by simpa using hlt)]; rfl
    rw [hgd] at hai
    have hls := lettersTo_succ hlt
    have hno := nm_no hlt
    rw [hli, Bool.true_and] at hls
    have hlet : letter (s.get! i) = (decide (97 ≤ (s.get! i).toNat) && decide ((s.get! i).toNat ≤ 122)) := rfl
    have hnx : IntKind.i64.wrap ((i : Int) + 1) = ((i + 1 : Nat) : Int) := by rw [w64 (by omega) (by omega)]; omega
    generalize (s.get! i).toNat = b at *
    generalize letter (s.get! i) = L at *
    simp only [go_sem, hai]
    cases d1 : decide ((b : Int) < 97) with
    | true =>
      have : decide (97 ≤ b) = false := by simp only [decide_eq_true_eq, decide_eq_false_iff_not] at d1 ⊢; omega
      rw [this, Bool.false_and] at hlet
      simp only [go_sem, d1]
      rw [hno hlet]
    | false =>
      have h97 : decide (97 ≤ b) = true := by simp only [decide_eq_true_eq, decide_eq_false_iff_not] at d1 ⊢; omega
      cases d2 : decide ((122 : Int) < b) with
      | true =>
        have : decide (b ≤ 122) = false := by simp only [decide_eq_true_eq, decide_eq_false_iff_not] at d2 ⊢; omega
        rw [this, Bool.and_false] at hlet
        simp only [go_sem, d1, d2, hai]
        rw [hno hlet]
      | false =>
        have h122 : decide (b ≤ 122) = true := by simp only [decide_eq_true_eq, decide_eq_false_iff_not] at d2 ⊢; omega
        rw [h97, h122] at hlet
        simp only [go_sem, d1, d2, hai, hnx]
        exact ⟨i + 1, ⟨hlt, by rw [hls, hlet]; rfl⟩, by omega, ForgetTo.same' (Nat.zero_le _) ⟨rfl, rfl, trivial⟩ rfl⟩
  · have hie : i = s.size := by simp only [decide_eq_false_iff_not] at hd; omega
    subst hie
    refine (c26 (s.size : Int) 1 10).call rfl rfl rfl ?_
    simp only [go_sem]
    rw [nm_end hli]

theorem c39 (c : Chg) (n : Nat) (hn : n ≤ 1000000) (hs : c.name.size ≤ 1000) : PC prog 39 [.d c.d, .d (.int .i64 n)] (.d (.bool (chgOk n c))) := by
  rw [chgOk]
  refine PC.run (fun _ => false) tt_ok (fn := f39) (rs := [.tmp 4]) rfl rfl rfl rfl rfl rfl rfl ?_
  have c26a := c26 c.at' 1 1000
  have w1 : IntKind.i64.wrap ((n : Int) - 1) = (n : Int) - 1 := w64 (by omega) (by omega)
  have c26b := c26 c.st 0 ((n : Int) - 1)
  have e : decide (0 ≤ c.st ∧ c.st ≤ (n : Int) - 1) = decide (0 ≤ c.st ∧ c.st < (n : Int)) := by rw [Bool.eq_iff_iff, decide_eq_true_eq, decide_eq_true_eq]; omega
  rw [e] at c26b
  have c28a := c28 c.name hs
  simp only [go_sem, Chg.d, w1]
  refine c26a.call rfl rfl rfl ?_
  simp only [go_sem, w1]
  cases d1 : decide (1 ≤ c.at' ∧ c.at' ≤ 1000) with
  | false => simp only [go_sem, d1]
  | true =>
    simp only [go_sem, d1, w1]
    refine c26b.call rfl rfl rfl ?_
    cases d2 : decide (0 ≤ c.st ∧ c.st < (n : Int)) with
    | false => simp only [go_sem, d1, d2]
    | true =>
      simp only [go_sem, d1, d2]
      refine c28a.call rfl rfl rfl ?_
      simp only [go_sem]

theorem c16 (t : Town) (h1 : t.first.length ≤ 1000) (h2 : t.ch.length ≤ 1000) : PC prog 16 [.d t.d] (.d t.d) := by
  refine PC.run (fun _ => false) tt_ok (fn := f16) (rs := [.cell 2 25]) rfl rfl rfl rfl rfl rfl rfl ?_
  have s1 := sized_strs t.first
  have s2 := sized_chg t.ch
  have l1 : t.first.length ≤ 4294967296 := by omega
  have l2 : t.ch.length ≤ 4294967296 := by omega
  simp only [go_sem, Town.d]
  refine ADrw.treeG (fun _ => false) tt_ok (by kernel_rfl) (fun k => if k = 2 ∨ k = 6 then some .L else if k = 9 then some .W else some .S) (.ones [0, 1, 2, 3, 4, 5, 6, 7, 8, 9] .done) (Nat.zero_le _) (fun _ h => nomatch h) rfl rfl (by kernel_rfl) ?_
  simp only [go_sem, s1, s2, l1, l2, List.length_map, show sized 1 [] = true from rfl, show sized 3 [] = true from rfl]

theorem beq_self_dec {α : Type} [DecidableEq α] (l : α) : decide (l = l) = true := by simp

theorem c20 (t : Town) (h1 : t.first.length ≤ 1000) (h2 : t.ch.length ≤ 1000) : PC prog 20 [.d t.d, .d t.d] (.d (.bool true)) := by
  refine PC.run (fun _ => false) tt_ok (fn := f20) (rs := [.tmp 4]) rfl rfl rfl rfl rfl rfl rfl ?_
  simp only [go_sem, Town.d]
  refine (c31 t.first t.first (by omega) (by omega)).call rfl rfl rfl ?_
  simp only [go_sem, beq_self_dec, List.length_map]
  refine ALoop.by (S := Nat) (fun i => [(5, .d (.int .i64 i)), (3, .ptr 1 0), (2, .ptr 0 0)]) (fun _ => [townB t, townB t]) (fun i => t.ch.length - i) (fun i => i ≤ t.ch.length) 0 (Nat.zero_le _) (fun _ h => nomatch h) (Nat.zero_le _) (ForgetTo.same' (Nat.zero_le _) ⟨rfl, rfl, rfl, trivial⟩ rfl) ?_
  rintro i hi hn
  refine AWP.run (fun _ => false) tt_ok (fun _ h => nomatch h) (Nat.zero_le _) rfl ?_
  simp only [go_sem, townB, List.length_map]
  refine Br_split (fun hd => ?_) (fun hd => ?_) <;> simp only [go_sem, hd]
  have hlt : i < t.ch.length := by simpa using hd
  have hix : idx? (t.ch.map Chg.d) (i : Int) = some t.ch[i].d := by simp [idx?, List.getElem?_eq_getElem hlt]
  have hcd : t.ch[i].d = .agg [.int .i64 t.ch[i].at', .int .i64 t.ch[i].st, .str t.ch[i].name] := rfl
  have hnx : IntKind.i64.wrap ((i : Int) + 1) = ((i + 1 : Nat) : Int) := by rw [w64 (by omega) (by omega)]; omega
  rw [hcd] at hix
  generalize t.ch[i].at' = x1 at *
  generalize t.ch[i].st = x2 at *
  generalize t.ch[i].name = x3 at *
  refine ADrw.treeG (fun _ => false) tt_ok (by kernel_rfl) (fun k => if k = 1 ∨ k = 6 then some .L else some .S) (.ones [0, 1, 2, 3, 4, 5, 6, 7, 8, 9, 10] .done) (Nat.zero_le _) (fun _ h => nomatch h) rfl rfl (by kernel_rfl) ?_
  simp only [go_sem, hix, beq_self_dec, beq_ba, hnx]
  exact ⟨i + 1, hlt, by omega, ForgetTo.same' (Nat.zero_le _) ⟨rfl, rfl, rfl, trivial⟩ rfl⟩

theorem callP_succ (l : List Chg) (z : ByteArray) (s : Nat) (hour : Int) {i : Nat} (hi : i < l.length) : callP (l.take (i + 1)) z s hour = if l[i].st = (s : Int) ∧ l[i].at' ≤ hour ∧ (callP (l.take i) z s hour).2 ≤ l[i].at' then (l[i].name, l[i].at') else callP (l.take i) z s hour := by
  rw [List.take_succ_eq_append_getElem hi, callP, List.foldl_append]; rfl

theorem c27 (t : Town) (h2 : t.ch.length ≤ 1000) {s : Nat} (hs : s < t.first.length) (hour : Int) : PC prog 27 [.d t.d, .d (.int .i64 s), .d (.int .i64 hour)] (.d (.str (calledT t s hour))) := by
  refine PC.run (fun _ => false) tt_ok (fn := f27) (rs := [.tmp 6]) rfl rfl rfl rfl rfl rfl rfl ?_
  have hix : idx? (t.first.map D.str) (s : Int) = some (.str (t.first.getD s default)) := by rw [getDG hs]; simp [idx?, List.getElem?_eq_getElem hs]
  simp only [go_sem, Town.d, hix]
  rw [calledT]
  generalize t.first.getD s default = z at *
  refine ALoop.by (S := Nat) (fun i => [(9, .d (.int .i64 i)), (8, .d (.int .i64 (callP (t.ch.take i) z s hour).2)), (7, .d (.str (callP (t.ch.take i) z s hour).1)), (3, .ptr 0 0), (2, .d (.int .i64 hour)), (1, .d (.int .i64 s))]) (fun _ => [townB t]) (fun i => t.ch.length - i) (fun i => i ≤ t.ch.length) 0 (Nat.zero_le _) (fun _ h => nomatch h) (Nat.zero_le _) (ForgetTo.same' (Nat.zero_le _) ⟨rfl, rfl, rfl, rfl, rfl, rfl, trivial⟩ rfl) ?_
  rintro i hi hn
  refine AWP.run (fun _ => false) tt_ok (fun _ h => nomatch h) (Nat.zero_le _) rfl ?_
  simp only [go_sem, townB, List.length_map]
  refine Br_split (fun hd => ?_) (fun hd => ?_) <;> simp only [go_sem, hd]
  · have hlt : i < t.ch.length := by simpa using hd
    have hix : idx? (t.ch.map Chg.d) (i : Int) = some t.ch[i].d := by simp [idx?, List.getElem?_eq_getElem hlt]
    have hcd : t.ch[i].d = .agg [.int .i64 t.ch[i].at', .int .i64 t.ch[i].st, .str t.ch[i].name] := rfl
    have hnx : IntKind.i64.wrap ((i : Int) + 1) = ((i + 1 : Nat) : Int) := by rw [w64 (by omega) (by omega)]; omega
    have hsu := callP_succ t.ch z s hour hlt
    rw [hcd] at hix
    have fin : ∀ (p : ByteArray × Int) (E : Env), p = callP (t.ch.take (i + 1)) z s hour → EWp 1 [townB t, .cells [.d (.int .i64 t.ch[i].at'), .d (.int .i64 t.ch[i].st), .d (.str t.ch[i].name)]] E [(9, .d (.int .i64 ((i + 1 : Nat) : Int))), (8, .d (.int .i64 p.2)), (7, .d (.str p.1)), (3, .ptr 0 0), (2, .d (.int .i64 hour)), (1, .d (.int .i64 s))] →
        ∃ s', s' ≤ t.ch.length ∧ t.ch.length - s' < t.ch.length - i ∧ ForgetTo 0 E [townB t, .cells [.d (.int .i64 t.ch[i].at'), .d (.int .i64 t.ch[i].st), .d (.str t.ch[i].name)]] [(9, .d (.int .i64 s')), (8, .d (.int .i64 (callP (t.ch.take s') z s hour).2)), (7, .d (.str (callP (t.ch.take s') z s hour).1)), (3, .ptr 0 0), (2, .d (.int .i64 hour)), (1, .d (.int .i64 s))] [townB t] := fun p E hp hE => by
      subst hp
      exact ⟨i + 1, hlt, by omega, ForgetTo.drop (H0 := [_]) (Y := [_]) (Nat.zero_le _) rfl (by simp [BBs, BB, VBs, VB, townB]) hE⟩
    rw [hsu] at fin
    simp only [townB] at fin
    generalize callP (t.ch.take i) z s hour = p at *
    generalize t.ch[i].at' = x1 at *
    generalize t.ch[i].st = x2 at *
    generalize t.ch[i].name = x3 at *
    simp only [go_sem, hix]
    by_cases h1 : x2 = (s : Int)
    · simp only [go_sem, decide_eq_true h1]
      by_cases h3 : x1 ≤ hour
      · simp only [go_sem, decide_eq_true h3]
        by_cases h4 : p.2 ≤ x1
        · rw [if_pos ⟨h1, h3, h4⟩] at fin
          simp only [go_sem, decide_eq_true h4]
          refine ADrw.treeG (fun _ => false) tt_ok (by kernel_rfl) (fun k => if k = 1 ∨ k = 3 then some .L else some .S) (.ones [0, 1, 2, 3, 4, 5] .done) (Nat.zero_le _) (fun _ h => nomatch h) rfl rfl (by kernel_rfl) ?_
          simp only [go_sem, hnx]
          exact fin (x3, x1) _ rfl (by simp [EWp, Env.look, pubV])
        · rw [if_neg (fun h => h4 h.2.2)] at fin
          simp only [go_sem, decide_eq_false h4, hnx]
          exact fin p _ rfl (by simp [EWp, Env.look, pubV])
      · rw [if_neg (fun h => h3 h.2.1)] at fin
        simp only [go_sem, decide_eq_false h3, hnx]
        exact fin p _ rfl (by simp [EWp, Env.look, pubV])
    · rw [if_neg (fun h => h1 h.1)] at fin
      simp only [go_sem, decide_eq_false h1, hnx]
      exact fin p _ rfl (by simp [EWp, Env.look, pubV])
  · have hie : i = t.ch.length := by simp only [decide_eq_false_iff_not] at hd; omega
    subst hie
    rw [List.take_length]
end Go.Aw
end

section
set_option maxRecDepth 100000
namespace Go.Aw
open Go Go.Proofs.Tryz

/-- How many changes of a street there are in an hour, among the first ones. -/
def cntC (t : Town) (h : Int) (s i : Nat) : Nat := ((t.ch.take i).filter fun c => decide (c.at' = h ∧ c.st = (s : Int))).length
theorem cntC_succ (t : Town) (h : Int) (s : Nat) {i : Nat} (hi : i < t.ch.length) : cntC t h s (i + 1) = cntC t h s i + if t.ch[i].at' = h ∧ t.ch[i].st = (s : Int) then 1 else 0 := by
  rw [cntC, cntC, List.take_succ_eq_append_getElem hi, List.filter_append, List.length_append]
  congr 1
  rw [List.filter_cons, List.filter_nil]
  split <;> simp_all
theorem cntC_le (t : Town) (h : Int) (s i : Nat) : cntC t h s i ≤ i := by
  have := List.length_filter_le (fun c : Chg => decide (c.at' = h ∧ c.st = (s : Int))) (t.ch.take i)
  have h2 := List.length_take_le i t.ch
  rw [cntC]; omega

/-- Is a street called as another one of the first ones? -/
def likeC (t : Town) (h : Int) (s o : Nat) : Bool := (List.range o).any fun o => !decide (o = s) && decide (calledT t o h = calledT t s h)
theorem likeC_succ (t : Town) (h : Int) (s o : Nat) : likeC t h s (o + 1) = (likeC t h s o || (!decide (o = s) && decide (calledT t o h = calledT t s h))) := by
  rw [likeC, List.range_succ, List.any_append]; simp [likeC]

theorem count_two {α : Type} [DecidableEq α] [Inhabited α] : ∀ (l : List α) (s : Nat), s < l.length → (1 < cntL (l.getD s default) l ↔ ∃ o, o < l.length ∧ o ≠ s ∧ l.getD o default = l.getD s default)
  | [], s, h => by simp at h
  | a :: l, 0, _ => by
    have e : cntL ((a :: l).getD 0 default) (a :: l) = cntL a l + 1 := by simp [cntL]
    rw [e]
    constructor
    · intro h
      have hm : a ∈ l := List.count_pos_iff.1 (by rw [cntL] at h; omega)
      obtain ⟨i, hi, he⟩ := List.getElem_of_mem hm
      exact ⟨i + 1, by simpa using hi, by omega, by simp [List.getElem?_eq_getElem hi, he]⟩
    · rintro ⟨o, h1, h2, h3⟩
      obtain ⟨i, rfl⟩ : ∃ i, o = i + 1 := ⟨o - 1, by omega⟩
      have hi : i < l.length := by simpa using h1
      have hm : a ∈ l := by
        simp [List.getElem?_eq_getElem hi] at h3
        rw [← h3]; exact List.getElem_mem _
      have : 0 < cntL a l := List.count_pos_iff.2 hm
      omega
  | a :: l, s + 1, h => by
    have hs : s < l.length := by simpa using h
    have ih := count_two l s hs
    have e0 : (a :: l).getD (s + 1) default = l.getD s default := by simp
    rw [e0]
    have e : cntL (l.getD s default) (a :: l) = cntL (l.getD s default) l + if a = l.getD s default then 1 else 0 := by
      rw [cntL, cntL, List.count_cons]
      simp
    have hp : 0 < cntL (l.getD s default) l := List.count_pos_iff.2 (by rw [getDG hs]; exact List.getElem_mem _)
    rw [e]
    by_cases ha : a = l.getD s default
    · rw [if_pos ha]
      exact ⟨fun _ => ⟨0, by simp, by omega, by simpa using ha⟩, fun _ => by omega⟩
    · rw [if_neg ha, Nat.add_zero, ih]
      constructor
      · rintro ⟨o, h1, h2, h3⟩
        exact ⟨o + 1, by simpa using h1, by omega, by simpa using h3⟩
      · rintro ⟨o, h1, h2, h3⟩
        cases o with
        | zero => exact absurd (by simpa using h3) ha
        | succ o => exact ⟨o, by simpa using h1, by omega, by simpa using h3⟩

theorem like_iff (t : Town) (h : Int) {s : Nat} (hs : s < t.first.length) : likeC t h s t.first.length = decide (1 < cntL (calledT t s h) (namesT t h)) := by
  have := count_two (namesT t h) s (by rw [namesT_len]; exact hs)
  rw [namesT_get hs, namesT_len] at this
  rw [Bool.eq_iff_iff, decide_eq_true_eq, this, likeC, List.any_eq_true]
  constructor
  · rintro ⟨o, h1, h2⟩
    simp only [Bool.and_eq_true, Bool.not_eq_true', decide_eq_false_iff_not, decide_eq_true_eq, List.mem_range] at h1 h2
    exact ⟨o, h1, h2.1, by rw [namesT_get h1]; exact h2.2⟩
  · rintro ⟨o, h1, h2, h3⟩
    rw [namesT_get h1] at h3
    exact ⟨o, List.mem_range.2 h1, by simp [h2, h3]⟩

def twC (t : Town) (h : Int) (k : Nat) : List Int := natI ((List.range k).filter fun s => decide (1 < cntC t h s t.ch.length))
def alC (t : Town) (h : Int) (k : Nat) : List Int := natI ((List.range k).filter fun s => likeC t h s t.first.length)
theorem twC_succ (t : Town) (h : Int) (k : Nat) : twC t h (k + 1) = twC t h k ++ if 1 < cntC t h k t.ch.length then [(k : Int)] else [] := by
  rw [twC, twC, natI, natI, List.range_succ, List.filter_append, List.map_append]
  congr 1
  rw [List.filter_cons, List.filter_nil]
  split <;> simp_all
theorem alC_succ (t : Town) (h : Int) (k : Nat) : alC t h (k + 1) = alC t h k ++ if likeC t h k t.first.length = true then [(k : Int)] else [] := by
  rw [alC, alC, natI, natI, List.range_succ, List.filter_append, List.map_append]
  congr 1
  rw [List.filter_cons, List.filter_nil]
  split <;> simp_all
theorem twC_len (t : Town) (h : Int) (k : Nat) : (twC t h k).length ≤ k := by
  have := List.length_filter_le (fun s => decide (1 < cntC t h s t.ch.length)) (List.range k)
  rw [twC, natI, List.length_map]; simpa using this
theorem alC_len (t : Town) (h : Int) (k : Nat) : (alC t h k).length ≤ k := by
  have := List.length_filter_le (fun s => likeC t h s t.first.length) (List.range k)
  rw [alC, natI, List.length_map]; simpa using this

theorem clash_C (t : Town) (h : Int) : natI (clashT t h) = if twC t h t.first.length = [] then alC t h t.first.length else twC t h t.first.length := by
  have e1 : twC t h t.first.length = natI (twiceT t h) := by
    rw [twC, twiceT]
    congr 1
    refine List.filter_congr fun s _ => ?_
    rw [cntC, List.take_length]
  have e2 : alC t h t.first.length = natI (alikeT t h) := by
    rw [alC, alikeT]
    congr 1
    refine List.filter_congr fun s hs => ?_
    exact like_iff t h (by simpa using hs)
  rw [e1, e2, clashT]
  by_cases h0 : twiceT t h = []
  · rw [if_neg (by rw [h0]; simp), if_pos (by rw [h0]; rfl)]
  · rw [if_pos h0, if_neg (show ¬ natI (twiceT t h) = [] from fun e => h0 (List.map_eq_nil_iff.1 e))]

theorem c75 (t : Town) (h1 : t.first.length ≤ 1000) (h2 : t.ch.length ≤ 1000) (hour : Int) : PC prog 75 [.d t.d, .d (.int .i64 hour)] (.d (.sl ((natI (clashT t hour)).map (.int .i64)))) := by
  refine PC.run (fun k => k == 12 || k == 13) tt_ok (fn := f75) (rs := [.tmp 4]) rfl rfl rfl rfl rfl rfl rfl ?_
  simp only [go_sem, Town.d]
  refine ALoop.by (S := Nat) (fun s => [(7, .d (.int .i64 s)), (6, .ref 2 (alC t hour s).length 0 (alC t hour s).length), (5, .ref 1 (twC t hour s).length 0 (twC t hour s).length), (2, .ptr 0 0), (1, .d (.int .i64 hour))])
    (fun s => [townB t, .arr 1 false ((twC t hour s).map (.int .i64)), .arr 1 false ((alC t hour s).map (.int .i64))]) (fun s => t.first.length - s) (fun s => s ≤ t.first.length) 0 (Nat.zero_le _) (fun _ h => nomatch h) (Nat.zero_le _) (ForgetTo.same' (Nat.zero_le _) ⟨rfl, rfl, rfl, rfl, rfl, trivial⟩ rfl) ?_
  rintro s hs hn
  refine AWP.run (fun _ => false) tt_ok (fun _ h => nomatch h) (Nat.zero_le _) rfl ?_
  simp only [go_sem, townB, List.length_map]
  refine Br_split (fun hd => ?_) (fun hd => ?_) <;> simp only [go_sem, hd]
  · have hlt : s < t.first.length := by simpa using hd
    have hnx : IntKind.i64.wrap ((s : Int) + 1) = ((s + 1 : Nat) : Int) := by rw [w64 (by omega) (by omega)]; omega
    have hu1 := twC_succ t hour s
    have hu2 := alC_succ t hour s
    have hl1 := twC_len t hour s
    have hl2 := alC_len t hour s
    have fin : ∀ (A B : List Int) (E : Env), A = twC t hour (s + 1) → B = alC t hour (s + 1) → EWe E [(7, .d (.int .i64 ((s + 1 : Nat) : Int))), (6, .ref 2 B.length 0 B.length), (5, .ref 1 A.length 0 A.length), (2, .ptr 0 0), (1, .d (.int .i64 hour))] →
        ∃ s', s' ≤ t.first.length ∧ t.first.length - s' < t.first.length - s ∧ ForgetTo 0 E [townB t, .arr 1 false (A.map (.int .i64)), .arr 1 false (B.map (.int .i64))] [(7, .d (.int .i64 s')), (6, .ref 2 (alC t hour s').length 0 (alC t hour s').length), (5, .ref 1 (twC t hour s').length 0 (twC t hour s').length), (2, .ptr 0 0), (1, .d (.int .i64 hour))]
          [townB t, .arr 1 false ((twC t hour s').map (.int .i64)), .arr 1 false ((alC t hour s').map (.int .i64))] := fun A B E hA hB hE => by
      subst hA hB
      exact ⟨s + 1, hlt, by omega, ForgetTo.same' (Nat.zero_le _) hE rfl⟩
    rw [hu1, hu2] at fin
    clear hu1 hu2
    simp only [townB] at fin
    generalize twC t hour s = A at *
    generalize alC t hour s = B at *
    refine ALoop.by (S := Nat) (fun i => [(10, .d (.int .i64 i)), (9, .d (.bool false)), (8, .d (.int .i64 (cntC t hour s i))), (7, .d (.int .i64 s)), (6, .ref 2 B.length 0 B.length), (5, .ref 1 A.length 0 A.length), (2, .ptr 0 0), (1, .d (.int .i64 hour))])
      (fun _ => [townB t, .arr 1 false (A.map (.int .i64)), .arr 1 false (B.map (.int .i64))]) (fun i => t.ch.length - i) (fun i => i ≤ t.ch.length) 0 (Nat.zero_le _) (fun _ h => nomatch h) (Nat.zero_le _) (ForgetTo.same' (Nat.zero_le _) ⟨rfl, rfl, rfl, rfl, rfl, rfl, rfl, rfl, trivial⟩ rfl) ?_
    rintro i hi hn2
    refine AWP.run (fun _ => false) tt_ok (fun _ h => nomatch h) (Nat.zero_le _) rfl ?_
    simp only [go_sem, townB, List.length_map]
    refine Br_split (fun hd => ?_) (fun hd => ?_) <;> simp only [go_sem, hd]
    · have hit : i < t.ch.length := by simpa using hd
      have hix : idx? (t.ch.map Chg.d) (i : Int) = some t.ch[i].d := by simp [idx?, List.getElem?_eq_getElem hit]
      have hcd : t.ch[i].d = .agg [.int .i64 t.ch[i].at', .int .i64 t.ch[i].st, .str t.ch[i].name] := rfl
      have hni : IntKind.i64.wrap ((i : Int) + 1) = ((i + 1 : Nat) : Int) := by rw [w64 (by omega) (by omega)]; omega
      have hcs := cntC_succ t hour s hit
      have hcl := cntC_le t hour s i
      have hnc : IntKind.i64.wrap ((cntC t hour s i : Int) + 1) = ((cntC t hour s i + 1 : Nat) : Int) := by rw [w64 (by omega) (by omega)]; omega
      rw [hcd] at hix
      generalize t.ch[i].at' = x1 at *
      generalize t.ch[i].st = x2 at *
      generalize t.ch[i].name = x3 at *
      simp only [go_sem, hix]
      by_cases g1 : x1 = hour
      · simp only [go_sem, decide_eq_true g1, hix]
        by_cases g2 : x2 = (s : Int)
        · rw [if_pos ⟨g1, g2⟩] at hcs
          simp only [go_sem, decide_eq_true g2, hni, hnc]
          exact ⟨i + 1, hit, by omega, ForgetTo.same' (Nat.zero_le _) (by simp [EWe, Env.look, hcs]) rfl⟩
        · rw [if_neg (fun h => g2 h.2)] at hcs
          simp only [go_sem, decide_eq_false g2, hni]
          exact ⟨i + 1, hit, by omega, ForgetTo.same' (Nat.zero_le _) (by simp [EWe, Env.look, hcs]) rfl⟩
      · rw [if_neg (fun h => g1 h.1)] at hcs
        simp only [go_sem, decide_eq_false g1, hni]
        exact ⟨i + 1, hit, by omega, ForgetTo.same' (Nat.zero_le _) (by simp [EWe, Env.look, hcs]) rfl⟩
    · have hie : i = t.ch.length := by simp only [decide_eq_false_iff_not] at hd; omega
      subst hie
      have hcle := cntC_le t hour s t.ch.length
      generalize hC : cntC t hour s t.ch.length = C at *
      refine ALoop.by (S := Nat) (fun o => [(11, .d (.int .i64 o)), (9, .d (.bool (likeC t hour s o))), (8, .d (.int .i64 C)), (7, .d (.int .i64 s)), (6, .ref 2 B.length 0 B.length), (5, .ref 1 A.length 0 A.length), (2, .ptr 0 0), (1, .d (.int .i64 hour))])
        (fun _ => [townB t, .arr 1 false (A.map (.int .i64)), .arr 1 false (B.map (.int .i64))]) (fun o => t.first.length - o) (fun o => o ≤ t.first.length) 0 (Nat.zero_le _) (fun _ h => nomatch h) (Nat.zero_le _) (ForgetTo.same' (Nat.zero_le _) ⟨rfl, rfl, rfl, rfl, rfl, rfl, rfl, rfl, trivial⟩ rfl) ?_
      rintro o ho hn3
      refine AWP.run (fun _ => false) tt_ok (fun _ h => nomatch h) (Nat.zero_le _) rfl ?_
      simp only [go_sem, townB, List.length_map]
      refine Br_split (fun hd => ?_) (fun hd => ?_) <;> simp only [go_sem, hd]
      · have hot : o < t.first.length := by simpa using hd
        have hno : IntKind.i64.wrap ((o : Int) + 1) = ((o + 1 : Nat) : Int) := by rw [w64 (by omega) (by omega)]; omega
        have hls := likeC_succ t hour s o
        have c27a := c27 t h2 hot hour
        have c27b := c27 t h2 hlt hour
        simp only [Town.d] at c27a c27b
        generalize calledT t o hour = co at *
        generalize calledT t s hour = cs at *
        refine ADrw.treeG (fun _ => false) tt_ok (by kernel_rfl) (fun k => if k = 6 ∨ k = 10 then some .L else some .S) (.ones [0, 1, 2, 3, 4, 5, 6, 7, 8, 9, 10, 11, 12, 13, 14, 15, 16, 17] .done) (Nat.zero_le _) (fun _ h => nomatch h) rfl rfl (by kernel_rfl) ?_
        cases hlk : likeC t hour s o with
        | true =>
          rw [hlk, Bool.true_or] at hls
          simp only [go_sem, hno]
          exact ⟨o + 1, hot, by omega, ForgetTo.same' (Nat.zero_le _) (by simp [EWe, Env.look, hls]) rfl⟩
        | false =>
          rw [hlk, Bool.false_or] at hls
          by_cases hos : o = s
          · rw [decide_eq_true hos, Bool.not_true, Bool.false_and] at hls
            have d1 : decide ((o : Int) = (s : Int)) = true := decide_eq_true (by omega)
            simp only [go_sem, d1, hno]
            exact ⟨o + 1, hot, by omega, ForgetTo.same' (Nat.zero_le _) (by simp [EWe, Env.look, hls]) rfl⟩
          · rw [decide_eq_false hos, Bool.not_false, Bool.true_and] at hls
            have d1 : decide ((o : Int) = (s : Int)) = false := decide_eq_false (by omega)
            simp only [go_sem, d1]
            refine c27a.callS rfl rfl rfl rfl rfl rfl ?_
            simp only [go_sem]
            refine c27b.callS rfl rfl rfl rfl rfl rfl ?_
            simp only [go_sem, beq_str, hno]
            exact ⟨o + 1, hot, by omega, ForgetTo.same' (Nat.zero_le _) (by simp [EWe, Env.look, hls]) rfl⟩
      · have hoe : o = t.first.length := by simp only [decide_eq_false_iff_not] at hd; omega
        subst hoe
        have lA : (A.map (D.int .i64)).length = A.length := by simp
        have lB : (B.map (D.int .i64)).length = B.length := by simp
        have dA : decide (A.length ≤ 4294967295) = true := decide_eq_true (by omega)
        have dB : decide (B.length ≤ 4294967295) = true := decide_eq_true (by omega)
        have mA : (A ++ [(s : Int)]).map (D.int .i64) = A.map (.int .i64) ++ [.int .i64 s] := by simp
        have mB : (B ++ [(s : Int)]).map (D.int .i64) = B.map (.int .i64) ++ [.int .i64 s] := by simp
        generalize likeC t hour s t.first.length = K at *
        by_cases g1 : 1 < C
        · have d1 : decide ((1 : Int) < (C : Int)) = true := decide_eq_true (by omega)
          rw [if_pos g1] at fin
          cases K with
          | true =>
            rw [if_pos rfl] at fin
            have fin := fun E => fin (A ++ [(s : Int)]) (B ++ [(s : Int)]) E rfl rfl
            rw [mA, mB] at fin
            simp only [go_sem, d1, lA, lB, dA, dB, hnx]
            exact fin _ (by simp [EWe, Env.look])
          | false =>
            rw [if_neg (by simp), List.append_nil] at fin
            have fin := fun E => fin (A ++ [(s : Int)]) B E rfl rfl
            rw [mA] at fin
            simp only [go_sem, d1, lA, lB, dA, dB, hnx]
            exact fin _ (by simp [EWe, Env.look])
        · have d1 : decide ((1 : Int) < (C : Int)) = false := decide_eq_false (by omega)
          rw [if_neg g1, List.append_nil] at fin
          cases K with
          | true =>
            rw [if_pos rfl] at fin
            have fin := fun E => fin A (B ++ [(s : Int)]) E rfl rfl
            rw [mB] at fin
            simp only [go_sem, d1, lA, lB, dA, dB, hnx]
            exact fin _ (by simp [EWe, Env.look])
          | false =>
            rw [if_neg (by simp), List.append_nil] at fin
            have fin := fun E => fin A B E rfl rfl
            simp only [go_sem, d1, hnx]
            exact fin _ (by simp [EWe, Env.look])
  · have hie : s = t.first.length := by simp only [decide_eq_false_iff_not] at hd; omega
    subst hie
    rw [clash_C]
    have t1 : ((twC t hour t.first.length).map (D.int .i64)).take (twC t hour t.first.length).length = (twC t hour t.first.length).map (.int .i64) := List.take_of_length_le (by simp)
    have t2 : ((alC t hour t.first.length).map (D.int .i64)).take (alC t hour t.first.length).length = (alC t hour t.first.length).map (.int .i64) := List.take_of_length_le (by simp)
    by_cases h0 : twC t hour t.first.length = []
    · rw [if_pos h0]
      have d1 : decide ((0 : Int) < ((twC t hour t.first.length).length : Int)) = false := decide_eq_false (by rw [h0]; simp)
      simp only [go_sem, List.length_map, d1, t2]
    · rw [if_neg h0]
      have d1 : decide ((0 : Int) < ((twC t hour t.first.length).length : Int)) = true := decide_eq_true (by have := List.length_pos_iff.2 h0; omega)
      simp only [go_sem, List.length_map, d1, t1]
end Go.Aw
end

section
set_option maxRecDepth 100000
namespace Go.Aw
open Go Go.Proofs.Tryz

def firstV (t : Town) : List V :=
  if (nbT t).2.2 = [] then [.d (.int .i64 1001), .slx (some true) []] else [.d (.int .i64 (nbT t).2.1), .d (.sl ((nbT t).2.2.map (.int .i64)))]

theorem c21 (t : Town) (ht : t.Ok) : PC prog 21 [.d t.d] (.tup (firstV t)) := by
  have hl1 := ht.len.2
  have hl2 := ht.chl
  refine PC.run (fun _ => false) tt_ok (fn := f21) (rs := [.tmp 2, .tmp 3]) rfl rfl rfl rfl rfl rfl rfl ?_
  simp only [go_sem, Town.d]
  refine ALoop.by (S := Nat) (fun h => [(4, .d (.int .i64 h)), (1, .ptr 0 0)]) (fun _ => [townB t]) (fun h => 1001 - h) (fun h => (1 ≤ h ∧ h ≤ 1001) ∧ ∀ k : Int, 1 ≤ k → k < h → clashT t k = []) 1 (Nat.zero_le _) (fun _ h => nomatch h) ⟨by omega, fun k h1 h2 => by omega⟩ (ForgetTo.same' (Nat.zero_le _) ⟨rfl, rfl, trivial⟩ rfl) ?_
  rintro h ⟨⟨h1, h2⟩, hcl⟩ hn
  refine AWP.run (fun _ => false) tt_ok (fun _ h => nomatch h) (Nat.zero_le _) rfl ?_
  simp only [go_sem, townB]
  refine Br_split (fun hd => ?_) (fun hd => ?_) <;> simp only [go_sem, hd]
  · have hle : h ≤ 1000 := by simp only [decide_eq_true_eq] at hd; omega
    have hnx : IntKind.i64.wrap ((h : Int) + 1) = ((h + 1 : Nat) : Int) := by rw [w64 (by omega) (by omega)]; omega
    refine (c75 t (by omega) (by omega) h).call rfl rfl rfl ?_
    simp only [go_sem, List.length_map]
    refine Br_split (fun he => ?_) (fun he => ?_) <;> simp only [go_sem, he]
    · have hne : clashT t h ≠ [] := fun e => by rw [e] at he; simp [natI] at he
      have hv : firstV t = [.d (.int .i64 h), .d (.sl ((natI (clashT t h)).map (.int .i64)))] := by
        rcases nbT_spec ht with ⟨k, hk, e, hne2, hb⟩ | ⟨_, h3, _⟩
        · have hkh : k = h := by
            rcases Int.lt_trichotomy k h with hh | hh | hh
            · exact absurd (hcl k hk.1 hh) hne2
            · exact hh
            · exact absurd (hb h (by omega) hh) hne
          subst hkh
          rw [firstV, e, if_neg (show ¬ natI (clashT t h) = [] from fun e => hne (List.map_eq_nil_iff.1 e))]
        · exact absurd (h3 h (by omega)) hne
      rw [hv]
    · have hne : clashT t h = [] := by
        cases hc : clashT t h with
        | nil => rfl
        | cons a b => rw [hc] at he; simp [natI] at he
      simp only [go_sem, hnx]
      refine ⟨h + 1, ⟨⟨by omega, by omega⟩, fun k k1 k2 => ?_⟩, by omega, ForgetTo.same' (Nat.zero_le _) ⟨rfl, rfl, trivial⟩ rfl⟩
      rcases Int.lt_or_le k h with hh | hh
      · exact hcl k k1 hh
      · rw [show k = h by omega]; exact hne
  · have hh : h = 1001 := by simp only [decide_eq_false_iff_not] at hd; omega
    have hv : firstV t = [.d (.int .i64 1001), .slx (some true) []] := by
      rcases nbT_spec ht with ⟨k, hk, e, hne2, hb⟩ | ⟨e, _, _⟩
      · exact absurd (hcl k hk.1 (by omega)) hne2
      · rw [firstV, e]; rfl
    rw [hv]

theorem chk4 {t : Town} (h : ¬ (1 ≤ t.first.length ∧ t.first.length ≤ 6) ∨ (∃ i, i < t.first.length ∧ nm (t.first.getD i default) = false) ∨ ∃ k i, k < i ∧ i < t.first.length ∧ t.first.getD k default = t.first.getD i default) : checkT t = 4 := by
  rw [checkT]
  by_cases h1 : (!(decide (1 ≤ t.first.length) && decide (t.first.length ≤ 6)) || t.first.any fun s => !nm s) = true
  · rw [if_pos h1]
  · rw [if_neg h1, if_pos]
    simp only [Bool.not_eq_true, Bool.or_eq_false_iff, Bool.not_eq_false', Bool.and_eq_true, decide_eq_true_eq, List.any_eq_false, Bool.not_eq_true', Bool.not_eq_false] at h1
    rcases h with h | ⟨i, hi, h⟩ | ⟨k, i, hk, hi, h⟩
    · exact absurd h1.1 h
    · rw [getDG hi] at h
      exact absurd (h1.2 _ (List.getElem_mem hi)) (by simp [h])
    · intro e
      have : i ∈ twinsP t.first := List.mem_filter.2 ⟨List.mem_range.2 hi, decide_eq_true ((count_two t.first i hi).2 ⟨k, by omega, by omega, h⟩)⟩
      rw [e] at this; cases this

theorem chkR {t : Town} (h0 : 1 ≤ t.first.length ∧ t.first.length ≤ 6) (h1 : ∀ i, i < t.first.length → nm (t.first.getD i default) = true) (h2 : ∀ i k, k < i → i < t.first.length → t.first.getD k default ≠ t.first.getD i default) :
    checkT t = if t.ch.length > 8 then 5 else if t.ch.any (fun c => !chgOk t.first.length c) then 2 else 0 := by
  rw [checkT, if_neg, if_neg]
  · rw [ne_eq, Classical.not_not, twinsP, List.filter_eq_nil_iff]
    intro i hi
    rw [decide_eq_true_eq, count_two t.first i (List.mem_range.1 hi)]
    rintro ⟨o, ho, hne, e⟩
    rcases Nat.lt_or_gt_of_ne hne with h | h
    · exact h2 i o h (List.mem_range.1 hi) e
    · exact h2 o i h ho e.symm
  · simp only [Bool.not_eq_true, Bool.or_eq_false_iff, Bool.not_eq_false', Bool.and_eq_true, decide_eq_true_eq, List.any_eq_false, Bool.not_eq_true', Bool.not_eq_false]
    refine ⟨h0, fun s hs => ?_⟩
    obtain ⟨i, hi, e⟩ := List.getElem_of_mem hs
    have := h1 i hi
    rwa [getDG hi, e] at this

theorem c19 (t : Town) (h1 : t.first.length ≤ 1000) (h2 : t.ch.length ≤ 1000) (hfn : ∀ s ∈ t.first, s.size ≤ 1000) (hcn : ∀ c ∈ t.ch, c.name.size ≤ 1000) : PC prog 19 [.d t.d] (.d (.int .i64 (checkT t))) := by
  refine PC.run (fun _ => false) tt_ok (fn := f19) (rs := [.tmp 2]) rfl rfl rfl rfl rfl rfl rfl ?_
  simp only [go_sem, Town.d, List.length_map]
  refine (c26 t.first.length 1 6).call rfl rfl rfl ?_
  cases hc : decide ((1 : Int) ≤ (t.first.length : Int) ∧ (t.first.length : Int) ≤ 6) with
  | false =>
    have : checkT t = 4 := chk4 (.inl (by simp only [decide_eq_false_iff_not] at hc; omega))
    rw [this]
    simp only [go_sem]
  | true =>
    have h0 : 1 ≤ t.first.length ∧ t.first.length ≤ 6 := by simp only [decide_eq_true_eq] at hc; omega
    simp only [go_sem]
    refine ALoop.by (S := Nat) (fun i => [(4, .d (.int .i64 i)), (3, .d (.int .i64 t.first.length)), (1, .ptr 0 0)]) (fun _ => [townB t]) (fun i => t.first.length - i)
      (fun i => i ≤ t.first.length ∧ (∀ j, j < i → nm (t.first.getD j default) = true) ∧ ∀ j k, k < j → j < i → t.first.getD k default ≠ t.first.getD j default) 0 (Nat.zero_le _) (fun _ h => nomatch h) ⟨Nat.zero_le _, fun _ h => by omega, fun _ _ _ h => by omega⟩ (ForgetTo.same' (Nat.zero_le _) ⟨rfl, rfl, rfl, trivial⟩ rfl) ?_
    rintro i ⟨hi, hA, hB⟩ hn
    refine AWP.run (fun _ => false) tt_ok (fun _ h => nomatch h) (Nat.zero_le _) rfl ?_
    simp only [go_sem, townB]
    refine Br_split (fun hd => ?_) (fun hd => ?_) <;> simp only [go_sem, hd]
    · have hlt : i < t.first.length := by simpa using hd
      have hix : idx? (t.first.map D.str) (i : Int) = some (.str (t.first.getD i default)) := by rw [getDG hlt]; simp [idx?, List.getElem?_eq_getElem hlt]
      have hsz : (t.first.getD i default).size ≤ 1000 := by rw [getDG hlt]; exact hfn _ (List.getElem_mem hlt)
      have hnx : IntKind.i64.wrap ((i : Int) + 1) = ((i + 1 : Nat) : Int) := by rw [w64 (by omega) (by omega)]; omega
      have bad := fun e => chk4 (t := t) (.inr (.inl ⟨i, hlt, e⟩))
      have bad2 := fun k hk e => chk4 (t := t) (.inr (.inr ⟨k, i, hk, hlt, e⟩))
      have c28a := c28 (t.first.getD i default) hsz
      have fin : (nm (t.first.getD i default) = true) → (∀ k, k < i → t.first.getD k default ≠ t.first.getD i default) → (∀ j, j < i + 1 → nm (t.first.getD j default) = true) ∧ ∀ j k, k < j → j < i + 1 → t.first.getD k default ≠ t.first.getD j default := fun e1 e2 => by
        refine ⟨fun j hj => ?_, fun j k hk hj => ?_⟩
        · rcases Nat.lt_or_ge j i with h | h
          · exact hA j h
          · rw [show j = i by omega]; exact e1
        · rcases Nat.lt_or_ge j i with h | h
          · exact hB j k hk h
          · rw [show j = i by omega] at hk ⊢; exact e2 k hk
      generalize hz : t.first.getD i default = z at *
      simp only [go_sem, hix]
      refine c28a.call rfl rfl rfl ?_
      cases hm : nm z with
      | false =>
        rw [bad hm]
        simp only [go_sem]
      | true =>
        simp only [go_sem]
        refine ALoop.by (S := Nat) (fun k => [(5, .d (.int .i64 k)), (4, .d (.int .i64 i)), (3, .d (.int .i64 t.first.length)), (1, .ptr 0 0)]) (fun _ => [townB t]) (fun k => i - k)
          (fun k => k ≤ i ∧ ∀ o, o < k → t.first.getD o default ≠ z) 0 (Nat.zero_le _) (fun _ h => nomatch h) ⟨Nat.zero_le _, fun _ h => by omega⟩ (ForgetTo.same' (Nat.zero_le _) ⟨rfl, rfl, rfl, rfl, trivial⟩ rfl) ?_
        rintro k ⟨hk, hC⟩ hn2
        refine AWP.run (fun _ => false) tt_ok (fun _ h => nomatch h) (Nat.zero_le _) rfl ?_
        simp only [go_sem, townB]
        refine Br_split (fun he => ?_) (fun he => ?_) <;> simp only [go_sem, he]
        · have hki : k < i := by simpa using he
          have hkx : idx? (t.first.map D.str) (k : Int) = some (.str (t.first.getD k default)) := by rw [getDG (show k < t.first.length by omega)]; simp [idx?, List.getElem?_eq_getElem (show k < t.first.length by omega)]
          have hnk : IntKind.i64.wrap ((k : Int) + 1) = ((k + 1 : Nat) : Int) := by rw [w64 (by omega) (by omega)]; omega
          refine ADrw.treeG (fun _ => false) tt_ok (by kernel_rfl) (fun k => if k = 1 ∨ k = 6 then some .L else some .S) (.ones [0, 1, 2, 3, 4, 5, 6, 7, 8, 9, 10] .done) (Nat.zero_le _) (fun _ h => nomatch h) rfl rfl (by kernel_rfl) ?_
          simp only [go_sem, hix, hkx, beq_str]
          refine Br_split (fun hf => ?_) (fun hf => ?_) <;> simp only [go_sem, hf]
          · rw [bad2 k hki (by simpa using hf)]
          · simp only [go_sem, hnk]
            refine ⟨k + 1, ⟨by omega, fun o ho => ?_⟩, by omega, ForgetTo.same' (Nat.zero_le _) ⟨rfl, rfl, rfl, rfl, trivial⟩ rfl⟩
            rcases Nat.lt_or_ge o k with h | h
            · exact hC o h
            · rw [show o = k by omega]; simpa using hf
        · have hki : k = i := by simp only [decide_eq_false_iff_not] at he; omega
          simp only [go_sem, hnx]
          exact ⟨i + 1, ⟨hlt, fin hm (hki ▸ hC)⟩, by omega, ForgetTo.same' (Nat.zero_le _) ⟨rfl, rfl, rfl, trivial⟩ rfl⟩
    · have hie : i = t.first.length := by simp only [decide_eq_false_iff_not] at hd; omega
      subst hie
      rw [chkR h0 hA hB]
      simp only [go_sem, List.length_map]
      refine Br_split (fun he => ?_) (fun he => ?_) <;> simp only [go_sem, he]
      · rw [if_pos (by simp only [decide_eq_true_eq] at he; omega)]
      · rw [if_neg (by simp only [decide_eq_false_iff_not] at he; omega)]
        refine ALoop.by (S := Nat) (fun i => [(6, .d (.int .i64 i)), (3, .d (.int .i64 t.first.length)), (1, .ptr 0 0)]) (fun _ => [townB t]) (fun i => t.ch.length - i)
          (fun i => i ≤ t.ch.length ∧ (t.ch.take i).any (fun c => !chgOk t.first.length c) = false) 0 (Nat.zero_le _) (fun _ h => nomatch h) ⟨Nat.zero_le _, rfl⟩ (ForgetTo.same' (Nat.zero_le _) ⟨rfl, rfl, rfl, trivial⟩ rfl) ?_
        rintro j ⟨hj, hx⟩ hn2
        refine AWP.run (fun _ => false) tt_ok (fun _ h => nomatch h) (Nat.zero_le _) rfl ?_
        simp only [go_sem, townB, List.length_map]
        refine Br_split (fun hf => ?_) (fun hf => ?_) <;> simp only [go_sem, hf]
        · have hlt : j < t.ch.length := by simpa using hf
          have hix : idx? (t.ch.map Chg.d) (j : Int) = some t.ch[j].d := by simp [idx?, List.getElem?_eq_getElem hlt]
          have hnj : IntKind.i64.wrap ((j : Int) + 1) = ((j + 1 : Nat) : Int) := by rw [w64 (by omega) (by omega)]; omega
          have c39a := c39 t.ch[j] t.first.length (by omega) (hcn _ (List.getElem_mem hlt))
          have bad : chgOk t.first.length t.ch[j] = false → t.ch.any (fun c => !chgOk t.first.length c) = true := fun e => List.any_eq_true.2 ⟨_, List.getElem_mem hlt, by rw [e]; rfl⟩
          have fin : chgOk t.first.length t.ch[j] = true → (t.ch.take (j + 1)).any (fun c => !chgOk t.first.length c) = false := fun e => by rw [List.take_succ_eq_append_getElem hlt, List.any_append, hx]; simp [e]
          generalize t.ch[j] = c at *
          simp only [go_sem, hix]
          refine c39a.call rfl rfl rfl ?_
          cases hm : chgOk t.first.length c with
          | false =>
            rw [bad hm]
            simp only [go_sem, if_true]
          | true =>
            simp only [go_sem, hnj]
            exact ⟨j + 1, ⟨hlt, fin hm⟩, by omega, ForgetTo.same' (Nat.zero_le _) ⟨rfl, rfl, rfl, trivial⟩ rfl⟩
        · have hje : j = t.ch.length := by simp only [decide_eq_false_iff_not] at hf; omega
          subst hje
          rw [List.take_length] at hx
          rw [hx]
          simp only [go_sem, Bool.false_eq_true, if_false]

theorem c25 (t : Town) (h1 : t.first.length ≤ 1000) (h2 : t.ch.length ≤ 1000) (hfn : ∀ s ∈ t.first, s.size ≤ 1000) (hcn : ∀ c ∈ t.ch, c.name.size ≤ 1000) : PC prog 25 [.d t.d] (.d (.int .i64 (openE t))) := by
  refine PC.run (fun _ => false) tt_ok (fn := f25) (rs := [.tmp 2]) rfl rfl rfl rfl rfl rfl rfl ?_
  simp only [go_sem, Town.d]
  refine (c19 t h1 h2 hfn hcn).call rfl rfl rfl ?_
  by_cases hc : checkT t = 0
  · have hok := checkT_iff.1 hc
    have e2 : openE t = if (nbT t).2.2 ≠ [] then 9 else 0 := by rw [openE, if_neg (by rw [hc]; simp)]
    rw [e2, hc]
    simp only [go_sem]
    have c21a := c21 t hok
    rw [firstV] at c21a
    by_cases hl : (nbT t).2.2 = []
    · rw [if_pos hl] at c21a
      rw [if_neg (by simpa using hl)]
      refine c21a.call rfl rfl rfl ?_
      simp only [go_sem]
    · rw [if_neg hl] at c21a
      rw [if_pos hl]
      refine c21a.call rfl rfl rfl ?_
      have : decide ((nbT t).2.1 ≤ 1000) = true := by
        rcases nbT_spec hok with ⟨k, hk, e, _⟩ | ⟨e, _⟩
        · rw [e]; exact decide_eq_true hk.2
        · rw [e]; rfl
      simp only [go_sem, this]
  · have e2 : openE t = checkT t := by rw [openE, if_pos hc]
    rw [e2]
    have d1 : decide (checkT t = 0) = false := decide_eq_false hc
    simp only [go_sem, d1]
end Go.Aw
end

section
set_option maxRecDepth 100000
namespace Go.Aw
open Go Go.Proofs.Tryz

def allW (t : Town) (l : List ByteArray) (i : Nat) : List ByteArray := (l ++ t.first) ++ (t.ch.take i).map (·.name)
def longB (t : Town) (l : List ByteArray) : Bool :=
  decide (20 < t.first.length) || (decide (20 < t.ch.length) || (decide (20 < l.length) || (allW t l t.ch.length).any fun s => decide (40 < s.size)))

theorem long_fits {t : Town} {l : List ByteArray} (h : longB t l = false) : t.Small ∧ t.first.length ≤ 20 ∧ t.ch.length ≤ 20 ∧ l.length ≤ 20 ∧ (∀ s ∈ t.first, s.size ≤ 40) ∧ (∀ c ∈ t.ch, c.name.size ≤ 40) ∧ ∀ s ∈ l, s.size ≤ 40 := by
  simp only [longB, Bool.or_eq_false_iff, decide_eq_false_iff_not, Nat.not_lt, List.any_eq_false, decide_eq_true_eq, allW, List.take_length, List.mem_append, List.mem_map] at h
  obtain ⟨h1, h2, h3, h4⟩ := h
  have f1 : ∀ s ∈ t.first, s.size ≤ 40 := fun s hs => h4 s (.inl (.inr hs))
  have f2 : ∀ c ∈ t.ch, c.name.size ≤ 40 := fun c hc => h4 _ (.inr ⟨c, hc, rfl⟩)
  exact ⟨⟨by omega, by omega, fun s hs => by have := f1 s hs; omega, fun c hc => by have := f2 c hc; omega⟩, h1, h2, h3, f1, f2, fun s hs => h4 s (.inl (.inl hs))⟩

theorem allW_succ (t : Town) (l : List ByteArray) {i : Nat} (h : i < t.ch.length) : allW t l (i + 1) = allW t l i ++ [t.ch[i].name] := by
  rw [allW, List.take_succ_eq_append_getElem h, List.map_append, ← List.append_assoc]; rfl

theorem c14 (t : Town) (l : List ByteArray) : PC prog 14 [.d t.d, .d (.sl (l.map .str))] (.d (.bool (longB t l))) := by
  refine PC.run (fun k => k == 23) tt_ok (fn := f14) (rs := [.tmp 4]) rfl rfl rfl rfl rfl rfl rfl ?_
  simp only [go_sem, Town.d, List.length_map]
  have hb : ∀ n : Nat, decide ((20 : Int) < (n : Int)) = decide (20 < n) := fun n => by rw [Bool.eq_iff_iff, decide_eq_true_eq, decide_eq_true_eq]; omega
  rw [longB]
  simp only [hb]
  cases d1 : decide (20 < t.first.length) with
  | true => simp only [go_sem, hb, d1, Bool.true_or]
  | false =>
  cases d2 : decide (20 < t.ch.length) with
  | true => simp only [go_sem, hb, d1, d2, Bool.true_or, Bool.false_or, List.length_map]
  | false =>
  simp only [go_sem, hb, d1, d2, Bool.true_or, Bool.false_or, List.length_map]
  have h1 : t.first.length ≤ 20 := by simp only [decide_eq_false_iff_not] at d1; omega
  have h2 : t.ch.length ≤ 20 := by simp only [decide_eq_false_iff_not] at d2; omega
  have s1 := sized_strs t.first
  have s2 := sized_strs l
  cases d3 : decide (20 < l.length) with
  | true =>
    simp only [go_sem, hb, d1, d2, d3, Bool.true_or, Bool.false_or, List.length_map]
    try simp only [go_sem]
  | false =>
  have h3 : l.length ≤ 20 := by simp only [decide_eq_false_iff_not] at d3; omega
  have b1 : t.first.length ≤ 4294967296 := by omega
  have b2 : l.length ≤ 4294967296 := by omega
  have b3 : l.length + t.first.length ≤ 4294967296 := by omega
  have b4 : 0 + l.length + t.first.length ≤ 4294967296 := by omega
  simp only [go_sem, hb, d1, d2, d3, Bool.true_or, Bool.false_or, List.length_map, s1, s2, List.length_nil, List.map_nil, b1, b2, b3]
  try simp only [go_sem, hb, d1, d2, d3, Bool.true_or, Bool.false_or, List.length_map, s1, s2, List.length_nil, List.map_nil, b1, b2, b3]
  simp only [Bool.false_or]
  refine ALoop.by (S := Nat) (fun i => [(6, .d (.int .i64 i)), (5, .ref 1 (allW t l i).length 0 (allW t l i).length), (2, .ptr 0 0)]) (fun i => [townB t, .arr 1 false ((allW t l i).map .str)]) (fun i => t.ch.length - i) (fun i => i ≤ t.ch.length) 0 (Nat.zero_le _) (fun _ h => nomatch h) (Nat.zero_le _) ?_ ?_
  · exact ForgetTo.same' (Nat.zero_le _) (by simp [EWe, Env.look, allW]) (by simp [townB, allW])
  rintro i hi hn
  refine AWP.run (fun _ => false) tt_ok (fun _ h => nomatch h) (Nat.zero_le _) rfl ?_
  simp only [go_sem, townB, List.length_map]
  refine Br_split (fun hd => ?_) (fun hd => ?_) <;> simp only [go_sem, hd]
  · have hlt : i < t.ch.length := by simpa using hd
    have hix : idx? (t.ch.map Chg.d) (i : Int) = some t.ch[i].d := by simp [idx?, List.getElem?_eq_getElem hlt]
    have hcd : t.ch[i].d = .agg [.int .i64 t.ch[i].at', .int .i64 t.ch[i].st, .str t.ch[i].name] := rfl
    have hnx : IntKind.i64.wrap ((i : Int) + 1) = ((i + 1 : Nat) : Int) := by rw [w64 (by omega) (by omega)]; omega
    have hsu := allW_succ t l hlt
    have hln : (allW t l i).length ≤ 60 := by simp [allW]; omega
    have fin : ∀ (A : List ByteArray) (E : Env), A = allW t l (i + 1) → EWe E [(6, .d (.int .i64 ((i + 1 : Nat) : Int))), (5, .ref 1 A.length 0 A.length), (2, .ptr 0 0)] →
        ∃ s', s' ≤ t.ch.length ∧ t.ch.length - s' < t.ch.length - i ∧ ForgetTo 0 E [townB t, .arr 1 false (A.map .str)] [(6, .d (.int .i64 s')), (5, .ref 1 (allW t l s').length 0 (allW t l s').length), (2, .ptr 0 0)] [townB t, .arr 1 false ((allW t l s').map .str)] := fun A E hA hE => by
      subst hA
      exact ⟨i + 1, hlt, by omega, ForgetTo.same' (Nat.zero_le _) hE rfl⟩
    rw [hsu] at fin
    clear hsu
    simp only [townB] at fin
    rw [hcd] at hix
    generalize allW t l i = A at *
    generalize t.ch[i].at' = x1 at *
    generalize t.ch[i].st = x2 at *
    generalize t.ch[i].name = x3 at *
    have s3 : sized 1 [D.str x3] = true := rfl
    have b5 : A.length + 1 ≤ 4294967296 := by omega
    simp only [go_sem, hix, s3, List.length_map, List.length_cons, List.length_nil, b5, hnx]
    have f2 := fun E => fin (A ++ [x3]) E rfl
    simp only [List.map_append, List.map_cons, List.map_nil, List.length_append, List.length_cons, List.length_nil, Nat.zero_add] at f2
    exact f2 _ ⟨rfl, rfl, rfl, trivial⟩
  · have hie : i = t.ch.length := by simp only [decide_eq_false_iff_not] at hd; omega
    subst hie
    have hln : (allW t l t.ch.length).length ≤ 60 := by simp [allW]; omega
    generalize allW t l t.ch.length = A at *
    refine ALoop.by (S := Nat) (fun i => [(7, .d (.int .i64 i)), (5, .ref 1 A.length 0 A.length)]) (fun _ => [townB t, .arr 1 false (A.map .str)]) (fun i => A.length - i)
      (fun i => i ≤ A.length ∧ (A.take i).any (fun s => decide (40 < s.size)) = false) 0 (Nat.zero_le _) (fun _ h => nomatch h) ⟨Nat.zero_le _, rfl⟩ (ForgetTo.same' (Nat.zero_le _) ⟨rfl, rfl, trivial⟩ rfl) ?_
    rintro i ⟨hi, hx⟩ hn2
    refine AWP.run (fun _ => false) tt_ok (fun _ h => nomatch h) (Nat.zero_le _) rfl ?_
    simp only [go_sem, townB, List.length_map]
    refine Br_split (fun he => ?_) (fun he => ?_) <;> simp only [go_sem, he]
    · have hlt : i < A.length := by simpa using he
      have hix : idx? (A.map D.str) (i : Int) = some (.str A[i]) := by simp [idx?, List.getElem?_eq_getElem hlt]
      have hnx : IntKind.i64.wrap ((i : Int) + 1) = ((i + 1 : Nat) : Int) := by rw [w64 (by omega) (by omega)]; omega
      have bad : 40 < A[i].size → A.any (fun s => decide (40 < s.size)) = true := fun e => List.any_eq_true.2 ⟨_, List.getElem_mem hlt, decide_eq_true e⟩
      have fin : ¬ 40 < A[i].size → (A.take (i + 1)).any (fun s => decide (40 < s.size)) = false := fun e => by rw [List.take_succ_eq_append_getElem hlt, List.any_append, hx]; simp; omega
      generalize A[i] = x at *
      have i1 : (0 : Int) ≤ (i : Int) ∧ (i : Int) < (A.length : Int) := by omega
      have hg : (A.map D.str)[i]? = some (.str x) := by simpa [idx?] using hix
      simp only [go_sem, hix, List.length_map, hlt, i1, Int.toNat_natCast, hg]
      refine Br_split (fun hf => ?_) (fun hf => ?_) <;> simp only [go_sem, hf]
      · rw [bad (by simp only [decide_eq_true_eq] at hf; omega)]
      · simp only [go_sem, hnx]
        exact ⟨i + 1, ⟨hlt, fin (by simp only [decide_eq_false_iff_not] at hf; omega)⟩, by omega, ForgetTo.same' (Nat.zero_le _) ⟨rfl, rfl, trivial⟩ rfl⟩
    · have hie : i = A.length := by simp only [decide_eq_false_iff_not] at he; omega
      subst hie
      rw [List.take_length] at hx
      rw [hx]
end Go.Aw
end

section
set_option maxRecDepth 100000
namespace Go.Aw
open Go Go.Proofs.Tryz

theorem clashT_len (t : Town) (k : Int) : (clashT t k).length ≤ t.first.length := by
  have h1 := List.length_filter_le (fun s : Nat => decide (1 < (t.ch.filter fun c => decide (c.at' = k ∧ c.st = (s : Int))).length)) (List.range t.first.length)
  rw [clashT]
  split
  · rw [twiceT]; simpa using h1
  · rw [alikeT]; refine Nat.le_trans (List.length_filter_le _ _) ?_; simp

theorem c3 (t : Town) : PC prog 3 [.d t.d] (.d (.bool true)) := by
  refine PC.run (fun _ => false) tt_ok (fn := f3) (rs := [.tmp 2]) rfl rfl rfl rfl rfl rfl rfl ?_
  simp only [go_sem, Town.d]
  refine (c14 t []).call rfl rfl rfl ?_
  cases hlong : longB t [] with
  | true =>
    simp only [go_sem]
    refine c15.call rfl rfl rfl ?_
    simp only [go_sem]
  | false =>
    obtain ⟨hs, l1, l2, _, m1, m2, _⟩ := long_fits hlong
    have c16a := c16 t (by omega) (by omega)
    have c17a := c17 t hs
    have c18a := c18 t hs
    have c19a := c19 t (by omega) (by omega) hs.fn hs.cn
    have c20a := c20 t (by omega) (by omega)
    simp only [Town.d] at c16a c17a c18a c19a c20a
    simp only [go_sem]
    refine c16a.call rfl rfl rfl ?_
    simp only [go_sem]
    refine c17a.call rfl rfl rfl ?_
    simp only [go_sem]
    by_cases hc : checkT t = 0
    · have hok := checkT_iff.1 hc
      have c21a := c21 t hok
      simp only [Town.d] at c21a
      rw [firstV] at c21a
      rw [hc] at c19a
      by_cases hl : (nbT t).2.2 = []
      · have e : clashP t = (0, [], 6) := by rw [clashP, if_neg (by rw [hc]; simp), if_pos hl]
        rw [if_pos hl] at c21a
        rw [e] at c18a
        refine c18a.call rfl rfl rfl ?_
        simp only [go_sem, hc, lvI]
        refine c19a.call rfl rfl rfl ?_
        simp only [go_sem]
        refine c20a.call rfl rfl rfl ?_
        simp only [go_sem]
        refine c21a.call rfl rfl rfl ?_
        simp only [go_sem]
        refine c15.call rfl rfl rfl ?_
        simp only [go_sem]
      · have e : clashP t = ((nbT t).2.1, (nbT t).2.2, 0) := by rw [clashP, if_neg (by rw [hc]; simp), if_neg hl]
        have h1000 : decide ((nbT t).2.1 ≤ 1000) = true := by
          rcases nbT_spec hok with ⟨k, hk, e, _⟩ | ⟨e, _⟩
          · rw [e]; exact decide_eq_true hk.2
          · rw [e]; rfl
        have hlen : (nbT t).2.2.length ≤ 4294967296 := by
          rcases nbT_spec hok with ⟨k, hk, e, _⟩ | ⟨e, _⟩
          · rw [e]
            have : (natI (clashT t k)).length ≤ t.first.length := by rw [natI, List.length_map]; exact clashT_len t k
            show (natI (clashT t k)).length ≤ _
            omega
          · rw [e]; exact Nat.zero_le _
        have hlv : lvI (nbT t).2.2 = .d (.sl ((nbT t).2.2.map (.int .i64))) := by
          cases hl2 : (nbT t).2.2 with
          | nil => exact absurd hl2 hl
          | cons a b => rfl
        rw [if_neg hl] at c21a
        rw [e] at c18a
        simp only [hlv] at c18a
        have c22a := c22 (nbT t).2.2 (nbT t).2.2 hlen hlen
        generalize (nbT t).2.2 = l at *
        generalize (nbT t).2.1 = hr at *
        refine c18a.call rfl rfl rfl ?_
        simp only [go_sem, hc]
        refine c19a.call rfl rfl rfl ?_
        simp only [go_sem]
        refine c20a.call rfl rfl rfl ?_
        simp only [go_sem]
        refine c21a.call rfl rfl rfl ?_
        simp only [go_sem, h1000, decide_true]
        refine c22a.call rfl rfl rfl ?_
        simp only [go_sem, decide_true]
        refine c15.call rfl rfl rfl ?_
        simp only [go_sem]
    · have e : clashP t = (0, [], checkT t) := by rw [clashP, if_pos hc]
      rw [e] at c18a
      have d1 : decide (checkT t = 0) = false := decide_eq_false hc
      refine c18a.call rfl rfl rfl ?_
      simp only [go_sem, lvI]
      refine c19a.call rfl rfl rfl ?_
      simp only [go_sem]
      refine c20a.call rfl rfl rfl ?_
      simp only [go_sem, d1, decide_true]
      refine c15.call rfl rfl rfl ?_
      simp only [go_sem]
end Go.Aw
end

section
set_option maxRecDepth 100000
namespace Go.Aw
open Go Go.Proofs

theorem has_int {f : Nat} {y : D} (h : HasT Tryz.prog (f + 1) 3 y) : ∃ n, y = .int .i64 n ∧ (Lit.int .i64 n).wf = true := by
  unfold HasT at h
  rw [Tryz.underlying3] at h
  exact h

theorem has_list {α : Type} {enc : α → D} {p : D → Prop} (he : ∀ y, p y → ∃ s, y = enc s) : ∀ l : List D, (∀ y ∈ l, p y) → ∃ ss : List α, l = ss.map enc
  | [], _ => ⟨[], rfl⟩
  | y :: r, h => by
    obtain ⟨s, rfl⟩ := he y (h y (by simp))
    obtain ⟨ss, rfl⟩ := has_list he r fun z hz => h z (List.mem_cons_of_mem _ hz)
    exact ⟨s :: ss, rfl⟩

theorem has_str {f : Nat} {y : D} (h : HasT Tryz.prog (f + 1) 9 y) : ∃ s, y = .str s := by
  unfold HasT at h
  rw [Tryz.underlying9] at h
  obtain ⟨s, rfl, _⟩ := h
  exact ⟨s, rfl⟩

theorem has_strs {f : Nat} {y : D} (h : HasT Tryz.prog (f + 2) 22 y) : ∃ l : List ByteArray, y = .sl (l.map .str) := by
  unfold HasT at h
  rw [Tryz.underlying22] at h
  obtain ⟨l, rfl, h1, hl⟩ := h
  obtain ⟨ss, rfl⟩ := has_list (fun y hy => has_str (f := f) hy) l hl
  exact ⟨ss, rfl⟩

theorem has_chg {f : Nat} {y : D} (h : HasT Tryz.prog (f + 2) 60 y) : ∃ c : Chg, y = c.d := by
  unfold HasT at h
  rw [Tryz.underlying60] at h
  obtain ⟨l, rfl, h⟩ := h
  simp only [HasFs] at h
  obtain ⟨y1, r1, rfl, h1, y2, r2, rfl, h2, y3, r3, rfl, h3, rfl⟩ := h
  obtain ⟨n1, rfl, _⟩ := has_int h1
  obtain ⟨n2, rfl, _⟩ := has_int h2
  obtain ⟨n3, rfl⟩ := has_str h3
  exact ⟨⟨n1, n2, n3⟩, rfl⟩

theorem has_chgs {f : Nat} {y : D} (h : HasT Tryz.prog (f + 3) 23 y) : ∃ l : List Chg, y = .sl (l.map Chg.d) := by
  unfold HasT at h
  rw [Tryz.underlying23] at h
  obtain ⟨l, rfl, h1, hl⟩ := h
  obtain ⟨ss, rfl⟩ := has_list (fun y hy => has_chg (f := f) hy) l hl
  exact ⟨ss, rfl⟩

theorem has_town {f : Nat} {y : D} (h : HasT Tryz.prog (f + 4) 25 y) : ∃ t : Town, y = t.d := by
  unfold HasT at h
  rw [Tryz.underlying25] at h
  obtain ⟨l, rfl, h⟩ := h
  simp only [HasFs] at h
  obtain ⟨y1, r1, rfl, h1, y2, r2, rfl, h2, rfl⟩ := h
  obtain ⟨a, rfl⟩ := has_strs h1
  obtain ⟨b, rfl⟩ := has_chgs h2
  exact ⟨⟨a, b⟩, rfl⟩
end Go.Aw
end

section
set_option maxRecDepth 100000
namespace Go.Aw
open Go Go.Proofs.Tryz

/-- What the law wants of Who before it looks at the streets. -/
def wantN (t : Town) (name : ByteArray) (hour : Int) : Int :=
  if openE t ≠ 0 then openE t else if nm name = false then 4 else if ¬(0 ≤ hour ∧ hour ≤ 1000) then 3 else 0

abbrev post1 (r : Nat) : Ex → Env → Heap → Prop := FnPost Tt [.tmp r] 0 fun r H' => H' = [] ∧ r = .d (.bool true)

def e4a (name : ByteArray) (n hour : Int) : Env := [(9, .d (.int .i64 hour)), (8, .d (.int .i64 n)), (7, .ptr 2 0), (3, .ptr 0 0), (1, .d (.str name))]
def h4a (t : Town) (n hour : Int) : Heap := [townB t, .cells [.d (.int .i64 n), .d (.int .i64 hour)], townB t]
def e4b (t : Town) (name : ByteArray) (hour want : Int) : Env := [(14, .d (.int .i64 want)), (13, .d (.int .i64 (whoP t name hour).2)), (12, .d (.int .i64 (whoP t name hour).1)), (9, .d (.int .i64 hour)), (3, .ptr 0 0), (1, .d (.str name))]

theorem c4_a (t : Town) (name : ByteArray) (n hour : Int)
    (hrest : longB t [name] = false → AWP prog f4.ntmps 0 none (restC 3 (bodyOf f4)) (e4a name n hour) (h4a t n hour) (post1 6)) :
    PC prog 4 [.d t.d, .d (.str name), .d (.agg [.int .i64 n, .int .i64 hour])] (.d (.bool true)) := by
  refine PC.of_body tt_ok (fn := f4) (c := bodyOf f4) (rs := [.tmp 6]) rfl rfl rfl rfl rfl rfl ?_
  cases hlong : longB t [name] with
  | true =>
    have c14a := c14 t [name]
    rw [hlong] at c14a
    refine AWP.runS (fun _ => false) tt_ok (fun _ h => nomatch h) (Nat.zero_le _) rfl ?_
    simp only [go_sem, Town.d]
    refine c14a.call rfl rfl rfl ?_
    simp only [go_sem]
    refine c15.call rfl rfl rfl ?_
    simp only [go_sem]
  | false =>
    have c14a := c14 t [name]
    rw [hlong] at c14a
    obtain ⟨hs, l1, l2, _, m1, m2, m3⟩ := long_fits hlong
    refine AWP.stepN 3 (e4a name n hour) (h4a t n hour) (fun _ => false) tt_ok (fun _ h => nomatch h) (Nat.zero_le _) rfl ?_ (hrest hlong)
    simp only [go_sem, Town.d]
    refine c14a.call rfl rfl rfl ?_
    have c16a := c16 t (by omega) (by omega)
    simp only [go_sem]
    refine ADrw.treeG (fun _ => false) tt_ok (by kernel_rfl) (fun k => if k = 0 ∨ k = 3 ∨ k = 5 then some .L else if k = 7 then some .W else if k = 6 then some .A else some .S) (.ones [0, 1, 2, 4] (.three 3 (.two 5 (.ones [6, 7, 8, 9] .done) 6 (.two 5 (.ones [7, 8, 9] .done) 7 (.ones [5, 8, 9] .done))) 5 (.two 3 (.ones [6, 7, 8, 9] .done) 6 (.two 3 (.ones [7, 8, 9] .done) 7 (.ones [3, 8, 9] .done))) 6 (.three 3 (.two 5 (.ones [7, 8, 9] .done) 7 (.ones [5, 8, 9] .done)) 5 (.two 3 (.ones [7, 8, 9] .done) 7 (.ones [3, 8, 9] .done)) 7 (.ones [3, 5, 8, 9] .done)))) (Nat.zero_le _) (fun _ h => nomatch h) rfl rfl (by kernel_rfl) ?_
    simp only [go_sem]
    simp only [Town.d] at c16a
    refine c16a.callS rfl rfl rfl rfl rfl rfl ?_
    simp only [go_sem]
    have leaf : ∀ E, EWe E (e4a name n hour) → ForgetTo 0 E [.cells [.d (.sl (t.first.map .str)), .d (.sl (t.ch.map Chg.d))], .cells [.d (.int .i64 n), .d (.int .i64 hour)], .cells [.d (.sl (t.first.map .str)), .d (.sl (t.ch.map Chg.d))]] (e4a name n hour) (h4a t n hour) := fun E hE => ForgetTo.same' (Nat.zero_le _) hE rfl
    repeat' (first | (refine leaf _ ?_; exact ⟨rfl, rfl, rfl, rfl, rfl, trivial⟩) | refine And.intro ?_ ?_)

theorem c4_b (t : Town) (name : ByteArray) (n hour : Int) (hlong : longB t [name] = false)
    (hrest : AWP prog f4.ntmps 0 none (restC 8 (restC 3 (bodyOf f4))) (e4b t name hour (openE t)) [townB t] (post1 6)) :
    AWP prog f4.ntmps 0 none (restC 3 (bodyOf f4)) (e4a name n hour) (h4a t n hour) (post1 6) := by
  obtain ⟨hs, l1, l2, _, m1, m2, m3⟩ := long_fits hlong
  have hnm : name.size ≤ 1000 := by have := m3 name (by simp); omega
  refine AWP.stepN 8 (e4b t name hour (openE t)) [townB t] (fun _ => false) tt_ok (fun _ h => nomatch h) (Nat.zero_le _) rfl ?_ hrest
  clear hrest
  have c23a := c23 t hs n hour
  have c24a := c24 t hs name hnm hour
  have c20a := c20 t (by omega) (by omega)
  have c25a := c25 t (by omega) (by omega) hs.fn hs.cn
  have c26a := c26 n 0 ((t.first.length : Int) - 1)
  have w1 : IntKind.i64.wrap ((t.first.length : Int) - 1) = (t.first.length : Int) - 1 := w64 (by omega) (by omega)
  have e1 : decide (0 ≤ n ∧ n ≤ (t.first.length : Int) - 1) = decide (0 ≤ n ∧ n < (t.first.length : Int)) := by rw [Bool.eq_iff_iff, decide_eq_true_eq, decide_eq_true_eq]; omega
  rw [e1] at c26a
  have c26b := c26 hour 0 1000
  have c27a : (h : 0 ≤ n ∧ n < (t.first.length : Int)) → PC prog 27 [.d t.d, .d (.int .i64 n), .d (.int .i64 hour)] (.d (.str (calledT t n.toNat hour))) := fun h => by
    have := c27 t (by omega) (s := n.toNat) (by omega) hour
    rwa [show ((n.toNat : Nat) : Int) = n by omega] at this
  have hd0 : ∀ {α : Type} [DecidableEq α] (l : α), decide (l = l) = true := fun l => by simp
  have fin : ∀ E, EWp 1 [.cells [.d (.sl (t.first.map .str)), .d (.sl (t.ch.map Chg.d))], .cells [.d (.int .i64 n), .d (.int .i64 hour)], .cells [.d (.sl (t.first.map .str)), .d (.sl (t.ch.map Chg.d))]] E (e4b t name hour (openE t)) → ForgetTo 0 E [.cells [.d (.sl (t.first.map .str)), .d (.sl (t.ch.map Chg.d))], .cells [.d (.int .i64 n), .d (.int .i64 hour)], .cells [.d (.sl (t.first.map .str)), .d (.sl (t.ch.map Chg.d))]] (e4b t name hour (openE t)) [townB t] := fun E hE =>
    ForgetTo.drop (H0 := [_]) (Y := [_, _]) (Nat.zero_le _) rfl (by simp [BBs, BB, VBs, VB, townB]) hE
  generalize hN : nameP t n hour = N at *
  simp only [Town.d] at c23a c24a c20a c25a c27a
  simp only [go_sem, e4a, h4a, townB]
  refine c23a.call rfl rfl rfl ?_
  simp only [go_sem]
  refine c24a.call rfl rfl rfl ?_
  simp only [go_sem]
  refine c20a.call rfl rfl rfl ?_
  simp only [go_sem]
  refine c25a.call rfl rfl rfl ?_
  rw [nameP] at hN
  by_cases ho : openE t = 0
  · rw [if_neg (by simpa using ho)] at hN
    rw [ho] at fin ⊢
    simp only [go_sem, List.length_map, w1]
    refine c26a.call rfl rfl rfl ?_
    by_cases h1 : 0 ≤ n ∧ n < (t.first.length : Int)
    · rw [if_neg (by simpa using h1)] at hN
      simp only [go_sem, decide_eq_true h1]
      refine c26b.call rfl rfl rfl ?_
      by_cases h2 : 0 ≤ hour ∧ hour ≤ 1000
      · rw [if_neg (by simpa using h2)] at hN
        subst hN
        simp only [go_sem, decide_eq_true h2, beq_ba, Bool.not_true]
        refine (c27a h1).call rfl rfl rfl ?_
        simp only [go_sem, beq_ba]
        refine fin _ ?_; exact ⟨⟨rfl, rfl⟩, ⟨rfl, rfl⟩, ⟨rfl, rfl⟩, ⟨rfl, rfl⟩, ⟨rfl, rfl⟩, ⟨rfl, rfl⟩, trivial⟩
      · rw [if_pos (by simpa using h2)] at hN
        subst hN
        simp only [go_sem, decide_eq_false h2, beq_ba, Bool.not_true]
        refine fin _ ?_; exact ⟨⟨rfl, rfl⟩, ⟨rfl, rfl⟩, ⟨rfl, rfl⟩, ⟨rfl, rfl⟩, ⟨rfl, rfl⟩, ⟨rfl, rfl⟩, trivial⟩
    · rw [if_pos (by simpa using h1)] at hN
      subst hN
      simp only [go_sem, decide_eq_false h1, beq_ba, Bool.not_true]
      refine fin _ ?_; exact ⟨⟨rfl, rfl⟩, ⟨rfl, rfl⟩, ⟨rfl, rfl⟩, ⟨rfl, rfl⟩, ⟨rfl, rfl⟩, ⟨rfl, rfl⟩, trivial⟩
  · rw [if_pos (by simpa using ho)] at hN
    have d1 : decide (openE t = 0) = false := decide_eq_false ho
    subst hN
    simp only [go_sem, d1, hd0, beq_ba, Bool.not_true]
    refine fin _ ?_; exact ⟨⟨rfl, rfl⟩, ⟨rfl, rfl⟩, ⟨rfl, rfl⟩, ⟨rfl, rfl⟩, ⟨rfl, rfl⟩, ⟨rfl, rfl⟩, trivial⟩

theorem c4_c (t : Town) (name : ByteArray) (hour : Int) (hnm : name.size ≤ 1000)
    (hrest : AWP prog f4.ntmps 0 none (restC 2 (restC 8 (restC 3 (bodyOf f4)))) (e4b t name hour (wantN t name hour)) [townB t] (post1 6)) :
    AWP prog f4.ntmps 0 none (restC 8 (restC 3 (bodyOf f4))) (e4b t name hour (openE t)) [townB t] (post1 6) := by
  refine AWP.stepN 2 (e4b t name hour (wantN t name hour)) [townB t] (fun _ => false) tt_ok (fun _ h => nomatch h) (Nat.zero_le _) rfl ?_ hrest
  clear hrest
  have c28a := c28 name hnm
  have c26b := c26 hour 0 1000
  have fin : ∀ E, EWe E (e4b t name hour (wantN t name hour)) → ForgetTo 0 E [.cells [.d (.sl (t.first.map .str)), .d (.sl (t.ch.map Chg.d))]] (e4b t name hour (wantN t name hour)) [townB t] := fun E hE => ForgetTo.same' (Nat.zero_le _) hE rfl
  simp only [e4b] at fin ⊢
  generalize whoP t name hour = W at *
  rw [wantN] at fin ⊢
  by_cases ho : openE t = 0
  · rw [if_neg (by simpa using ho)] at fin ⊢
    rw [ho]
    simp only [go_sem, townB]
    refine c28a.call rfl rfl rfl ?_
    cases h1 : nm name with
    | true =>
      rw [h1, if_neg (by simp)] at fin
      rw [if_neg (by simp)]
      simp only [go_sem]
      refine c26b.call rfl rfl rfl ?_
      by_cases h2 : 0 ≤ hour ∧ hour ≤ 1000
      · rw [if_neg (by simpa using h2)] at fin ⊢
        simp only [go_sem, decide_eq_true h2]
        refine fin _ ?_; exact ⟨rfl, rfl, rfl, rfl, rfl, rfl, trivial⟩
      · rw [if_pos (by simpa using h2)] at fin ⊢
        simp only [go_sem, decide_eq_false h2]
        refine fin _ ?_; exact ⟨rfl, rfl, rfl, rfl, rfl, rfl, trivial⟩
    | false =>
      rw [h1, if_pos rfl] at fin
      rw [if_pos rfl]
      simp only [go_sem]
      refine fin _ ?_; exact ⟨rfl, rfl, rfl, rfl, rfl, rfl, trivial⟩
  · rw [if_pos (by simpa using ho)] at fin ⊢
    have d1 : decide (openE t = 0) = false := decide_eq_false ho
    simp only [go_sem, d1, townB]
    refine fin _ ?_; exact ⟨rfl, rfl, rfl, rfl, rfl, rfl, trivial⟩

theorem who_hit {t : Town} {name : ByteArray} {hour : Int} (hw : wantN t name hour = 0) {i : Nat} (hi : i < t.first.length) (hb : ∀ j, j < i → calledT t j hour ≠ name) (he : calledT t i hour = name) : whoP t name hour = ((i : Int), 0) := by
  rw [wantN] at hw
  split at hw
  · rename_i h; exact absurd hw h
  rename_i h1
  split at hw
  · cases hw
  rename_i h2
  split at hw
  · cases hw
  rename_i h3
  have hk : idx (fun x => name == x) (namesT t hour) 0 = i := by
    rcases Classical.em (idx (fun x => name == x) (namesT t hour) 0 = -1) with h | h
    · have := idx_none _ _ 0 (by omega) h (calledT t i hour) (List.mem_map.2 ⟨i, List.mem_range.2 hi, rfl⟩)
      rw [he, beq_ba] at this; cases this
    · obtain ⟨j, h4, h5, h6, x, h7, h8⟩ := idx_some _ _ 0 _ (by omega) rfl h
      rw [h4]
      have hj : (namesT t hour)[j]? = some (calledT t j hour) := by rw [namesT, List.getElem?_map, List.getElem?_range (by simpa [namesT] using h5)]; rfl
      rw [hj] at h7
      have hx : name = calledT t j hour := by have := h8; rw [← Option.some.inj h7, beq_str, decide_eq_true_eq] at this; exact this
      rcases Nat.lt_trichotomy i j with h | h | h
      · have hi' : (namesT t hour)[i]? = some (calledT t i hour) := by rw [namesT, List.getElem?_map, List.getElem?_range hi]; rfl
        have := h6 i h _ hi'
        rw [he, beq_ba] at this; cases this
      · subst h; simp
      · exact absurd hx.symm (hb j h)
  rw [whoP, if_neg h1, if_neg h2, if_neg h3, hk, if_neg (by omega)]

theorem who_none {t : Town} {name : ByteArray} {hour : Int} (hw : wantN t name hour = 0) (hb : ∀ j, j < t.first.length → calledT t j hour ≠ name) : whoP t name hour = (0, 7) := by
  rw [wantN] at hw
  split at hw
  · rename_i h; exact absurd hw h
  rename_i h1
  split at hw
  · cases hw
  rename_i h2
  split at hw
  · cases hw
  rename_i h3
  have hk : idx (fun x => name == x) (namesT t hour) 0 = -1 := by
    rcases Classical.em (idx (fun x => name == x) (namesT t hour) 0 = -1) with h | h
    · exact h
    · obtain ⟨j, h4, h5, h6, x, h7, h8⟩ := idx_some _ _ 0 _ (by omega) rfl h
      have h5' : j < t.first.length := by simpa [namesT] using h5
      have hj : (namesT t hour)[j]? = some (calledT t j hour) := by rw [namesT, List.getElem?_map, List.getElem?_range h5']; rfl
      rw [hj] at h7
      have hx : name = calledT t j hour := by have := h8; rw [← Option.some.inj h7, beq_str, decide_eq_true_eq] at this; exact this
      exact absurd hx.symm (hb j h5')
  rw [whoP, if_neg h1, if_neg h2, if_neg h3, hk, if_pos (by decide)]

theorem who_err {t : Town} {name : ByteArray} {hour : Int} (hw : wantN t name hour ≠ 0) : whoP t name hour = (0, wantN t name hour) := by
  rw [whoP, wantN] at *
  split
  · rfl
  rename_i h1
  rw [if_neg h1] at hw
  split
  · rfl
  rename_i h2
  rw [if_neg h2] at hw
  split
  · rfl
  rename_i h3
  rw [if_neg h3] at hw
  exact absurd rfl hw

theorem c4 (t : Town) (name : ByteArray) (n hour : Int) : PC prog 4 [.d t.d, .d (.str name), .d (.agg [.int .i64 n, .int .i64 hour])] (.d (.bool true)) := by
  refine c4_a t name n hour fun hlong => c4_b t name n hour hlong ?_
  obtain ⟨hs, l1, l2, _, m1, m2, m3⟩ := long_fits hlong
  refine c4_c t name hour (by have := m3 name (by simp); omega) ?_
  have hit := fun hw (i : Nat) hi => @who_hit t name hour hw i hi
  have non := @who_none t name hour
  have err := @who_err t name hour
  simp only [e4b]
  generalize wantN t name hour = w at *
  generalize whoP t name hour = W at *
  refine AWP.runS (fun _ => false) tt_ok (fun _ h => nomatch h) (Nat.zero_le _) rfl ?_
  simp only [go_sem]
  refine ALoop.by (S := Nat) (fun i => [(16, .d (.int .i64 i)), (14, .d (.int .i64 w)), (13, .d (.int .i64 W.2)), (12, .d (.int .i64 W.1)), (9, .d (.int .i64 hour)), (3, .ptr 0 0), (1, .d (.str name))]) (fun _ => [townB t]) (fun i => t.first.length - i)
    (fun i => i ≤ t.first.length ∧ ∀ j, j < i → calledT t j hour ≠ name) 0 (Nat.zero_le _) (fun _ h => nomatch h) ⟨Nat.zero_le _, fun _ h => by omega⟩ (ForgetTo.same' (Nat.zero_le _) ⟨rfl, rfl, rfl, rfl, rfl, rfl, rfl, trivial⟩ rfl) ?_
  rintro i ⟨hi, hb⟩ hn
  refine AWP.run (fun _ => false) tt_ok (fun _ h => nomatch h) (Nat.zero_le _) rfl ?_
  simp only [go_sem, townB, List.length_map]
  refine Br_split (fun hd => ?_) (fun hd => ?_) <;> simp only [go_sem, hd]
  · have hlt : i < t.first.length := by simpa using hd
    cases hw : decide (w = 0) with
    | true =>
      have hw0 : w = 0 := by simpa using hw
      simp only [go_sem, hw]
      have c27a := c27 t (by omega) hlt hour
      have h1 := hit hw0 i hlt hb
      generalize hc : calledT t i hour = c at *
      have hnx : IntKind.i64.wrap ((i : Int) + 1) = ((i + 1 : Nat) : Int) := by rw [w64 (by omega) (by omega)]; omega
      have nxt : c ≠ name → ∀ j, j < i + 1 → calledT t j hour ≠ name := fun h j hj => by
        rcases Nat.lt_or_ge j i with h' | h'
        · exact hb j h'
        · rw [show j = i by omega, hc]; exact h
      simp only [Town.d] at c27a
      refine c27a.call rfl rfl rfl ?_
      simp only [go_sem, beq_str]
      refine Br_split (fun he => ?_) (fun he => ?_) <;> simp only [go_sem, he]
      · rw [h1 (by simpa using he)]
        simp only [go_sem, decide_true]
        refine c15.call rfl rfl rfl ?_
        simp only [go_sem]
      · simp only [go_sem, hnx]
        exact ⟨i + 1, ⟨hlt, nxt (by simpa using he)⟩, by omega, ForgetTo.same' (Nat.zero_le _) ⟨rfl, rfl, rfl, rfl, rfl, rfl, rfl, trivial⟩ rfl⟩
    | false =>
      have hw0 : w ≠ 0 := by simpa using hw
      rw [err hw0]
      simp only [go_sem, hw, decide_true]
      refine c15.call rfl rfl rfl ?_
      simp only [go_sem]
  · have hie : i = t.first.length := by simp only [decide_eq_false_iff_not] at hd; omega
    subst hie
    cases hw : decide (w = 0) with
    | true =>
      have hw0 : w = 0 := by simpa using hw
      rw [non hw0 hb]
      simp only [go_sem, hw]
      refine c15.call rfl rfl rfl ?_
      simp only [go_sem]
    | false =>
      have hw0 : w ≠ 0 := by simpa using hw
      rw [err hw0]
      simp only [go_sem, hw, decide_true]
      refine c15.call rfl rfl rfl ?_
      simp only [go_sem]
end Go.Aw
end

section
set_option maxRecDepth 100000
namespace Go.Aw
open Go Go.Proofs.Tryz

def foldH {α : Type} (G : α → Nat → α) (a : α) (lo : Nat) : Nat → α
  | 0 => a
  | n + 1 => G (foldH G a lo n) (lo + n)

theorem foldH_range {α : Type} (G : α → Nat → α) (a : α) (lo : Nat) : ∀ n, (List.range (lo + n)).foldl G a = foldH G ((List.range lo).foldl G a) lo n
  | 0 => rfl
  | n + 1 => by rw [← Nat.add_assoc, List.range_succ, List.foldl_append, foldH_range G a lo n]; rfl

theorem foldH_congr {α : Type} {G G' : α → Nat → α} (a : α) (lo : Nat) : ∀ n, (∀ k a, lo ≤ k → k < lo + n → G a k = G' a k) → foldH G a lo n = foldH G' a lo n
  | 0, _ => rfl
  | n + 1, h => by rw [foldH, foldH, foldH_congr a lo n fun k a h1 h2 => h k a h1 (by omega)]; exact h _ _ (by omega) (by omega)

def endN (P : List Page) (i : Nat) : Nat := match P[i]? with
  | some p => p.hour.toNat
  | none => 1001

theorem hours_fold {α : Type} {t : Town} (ht : t.Ok) {P : List Page} (hP : PgOk t P) (F : α → Int × Int × List ByteArray → α) (G : α → List ByteArray → Nat → α)
    (hFG : ∀ (a : α) (ns : List ByteArray) (lo n : Nat), lo + n ≤ 1000 → (∀ k, lo ≤ k → k ≤ lo + n → ns = namesT t k) → foldH (fun a h => G a ns h) a lo (n + 1) = F a ((lo : Int), ((lo + n : Nat) : Int), ns)) (a : α) :
    (List.range 1001).foldl (fun a (h : Nat) => G a (namesT t h) h) a = (timesL P).foldl F a := by
  have ha := List.pairwise_iff_getElem.1 hP.asc
  obtain ⟨r, hr⟩ := hP.head
  have key : ∀ i, i ≤ P.length → (List.range (endN P i)).foldl (fun a (h : Nat) => G a (namesT t h) h) a = ((timesL P).take i).foldl F a := by
    intro i
    induction i with
    | zero =>
      intro _
      have : endN P 0 = 0 := by rw [endN, hr]; rfl
      rw [this]; rfl
    | succ i ih =>
      intro hi
      have hil : i < P.length := by omega
      have hlo : endN P i = P[i].hour.toNat := by rw [endN, List.getElem?_eq_getElem hil]
      have hb := hP.hrs _ (List.getElem_mem hil)
      have hhi : endN P i < endN P (i + 1) ∧ endN P (i + 1) ≤ 1001 ∧ hiP (P.drop (i + 1)) = ((endN P (i + 1) : Nat) : Int) - 1 ∧ ∀ h3 : i + 1 < P.length, P[i + 1].hour = ((endN P (i + 1) : Nat) : Int) := by
        rcases Nat.lt_or_ge (i + 1) P.length with h | h
        · have e : endN P (i + 1) = P[i + 1].hour.toNat := by rw [endN, List.getElem?_eq_getElem h]
          have hb2 := hP.hrs _ (List.getElem_mem h)
          have := ha i (i + 1) hil h (by omega)
          refine ⟨by omega, by omega, ?_, fun _ => by omega⟩
          rw [List.drop_eq_getElem_cons h, hiP]; omega
        · have e : endN P (i + 1) = 1001 := by rw [endN, List.getElem?_eq_none h]
          refine ⟨by omega, by omega, ?_, fun h3 => by omega⟩
          rw [List.drop_eq_nil_of_le h, e]; rfl
      obtain ⟨h1, h2, h3, h4⟩ := hhi
      obtain ⟨n, hn⟩ : ∃ n, endN P (i + 1) = endN P i + (n + 1) := ⟨endN P (i + 1) - endN P i - 1, by omega⟩
      have hT : i < (timesL P).length := by rw [timesL_len]; exact hil
      rw [hn, foldH_range, ih (by omega), List.take_succ_eq_append_getElem hT, List.foldl_append, List.foldl_cons, List.foldl_nil, timesL_get P i hil, h3, hn]
      have hnm : ∀ k : Nat, endN P i ≤ k → k ≤ endN P i + n → P[i].names = namesT t k := fun k k1 k2 => page_names ht hP hil (by omega) fun h5 => by have := h4 h5; omega
      rw [foldH_congr (G' := fun a h => G a P[i].names h) _ _ _ fun k a k1 k2 => by rw [← hnm k k1 (by omega)], hFG _ _ _ _ (by omega) hnm]
      congr 1
      rw [hlo]
      refine Prod.ext ?_ (Prod.ext ?_ rfl)
      · show ((P[i].hour.toNat : Nat) : Int) = P[i].hour; omega
      · show ((P[i].hour.toNat + n : Nat) : Int) = ((P[i].hour.toNat + (n + 1) : Nat) : Int) - 1; omega
  have := key P.length (Nat.le_refl _)
  rw [List.take_of_length_le (by rw [timesL_len]; exact Nat.le_refl _)] at this
  rw [← this, endN, List.getElem?_eq_none (Nat.le_refl _)]

end Go.Aw
end

section
set_option maxRecDepth 100000
namespace Go.Aw
open Go Go.Proofs.Tryz

/-- A block of integers. -/
def celC (N : Nat) (f : Nat → Int) : List V := (List.range N).map fun j => .d (.int .i64 (f j))
theorem celC_len (N : Nat) (f : Nat → Int) : (celC N f).length = N := by simp [celC]
theorem celC_head {N : Nat} (f : Nat → Int) {j : Nat} (h : j < N) : headV (List.drop j (celC N f)) = some (.d (.int .i64 (f j))) := by
  rw [List.drop_eq_getElem_cons (by rw [celC_len]; exact h)]
  simp [headV, celC]
theorem celC_set {N : Nat} (f : Nat → Int) {j : Nat} (h : j < N) (v : Int) : splice (celC N f) j [.d (.int .i64 v)] = celC N fun m => if m = j then v else f m := by
  refine List.ext_getElem? fun m => ?_
  rw [splice, List.length_singleton, List.append_assoc, List.getElem?_append, List.length_take, celC_len, Nat.min_eq_left (by omega)]
  by_cases h1 : m < j
  · rw [if_pos h1, List.getElem?_take_of_lt h1]
    simp only [celC, List.getElem?_map]
    rw [List.getElem?_range (by omega)]
    simp [show ¬ m = j by omega]
  · rw [if_neg h1, List.singleton_append]
    by_cases h2 : m = j
    · subst h2
      rw [Nat.sub_self]
      simp [celC, List.getElem?_range h]
    · rw [show m - j = (m - j - 1) + 1 by omega, List.getElem?_cons_succ, List.getElem?_drop, show j + 1 + (m - j - 1) = m by omega]
      simp only [celC, List.getElem?_map]
      by_cases h3 : m < N
      · rw [List.getElem?_range h3]; simp [h2]
      · rw [List.getElem?_eq_none (by simp; omega)]; rfl

def Tab (a b : ByteArray) (f : Nat → Int) (i k : Nat) : Prop :=
  (∀ x y, x < i → y ≤ b.size → f (x * 11 + y) = (ftA a.data.toList b.data.toList x y : Nat)) ∧ ∀ y, y < k → f (i * 11 + y) = (ftA a.data.toList b.data.toList i y : Nat)

theorem Tab.next {a b : ByteArray} {f : Nat → Int} {i k : Nat} (h : Tab a b f i k) (hb : b.size ≤ 10) (hk : k ≤ b.size) {v : Int} (hv : v = (ftA a.data.toList b.data.toList i k : Nat)) : Tab a b (fun m => if m = i * 11 + k then v else f m) i (k + 1) := by
  refine ⟨fun x y hx hy => ?_, fun y hy => ?_⟩
  · show (if x * 11 + y = i * 11 + k then v else f (x * 11 + y)) = _
    rw [if_neg (by omega)]; exact h.1 x y hx hy
  · show (if i * 11 + y = i * 11 + k then v else f (i * 11 + y)) = _
    by_cases e : y = k
    · subst e; rw [if_pos rfl, hv]
    · rw [if_neg (by omega)]; exact h.2 y (by omega)

theorem Tab.row {a b : ByteArray} {f : Nat → Int} {i : Nat} (h : Tab a b f i (b.size + 1)) : Tab a b f (i + 1) 0 := by
  refine ⟨fun x y hx hy => ?_, fun y hy => by omega⟩
  rcases Nat.lt_or_ge x i with h1 | h1
  · exact h.1 x y h1 hy
  · rw [show x = i by omega]; exact h.2 y (by omega)

theorem c92 (a b : ByteArray) (ha : a.size ≤ 10) (hb : b.size ≤ 10) : PC prog 92 [.d (.str a), .d (.str b)] (.d (.int .i64 (faultsP a b))) := by
  refine PC.run (fun _ => false) tt_ok (fn := f92) (rs := [.tmp 4]) rfl rfl rfl rfl rfl rfl rfl ?_
  simp only [go_sem]
  refine ALoop.by (S := Nat × (Nat → Int)) (fun s => [(6, .d (.int .i64 s.1)), (5, .ptr 0 0), (1, .d (.str b)), (0, .d (.str a))]) (fun s => [.cells (celC 121 s.2)]) (fun s => a.size + 1 - s.1) (fun s => s.1 ≤ a.size + 1 ∧ Tab a b s.2 s.1 0) (0, fun _ => 0) (Nat.zero_le _) (fun _ h => nomatch h) ⟨Nat.zero_le _, fun _ _ h => by omega, fun _ h => by omega⟩ ?_ ?_
  · exact ForgetTo.same' (Nat.zero_le _) ⟨rfl, rfl, rfl, rfl, trivial⟩ rfl
  rintro ⟨i, f⟩ ⟨hi, hT⟩ hn
  dsimp only at hi hT ⊢
  refine AWP.run (fun _ => false) tt_ok (fun _ h => nomatch h) (Nat.zero_le _) rfl ?_
  simp only [go_sem]
  refine Br_split (fun hd => ?_) (fun hd => ?_) <;> simp only [go_sem, hd]
  · have hia : i ≤ a.size := by simp only [decide_eq_true_eq] at hd; omega
    have hni : IntKind.i64.wrap ((i : Int) + 1) = ((i + 1 : Nat) : Int) := by rw [w64 (by omega) (by omega)]; omega
    refine ALoop.by (S := Nat × (Nat → Int)) (fun s => [(7, .d (.int .i64 s.1)), (6, .d (.int .i64 i)), (5, .ptr 0 0), (1, .d (.str b)), (0, .d (.str a))]) (fun s => [.cells (celC 121 s.2)]) (fun s => b.size + 1 - s.1) (fun s => s.1 ≤ b.size + 1 ∧ Tab a b s.2 i s.1) (0, f) (Nat.zero_le _) (fun _ h => nomatch h) ⟨Nat.zero_le _, hT⟩ ?_ ?_
    · exact ForgetTo.same' (Nat.zero_le _) ⟨rfl, rfl, rfl, rfl, rfl, trivial⟩ rfl
    clear hT hn f
    rintro ⟨k, f⟩ ⟨hk, hT⟩ hn
    dsimp only at hk hT ⊢
    refine AWP.run (fun _ => false) tt_ok (fun _ h => nomatch h) (Nat.zero_le _) rfl ?_
    simp only [go_sem]
    refine Br_split (fun he => ?_) (fun he => ?_) <;> simp only [go_sem, he]
    · have hkb : k ≤ b.size := by simp only [decide_eq_true_eq] at he; omega
      have hnk : IntKind.i64.wrap ((k : Int) + 1) = ((k + 1 : Nat) : Int) := by rw [w64 (by omega) (by omega)]; omega
      have c1 : (0 : Int) ≤ (i : Int) ∧ (i : Int) < 11 := by omega
      have c2 : (0 : Int) ≤ (k : Int) ∧ (k : Int) < 11 := by omega
      have hl := celC_len 121 f
      have fin : ∀ v o E, o = i * 11 + k → v = ((ftA a.data.toList b.data.toList i k : Nat) : Int) → EWe E [(7, .d (.int .i64 ((k + 1 : Nat) : Int))), (6, .d (.int .i64 i)), (5, .ptr 0 0), (1, .d (.str b)), (0, .d (.str a))] →
          ∃ s : Nat × (Nat → Int), (s.1 ≤ b.size + 1 ∧ Tab a b s.2 i s.1) ∧ b.size + 1 - s.1 < b.size + 1 - k ∧ ForgetTo 0 E [.cells (List.take o (celC 121 f) ++ [.d (.int .i64 v)] ++ List.drop (o + 1) (celC 121 f))] [(7, .d (.int .i64 s.1)), (6, .d (.int .i64 i)), (5, .ptr 0 0), (1, .d (.str b)), (0, .d (.str a))] [.cells (celC 121 s.2)] := fun v o E ho hv hE => by
        subst ho
        refine ⟨(k + 1, fun m => if m = i * 11 + k then v else f m), ⟨by show k + 1 ≤ _; omega, hT.next hb hkb hv⟩, by show b.size + 1 - (k + 1) < _; omega, ?_⟩
        have := celC_set (N := 121) f (j := i * 11 + k) (by omega) v
        rw [splice, List.length_singleton] at this
        rw [this]
        exact ForgetTo.same' (Nat.zero_le _) hE rfl
      have hlt : i * 11 + k < 121 := by omega
      cases i with
      | zero =>
        have q1 : k ≤ 120 := by omega
        simp only [go_sem, c1, c2, Int.toNat_natCast, Nat.mul_one, hl, hnk, q1]
        refine fin _ _ _ (by omega) rfl ?_
        exact ⟨rfl, rfl, rfl, rfl, rfl, trivial⟩
      | succ i =>
        have z1 : decide (((i + 1 : Nat) : Int) = 0) = false := decide_eq_false (by omega)
        cases k with
        | zero =>
          have q1 : (i + 1) * 11 ≤ 120 := by omega
          simp only [go_sem, z1, c1, c2, Int.toNat_natCast, Nat.mul_one, hl, hnk, q1]
          refine fin _ _ _ (by omega) rfl ?_
          exact ⟨rfl, rfl, rfl, rfl, rfl, trivial⟩
        | succ k =>
          have z2 : decide (((k + 1 : Nat) : Int) = 0) = false := decide_eq_false (by omega)
          have w1 : IntKind.i64.wrap (((i + 1 : Nat) : Int) - 1) = (i : Int) := by rw [w64 (by omega) (by omega)]; omega
          have w2 : IntKind.i64.wrap (((k + 1 : Nat) : Int) - 1) = (k : Int) := by rw [w64 (by omega) (by omega)]; omega
          have hai := aindex_str (T := Tt) (z := ⟨#[]⟩) (k := .i64) (s := a) (i := i) (by omega)
          have hbk := aindex_str (T := Tt) (z := ⟨#[]⟩) (k := .i64) (s := b) (i := k) (by omega)
          have hcm : decide (((a.data.toList.getD i 0).toNat : Int) = ((b.data.toList.getD k 0).toNat : Int)) = decide (a.data.toList.getD i 0 = b.data.toList.getD k 0) := by
            rw [Bool.eq_iff_iff, decide_eq_true_eq, decide_eq_true_eq, ← UInt8.toNat_inj]; omega
          have c3 : (0 : Int) ≤ (i : Int) ∧ (i : Int) < 11 := by omega
          have c4 : (0 : Int) ≤ (k : Int) ∧ (k : Int) < 11 := by omega
          have hsu := ftA_succ a.data.toList b.data.toList i k
          have l1 := ftA_le a.data.toList b.data.toList i k
          have l2 := ftA_le a.data.toList b.data.toList (i + 1) k
          have l3 := ftA_le a.data.toList b.data.toList i (k + 1)
          have h1 := celC_head (N := 121) f (j := i * 11 + k) (by omega)
          have h2 := celC_head (N := 121) f (j := i * 11 + (k + 1)) (by omega)
          have h3 := celC_head (N := 121) f (j := (i + 1) * 11 + k) (by omega)
          rw [hT.1 i k (by omega) (by omega)] at h1
          rw [hT.1 i (k + 1) (by omega) (by omega)] at h2
          rw [hT.2 k (by omega)] at h3
          rw [hsu] at fin
          clear hsu hT
          generalize ftA a.data.toList b.data.toList i k = f0 at *
          generalize ftA a.data.toList b.data.toList i (k + 1) = f1 at *
          generalize ftA a.data.toList b.data.toList (i + 1) k = f2 at *
          generalize a.data.toList.getD i 0 = x at *
          generalize b.data.toList.getD k 0 = y at *
          have wf1 : IntKind.i64.wrap ((f0 : Int) + 1) = (f0 : Int) + 1 := w64 (by omega) (by omega)
          have wf2 : IntKind.i64.wrap (1 + (f2 : Int)) = 1 + (f2 : Int) := w64 (by omega) (by omega)
          have wf3 : IntKind.i64.wrap (1 + (f1 : Int)) = 1 + (f1 : Int) := w64 (by omega) (by omega)
          have q1 : (i + 1) * 11 + (k + 1) ≤ 120 := by omega
          simp only [go_sem, z1, z2, w1, w2, c1, c2, c3, c4, Int.toNat_natCast, Nat.mul_one, hl, hnk, h1]
          refine ADrw.treeG (fun _ => false) tt_ok (by kernel_rfl) (fun k => some .S) (.ones [0, 1, 2, 3, 4, 5, 6, 7, 8] .done) (Nat.zero_le _) (fun _ h => nomatch h) rfl rfl (by kernel_rfl) ?_
          simp only [go_sem, w1, w2, hai, hbk, hcm]
          by_cases hxy : x = y
          · rw [if_pos hxy] at fin
            simp only [go_sem, decide_eq_true hxy]
            refine ADrw.treeG (fun _ => false) tt_ok (by kernel_rfl) (fun k => if k = 8 ∨ k = 15 then some .L else if k = 20 then some .W else some .S) (.ones [0, 1, 2, 3, 4, 5, 6, 7, 8, 9, 10, 11, 12, 13, 14, 15, 16, 17, 18, 19, 20] .done) (Nat.zero_le _) (fun _ h => nomatch h) rfl rfl (by kernel_rfl) ?_
            simp only [go_sem, w1, w2, c1, c2, c3, c4, Int.toNat_natCast, Nat.mul_one, hl, hnk, h2, h3, wf2, wf3, q1]
            refine fin _ _ _ rfl (by omega) ?_
            exact ⟨rfl, rfl, rfl, rfl, rfl, trivial⟩
          · rw [if_neg hxy] at fin
            simp only [go_sem, decide_eq_false hxy, wf1]
            refine ADrw.treeG (fun _ => false) tt_ok (by kernel_rfl) (fun k => if k = 8 ∨ k = 15 then some .L else if k = 20 then some .W else some .S) (.ones [0, 1, 2, 3, 4, 5, 6, 7, 8, 9, 10, 11, 12, 13, 14, 15, 16, 17, 18, 19, 20] .done) (Nat.zero_le _) (fun _ h => nomatch h) rfl rfl (by kernel_rfl) ?_
            simp only [go_sem, w1, w2, c1, c2, c3, c4, Int.toNat_natCast, Nat.mul_one, hl, hnk, h2, h3, wf2, wf3, q1]
            refine fin _ _ _ rfl (by omega) ?_
            exact ⟨rfl, rfl, rfl, rfl, rfl, trivial⟩
    · have hke : k = b.size + 1 := by simp only [decide_eq_false_iff_not] at he; omega
      subst hke
      simp only [go_sem, hni]
      exact ⟨(i + 1, f), ⟨by show i + 1 ≤ _; omega, hT.row⟩, by show a.size + 1 - (i + 1) < _; omega, ForgetTo.same' (Nat.zero_le _) ⟨rfl, rfl, rfl, rfl, trivial⟩ rfl⟩
  · have hie : i = a.size + 1 := by simp only [decide_eq_false_iff_not] at hd; omega
    subst hie
    have c1 : (0 : Int) ≤ (a.size : Int) ∧ (a.size : Int) < 11 := by omega
    have c2 : (0 : Int) ≤ (b.size : Int) ∧ (b.size : Int) < 11 := by omega
    have hl := celC_len 121 f
    have hh := celC_head (N := 121) f (j := a.size * 11 + b.size) (by omega)
    rw [hT.1 a.size b.size (by omega) (Nat.le_refl _)] at hh
    simp only [go_sem, c1, c2, Int.toNat_natCast, Nat.mul_one, hl, hh, faultsP]
end Go.Aw
end

section
set_option maxRecDepth 100000
namespace Go.Aw
open Go Go.Proofs.Tryz

theorem ftA_max (a b : List UInt8) : ∀ i k, ftA a b i k ≤ max i k
  | 0, k => by show k ≤ _; omega
  | i + 1, 0 => by rw [ftA_zero]; omega
  | i + 1, k + 1 => by
    have := ftA_max a b i k
    rw [ftA_succ]
    split <;> omega

/-- The least of some numbers, from one on. -/
def minN (F : Nat → Nat) (z : Nat) (n : Nat) : Nat := (List.range n).foldl (fun m k => min m (F k)) z
theorem minN_succ (F : Nat → Nat) (z n : Nat) : minN F z (n + 1) = min (minN F z n) (F n) := by rw [minN, List.range_succ, List.foldl_append]; rfl
theorem minN_le (F : Nat → Nat) (z : Nat) : ∀ n k, k < n → minN F z n ≤ F k
  | 0, k, h => by omega
  | n + 1, k, h => by
    rw [minN_succ]
    rcases Nat.lt_or_ge k n with h1 | h1
    · have := minN_le F z n k h1; omega
    · rw [show k = n by omega]; omega
theorem minN_z (F : Nat → Nat) (z : Nat) : ∀ n, minN F z n ≤ z
  | 0 => Nat.le_refl _
  | n + 1 => by have := minN_z F z n; rw [minN_succ]; omega
theorem minN_eq (F : Nat → Nat) (hF : ∀ k, F k ≤ 10) : ∀ n, minN F 99 (n + 1) = minN F 11 (n + 1)
  | 0 => by have := hF 0; rw [minN_succ, minN_succ]; show min 99 _ = min 11 _; omega
  | n + 1 => by rw [minN_succ, minN_eq F hF n, ← minN_succ]

def eqTo (F : Nat → Nat) (m n : Nat) : List Int := natI ((List.range n).filter fun k => decide (F k = m))
theorem eqTo_succ (F : Nat → Nat) (m n : Nat) : eqTo F m (n + 1) = eqTo F m n ++ if F n = m then [(n : Int)] else [] := by
  rw [eqTo, eqTo, natI, natI, List.range_succ, List.filter_append, List.map_append]
  congr 1
  rw [List.filter_cons, List.filter_nil]
  split <;> simp_all
theorem eqTo_len (F : Nat → Nat) (m n : Nat) : (eqTo F m n).length ≤ n := by
  have := List.length_filter_le (fun k => decide (F k = m)) (List.range n)
  rw [eqTo, natI, List.length_map]; simpa using this

theorem nearF_eq (word : ByteArray) (names : List ByteArray) : ∀ n, nearF word names n = (minN (fun k => faultsP word (names.getD k default)) 11 n, eqTo (fun k => faultsP word (names.getD k default)) (minN (fun k => faultsP word (names.getD k default)) 11 n) n)
  | 0 => rfl
  | n + 1 => by
    rw [nearF_succ, nearF_eq word names n, minN_succ, eqTo_succ, nearS]
    have hm := minN_le (fun k => faultsP word (names.getD k default)) 11 n
    generalize hF : (fun k => faultsP word (names.getD k default)) = F at *
    have hFn : ∀ n, faultsP word (names.getD n default) = F n := fun n => by rw [← hF]
    try simp only [hFn] at hm
    try simp only [hFn]
    generalize minN F 11 n = m at *
    by_cases h1 : F n < m
    · rw [if_pos h1, if_pos (by omega), Nat.min_eq_right (by omega)]
      have : eqTo F (F n) n = [] := by
        rw [eqTo, List.filter_eq_nil_iff.2]
        · rfl
        · intro k hk
          have := hm k (by simpa using hk)
          simp only [decide_eq_true_eq]; omega
      rw [this]; rfl
    · rw [if_neg h1, Nat.min_eq_left (by omega)]
      by_cases h2 : F n = m
      · rw [if_pos h2, if_pos h2]
      · rw [if_neg h2, if_neg h2, List.append_nil]

theorem called_size {t : Town} (ht : t.Ok) {s : Nat} (hs : s < t.first.length) (h : Int) : 1 ≤ (calledT t s h).size ∧ (calledT t s h).size ≤ 10 := nm_size (called_nm ht hs h)

theorem c45 {t : Town} (ht : t.Ok) (word : ByteArray) (hw : word.size ≤ 10) (hour : Int) :
    PC prog 45 [.d t.d, .d (.str word), .d (.int .i64 hour)] (.tup [.d (.sl ((nearF word (namesT t hour) t.first.length).2.map (.int .i64))), .d (.int .i64 (nearF word (namesT t hour) t.first.length).1)]) := by
  have hl1 := ht.len
  have hl2 := ht.chl
  have hN : ∀ k, (namesT t hour).getD k default = if k < t.first.length then calledT t k hour else default := fun k => by
    by_cases h : k < t.first.length
    · rw [if_pos h, namesT_get h]
    · rw [if_neg h, List.getD_eq_getElem?_getD, List.getElem?_eq_none (by rw [namesT_len]; omega)]; rfl
  have hF10 : ∀ k, faultsP word ((namesT t hour).getD k default) ≤ 10 := fun k => by
    have hm := ftA_max word.data.toList ((namesT t hour).getD k default).data.toList word.size ((namesT t hour).getD k default).size
    have hs : ((namesT t hour).getD k default).size ≤ 10 := by
      rw [hN]
      split
      · rename_i h; exact (called_size ht h hour).2
      · decide
    rw [faultsP]; omega
  rw [nearF_eq]
  have hms := minN_eq (fun k => faultsP word ((namesT t hour).getD k default)) hF10
  have hmz := minN_z (fun k => faultsP word ((namesT t hour).getD k default)) 99
  have hFs : ∀ s, s < t.first.length → PC prog 92 [.d (.str word), .d (.str (calledT t s hour))] (.d (.int .i64 ((fun k => faultsP word ((namesT t hour).getD k default)) s : Nat))) := fun s hs => by
    have := c92 word (calledT t s hour) hw (called_size ht hs hour).2
    simp only [namesT_get hs]; exact this
  generalize (fun k => faultsP word ((namesT t hour).getD k default)) = F at *
  refine PC.run (fun k => k == 12) tt_ok (fn := f45) (rs := [.tmp 6, .tmp 7]) rfl rfl rfl rfl rfl rfl rfl ?_
  simp only [go_sem, Town.d]
  refine ALoop.by (S := Nat) (fun s => [(10, .d (.int .i64 s)), (9, .ref 1 0 0 0), (8, .d (.int .i64 (minN F 99 s : Nat))), (3, .ptr 0 0), (2, .d (.int .i64 hour)), (1, .d (.str word))]) (fun _ => [townB t, .arr 1 false []]) (fun s => t.first.length - s) (fun s => s ≤ t.first.length) 0 (Nat.zero_le _) (fun _ h => nomatch h) (Nat.zero_le _) (ForgetTo.same' (Nat.zero_le _) ⟨rfl, rfl, rfl, rfl, rfl, rfl, trivial⟩ rfl) ?_
  rintro s hs hn
  refine AWP.run (fun _ => false) tt_ok (fun _ h => nomatch h) (Nat.zero_le _) rfl ?_
  simp only [go_sem, townB, List.length_map]
  refine Br_split (fun hd => ?_) (fun hd => ?_) <;> simp only [go_sem, hd]
  · have hlt : s < t.first.length := by simpa using hd
    have hnx : IntKind.i64.wrap ((s : Int) + 1) = ((s + 1 : Nat) : Int) := by rw [w64 (by omega) (by omega)]; omega
    have c27a := c27 t (by omega) hlt hour
    have c92a := hFs s hlt
    have hms := minN_succ F 99 s
    generalize calledT t s hour = c at *
    simp only [Town.d] at c27a
    refine c27a.call rfl rfl rfl ?_
    simp only [go_sem]
    refine c92a.call rfl rfl rfl ?_
    simp only [go_sem, hnx]
    refine ⟨s + 1, hlt, by omega, ?_⟩
    rw [hms]
    refine ForgetTo.same' (Nat.zero_le _) ⟨rfl, rfl, ?_, rfl, rfl, rfl, trivial⟩ rfl
    show V.d (.int .i64 (min ((minN F 99 s : Nat) : Int) (F s : Int))) = V.d (.int .i64 ((min (minN F 99 s) (F s) : Nat) : Int))
    congr 2; omega
  · have hse : s = t.first.length := by simp only [decide_eq_false_iff_not] at hd; omega
    subst hse
    obtain ⟨n, hnn⟩ : ∃ n, t.first.length = n + 1 := ⟨t.first.length - 1, by omega⟩
    rw [hnn, hms n, ← hnn]
    generalize minN F 11 t.first.length = m at *
    simp only [go_sem]
    refine ALoop.by (S := Nat) (fun s => [(11, .d (.int .i64 s)), (9, .ref 1 (eqTo F m s).length 0 (eqTo F m s).length), (8, .d (.int .i64 (m : Nat))), (3, .ptr 0 0), (2, .d (.int .i64 hour)), (1, .d (.str word))]) (fun s => [townB t, .arr 1 false ((eqTo F m s).map (.int .i64))]) (fun s => t.first.length - s) (fun s => s ≤ t.first.length) 0 (Nat.zero_le _) (fun _ h => nomatch h) (Nat.zero_le _) (ForgetTo.same' (Nat.zero_le _) ⟨rfl, rfl, rfl, rfl, rfl, rfl, trivial⟩ rfl) ?_
    rintro s hs hn
    refine AWP.run (fun _ => false) tt_ok (fun _ h => nomatch h) (Nat.zero_le _) rfl ?_
    simp only [go_sem, townB, List.length_map]
    refine Br_split (fun hd => ?_) (fun hd => ?_) <;> simp only [go_sem, hd]
    · have hlt : s < t.first.length := by simpa using hd
      have hnx : IntKind.i64.wrap ((s : Int) + 1) = ((s + 1 : Nat) : Int) := by rw [w64 (by omega) (by omega)]; omega
      have c27a := c27 t (by omega) hlt hour
      have c92a := hFs s hlt
      have hes := eqTo_succ F m s
      have hel := eqTo_len F m s
      have fin : ∀ A E, A = eqTo F m (s + 1) → EWe E [(11, .d (.int .i64 ((s + 1 : Nat) : Int))), (9, .ref 1 A.length 0 A.length), (8, .d (.int .i64 (m : Nat))), (3, .ptr 0 0), (2, .d (.int .i64 hour)), (1, .d (.str word))] →
          ∃ s', s' ≤ t.first.length ∧ t.first.length - s' < t.first.length - s ∧ ForgetTo 0 E [.cells [.d (.sl (t.first.map .str)), .d (.sl (t.ch.map Chg.d))], .arr 1 false (A.map (.int .i64))] [(11, .d (.int .i64 s')), (9, .ref 1 (eqTo F m s').length 0 (eqTo F m s').length), (8, .d (.int .i64 (m : Nat))), (3, .ptr 0 0), (2, .d (.int .i64 hour)), (1, .d (.str word))] [.cells [.d (.sl (t.first.map .str)), .d (.sl (t.ch.map Chg.d))], .arr 1 false ((eqTo F m s').map (.int .i64))] := fun A E hA hE => by
        subst hA
        exact ⟨s + 1, hlt, by omega, ForgetTo.same' (Nat.zero_le _) hE rfl⟩
      rw [hes] at fin
      generalize eqTo F m s = A at *
      generalize calledT t s hour = c at *
      have hdm : decide ((F s : Int) = (m : Int)) = decide (F s = m) := by rw [Bool.eq_iff_iff, decide_eq_true_eq, decide_eq_true_eq]; omega
      simp only [Town.d] at c27a
      refine c27a.call rfl rfl rfl ?_
      simp only [go_sem]
      refine c92a.call rfl rfl rfl ?_
      simp only [go_sem, hdm]
      refine Br_split (fun he => ?_) (fun he => ?_) <;> simp only [go_sem, he]
      · rw [if_pos (by simpa using he)] at fin
        have f2 := fun E => fin _ E rfl
        simp only [List.map_append, List.map_cons, List.map_nil, List.length_append, List.length_cons, List.length_nil, Nat.zero_add] at f2
        have si : sized 1 [D.int .i64 (s : Int)] = true := rfl
        have bA : A.length + 1 ≤ 4294967296 := by omega
        have bA2 : decide (A.length ≤ 4294967295) = true := decide_eq_true (by omega)
        simp only [go_sem, si, List.length_map, bA, bA2, hnx]
        refine f2 _ ?_
        exact ⟨rfl, rfl, rfl, rfl, rfl, rfl, trivial⟩
      · rw [if_neg (by simpa using he), List.append_nil] at fin
        simp only [go_sem, hnx]
        refine fin _ _ rfl ?_
        exact ⟨rfl, rfl, rfl, rfl, rfl, rfl, trivial⟩
    · have hse : s = t.first.length := by simp only [decide_eq_false_iff_not] at hd; omega
      subst hse
      have htk : List.take (eqTo F m t.first.length).length ((eqTo F m t.first.length).map (D.int .i64)) = (eqTo F m t.first.length).map (D.int .i64) := List.take_of_length_le (by simp)
      generalize eqTo F m t.first.length = A at *
      simp only [go_sem, List.length_map, htk]
end Go.Aw
end

section
set_option maxRecDepth 100000
namespace Go.Aw
open Go Go.Proofs.Tryz

def isN (t : Town) (word : ByteArray) (most : Int) (s : Nat) (h : Int) : Bool := decide ((faultsP word (calledT t s h) : Int) ≤ most)
def allN (t : Town) (word : ByteArray) (most : Int) (s : Nat) (lo : Int) (n : Nat) : Bool := (List.range n).all fun (j : Nat) => isN t word most s (lo + j)
def anyN (t : Town) (word : ByteArray) (most : Int) (s : Nat) (lo : Int) (n : Nat) : Bool := (List.range n).any fun (j : Nat) => isN t word most s (lo + j)
theorem allN_succ (t : Town) (word : ByteArray) (most : Int) (s : Nat) (lo : Int) (n : Nat) : allN t word most s lo (n + 1) = (allN t word most s lo n && isN t word most s (lo + n)) := by
  rw [allN, List.range_succ, List.all_append]; simp [allN]
theorem anyN_succ (t : Town) (word : ByteArray) (most : Int) (s : Nat) (lo : Int) (n : Nat) : anyN t word most s lo (n + 1) = (anyN t word most s lo n || isN t word most s (lo + n)) := by
  rw [anyN, List.range_succ, List.any_append]; simp [anyN]

def lastN (t : Town) (s : Nat) (lo : Int) : Nat → ByteArray
  | 0 => ⟨#[]⟩
  | n + 1 => calledT t s (lo + n)
def wasN (t : Town) (word : ByteArray) (most : Int) (s : Nat) (lo : Int) : Nat → Bool
  | 0 => false
  | n + 1 => isN t word most s (lo + n)

def askB (a : Ask) : Blk := .cells [.d (.int .i64 a.lo), .d (.int .i64 a.hi), .d (.int .i64 a.most)]

theorem c44 {t : Town} (ht : t.Ok) (word : ByteArray) (hw : word.size ≤ 10) {s : Nat} (hs : s < t.first.length) (a : Ask) (h0 : 0 ≤ a.lo) (h1 : a.lo ≤ a.hi) (h2 : a.hi ≤ 1000) :
    PC prog 44 [.d t.d, .d (.str word), .d (.int .i64 s), .d a.d] (.tup [.d (.bool (allN t word a.most s a.lo (a.hi + 1 - a.lo).toNat)), .d (.bool (anyN t word a.most s a.lo (a.hi + 1 - a.lo).toNat))]) := by
  have hl2 := ht.chl
  have had : a.d = .agg [.int .i64 a.lo, .int .i64 a.hi, .int .i64 a.most] := rfl
  refine PC.run (fun _ => false) tt_ok (fn := f44) (rs := [.tmp 8, .tmp 9]) rfl rfl rfl rfl rfl rfl rfl ?_
  simp only [go_sem, Town.d, had]
  refine ALoop.by (S := Nat) (fun n => [(14, .d (.int .i64 (a.lo + n))), (13, .d (.bool (wasN t word a.most s a.lo n))), (12, .d (.str (lastN t s a.lo n))), (11, .d (.bool (anyN t word a.most s a.lo n))), (10, .d (.bool (allN t word a.most s a.lo n))), (7, .ptr 1 0), (4, .ptr 0 0), (2, .d (.int .i64 s)), (1, .d (.str word))])
    (fun _ => [townB t, askB a]) (fun n => (a.hi + 1 - a.lo).toNat - n) (fun n => n ≤ (a.hi + 1 - a.lo).toNat) 0 (Nat.zero_le _) (fun _ h => nomatch h) (Nat.zero_le _) (ForgetTo.same' (Nat.zero_le _) (by simp [EWe, Env.look, wasN, lastN, anyN, allN]) rfl) ?_
  rintro n hn hn'
  refine AWP.run (fun _ => false) tt_ok (fun _ h => nomatch h) (Nat.zero_le _) rfl ?_
  simp only [go_sem, townB, askB]
  refine Br_split (fun hd => ?_) (fun hd => ?_) <;> simp only [go_sem, hd]
  · have hlt : n < (a.hi + 1 - a.lo).toNat := by simp only [decide_eq_true_eq] at hd; omega
    have hnx : IntKind.i64.wrap (a.lo + (n : Int) + 1) = a.lo + ((n + 1 : Nat) : Int) := by rw [w64 (by omega) (by omega)]; omega
    have c27a := c27 t (by omega) hs (a.lo + n)
    have hsz := called_size ht hs (a.lo + n)
    have c92a := c92 word (calledT t s (a.lo + n)) hw hsz.2
    have hall := allN_succ t word a.most s a.lo n
    have hany := anyN_succ t word a.most s a.lo n
    have hwas : wasN t word a.most s a.lo (n + 1) = isN t word a.most s (a.lo + n) := rfl
    have hlast : lastN t s a.lo (n + 1) = calledT t s (a.lo + n) := rfl
    have hsame : calledT t s (a.lo + n) = lastN t s a.lo n → wasN t word a.most s a.lo n = isN t word a.most s (a.lo + n) := fun e => by
      cases n with
      | zero => rw [e] at hsz; simp only [lastN] at hsz; exact absurd hsz.1 (by decide)
      | succ m => simp only [wasN, isN]; rw [e]; rfl
    have fin : ∀ v1 v2 v3 v4 E, v1 = wasN t word a.most s a.lo (n + 1) → v2 = lastN t s a.lo (n + 1) → v3 = anyN t word a.most s a.lo (n + 1) → v4 = allN t word a.most s a.lo (n + 1) → EWe E [(14, .d (.int .i64 (a.lo + ((n + 1 : Nat) : Int)))), (13, .d (.bool v1)), (12, .d (.str v2)), (11, .d (.bool v3)), (10, .d (.bool v4)), (7, .ptr 1 0), (4, .ptr 0 0), (2, .d (.int .i64 s)), (1, .d (.str word))] →
        ∃ n', n' ≤ (a.hi + 1 - a.lo).toNat ∧ (a.hi + 1 - a.lo).toNat - n' < (a.hi + 1 - a.lo).toNat - n ∧ ForgetTo 0 E [.cells [.d (.sl (t.first.map .str)), .d (.sl (t.ch.map Chg.d))], .cells [.d (.int .i64 a.lo), .d (.int .i64 a.hi), .d (.int .i64 a.most)]]
          [(14, .d (.int .i64 (a.lo + (n' : Int)))), (13, .d (.bool (wasN t word a.most s a.lo n'))), (12, .d (.str (lastN t s a.lo n'))), (11, .d (.bool (anyN t word a.most s a.lo n'))), (10, .d (.bool (allN t word a.most s a.lo n'))), (7, .ptr 1 0), (4, .ptr 0 0), (2, .d (.int .i64 s)), (1, .d (.str word))]
          [.cells [.d (.sl (t.first.map .str)), .d (.sl (t.ch.map Chg.d))], .cells [.d (.int .i64 a.lo), .d (.int .i64 a.hi), .d (.int .i64 a.most)]] := fun v1 v2 v3 v4 E e1 e2 e3 e4 hE => by
      subst e1 e2 e3 e4
      exact ⟨n + 1, hlt, by omega, ForgetTo.same' (Nat.zero_le _) hE rfl⟩
    rw [hall, hany, hwas, hlast] at fin
    clear hall hany hwas hlast
    have hisd : decide (((faultsP word (calledT t s (a.lo + n)) : Nat) : Int) ≤ a.most) = isN t word a.most s (a.lo + n) := rfl
    generalize isN t word a.most s (a.lo + n) = I at *
    generalize allN t word a.most s a.lo n = A at *
    generalize anyN t word a.most s a.lo n = B at *
    generalize wasN t word a.most s a.lo n = W at *
    generalize lastN t s a.lo n = L at *
    generalize calledT t s (a.lo + n) = c at *
    simp only [Town.d] at c27a
    refine c27a.call rfl rfl rfl ?_
    simp only [go_sem, beq_str]
    by_cases hcl : c = L
    · have hW := hsame hcl
      subst hW
      simp only [go_sem, decide_eq_true hcl]
      cases A <;> cases B <;> simp only [go_sem, hnx] <;> first | (refine fin _ _ _ _ _ rfl hcl.symm rfl rfl ?_; exact ⟨rfl, rfl, rfl, rfl, rfl, rfl, rfl, rfl, rfl, trivial⟩) | skip
    · simp only [go_sem, decide_eq_false hcl]
      refine ADrw.treeG (fun _ => false) tt_ok (by kernel_rfl) (fun k => if k = 5 then some .L else some .S) (.ones [0, 1, 2, 3, 4, 5, 6, 7, 8] .done) (Nat.zero_le _) (fun _ h => nomatch h) rfl rfl (by kernel_rfl) ?_
      simp only [go_sem]
      refine c92a.callS rfl rfl rfl rfl rfl rfl ?_
      simp only [go_sem, hisd]
      cases A <;> cases B <;> simp only [go_sem, hnx] <;> first | (refine fin _ _ _ _ _ rfl rfl rfl rfl ?_; exact ⟨rfl, rfl, rfl, rfl, rfl, rfl, rfl, rfl, rfl, trivial⟩) | skip
  · have hne : n = (a.hi + 1 - a.lo).toNat := by simp only [decide_eq_false_iff_not] at hd; omega
    rw [← hne]
end Go.Aw
end

section
set_option maxRecDepth 100000
namespace Go.Aw
open Go Go.Proofs.Tryz

theorem evTo_full (word : ByteArray) (a : Ask) (names : List ByteArray) (E : List Bool) (n : Nat) (hn : E.length = n) : evTo word a names E n = (List.range n).map fun k => E.getD k false && isW word a names k := by
  subst hn
  rw [evTo]
  refine List.map_congr_left fun k hk => ?_
  rw [if_pos (by simpa using hk)]
theorem soTo_full (word : ByteArray) (a : Ask) (names : List ByteArray) (E : List Bool) (n : Nat) (hn : E.length = n) : soTo word a names E n = (List.range n).map fun k => E.getD k false || isW word a names k := by
  subst hn
  rw [soTo]
  refine List.map_congr_left fun k hk => ?_
  rw [if_pos (by simpa using hk)]

theorem getD_map_range (f : Nat → Bool) {n k : Nat} (h : k < n) : ((List.range n).map f).getD k false = f k := by
  rw [List.getD_eq_getElem?_getD, List.getElem?_map, List.getElem?_range h]; rfl

def mnU (word : ByteArray) (a : Ask) (ns : List ByteArray) (s : List Bool × List Bool) : List Bool × List Bool := (evTo word a ns s.1 s.1.length, soTo word a ns s.2 s.2.length)

theorem mnU_twice (word : ByteArray) (a : Ask) (ns : List ByteArray) (s : List Bool × List Bool) : mnU word a ns (mnU word a ns s) = mnU word a ns s := by
  simp only [mnU, evTo_len, soTo_len]
  rw [evTo_full word a ns s.1 _ rfl, soTo_full word a ns s.2 _ rfl, evTo_full word a ns _ s.1.length (by simp), soTo_full word a ns _ s.2.length (by simp)]
  refine Prod.ext (List.map_congr_left fun k hk => ?_) (List.map_congr_left fun k hk => ?_)
  · rw [getD_map_range _ (by simpa using hk)]; cases s.1.getD k false <;> cases isW word a ns k <;> rfl
  · rw [getD_map_range _ (by simpa using hk)]; cases s.2.getD k false <;> cases isW word a ns k <;> rfl

theorem foldH_if {α : Type} (U : α → α) (hU : ∀ a, U (U a) = U a) (C : Nat → Bool) (a : α) (lo : Nat) : ∀ n, foldH (fun a h => if C h = true then a else U a) a lo n = if (List.range n).all (fun j => C (lo + j)) = true then a else U a
  | 0 => rfl
  | n + 1 => by
    rw [foldH, foldH_if U hU C a lo n, List.range_succ, List.all_append]
    cases h1 : (List.range n).all (fun j => C (lo + j)) <;> cases h2 : C (lo + n) <;> simp [h2, hU]

theorem mn_fold {t : Town} (ht : t.Ok) {P : List Page} (hP : PgOk t P) (word : ByteArray) (a : Ask) (h1 : a.lo ≤ a.hi) :
    (List.range 1001).foldl (fun s (h : Nat) => if decide ((h : Int) < a.lo ∨ a.hi < h) = true then s else mnU word a (namesT t h) s) (List.replicate t.first.length true, List.replicate t.first.length false) = mnF word a t.first.length (timesL P) := by
  rw [mnF]
  refine hours_fold ht hP (mnStep word a) (fun s ns h => if decide ((h : Int) < a.lo ∨ a.hi < h) = true then s else mnU word a ns s) (fun s ns lo n hl _ => ?_) _
  rw [foldH_if (mnU word a ns) (mnU_twice word a ns) (fun h => decide ((h : Int) < a.lo ∨ a.hi < h)) s lo (n + 1), mnStep]
  by_cases hc : ((lo + n : Nat) : Int) < a.lo ∨ a.hi < (lo : Int)
  · rw [if_pos hc, if_pos]
    rw [List.all_eq_true]
    intro j hj
    have : j < n + 1 := by simpa using hj
    exact decide_eq_true (by omega)
  · rw [if_neg hc, if_neg]
    · rfl
    · rw [List.all_eq_true]
      intro h
      have := h (a.lo.toNat - lo) (List.mem_range.2 (by omega))
      rw [decide_eq_true_eq] at this
      omega

theorem mn_state {t : Town} (word : ByteArray) (a : Ask) : ∀ n : Nat, (List.range n).foldl (fun s (h : Nat) => if decide ((h : Int) < a.lo ∨ a.hi < h) = true then s else mnU word a (namesT t h) s) (List.replicate t.first.length true, List.replicate t.first.length false) =
    ((List.range t.first.length).map fun k => (List.range n).all fun (h : Nat) => decide ((h : Int) < a.lo ∨ a.hi < h) || isN t word a.most k h,
     (List.range t.first.length).map fun k => (List.range n).any fun (h : Nat) => !decide ((h : Int) < a.lo ∨ a.hi < h) && isN t word a.most k h)
  | 0 => by
    refine Prod.ext ?_ ?_
    · exact List.ext_getElem (by simp) fun i _ _ => by simp
    · exact List.ext_getElem (by simp) fun i _ _ => by simp
  | n + 1 => by
    rw [List.range_succ, List.foldl_append, mn_state word a n, List.foldl_cons, List.foldl_nil]
    have hW : ∀ k, k < t.first.length → isW word a (namesT t (n : Int)) k = isN t word a.most k (n : Int) := fun k hk => by rw [isW, namesT_get hk]; rfl
    by_cases hc : (n : Int) < a.lo ∨ a.hi < (n : Int)
    · rw [if_pos (decide_eq_true hc)]
      refine Prod.ext (List.map_congr_left fun k hk => ?_) (List.map_congr_left fun k hk => ?_)
      · simp only [List.all_append, List.all_cons, List.all_nil, decide_eq_true hc, Bool.true_or, Bool.and_true]
      · simp only [List.any_append, List.any_cons, List.any_nil, decide_eq_true hc, Bool.not_true, Bool.false_and, Bool.or_false]
    · rw [if_neg (by simpa using hc)]
      simp only [mnU, List.length_map, List.length_range]
      rw [evTo_full word a _ _ t.first.length (by simp), soTo_full word a _ _ t.first.length (by simp)]
      refine Prod.ext (List.map_congr_left fun k hk => ?_) (List.map_congr_left fun k hk => ?_)
      · have hk' : k < t.first.length := by simpa using hk
        rw [getD_map_range _ hk', hW k hk', List.all_append]
        simp only [List.all_cons, List.all_nil, decide_eq_false hc, Bool.false_or, Bool.and_true]
      · have hk' : k < t.first.length := by simpa using hk
        rw [getD_map_range _ hk', hW k hk', List.any_append]
        simp only [List.any_cons, List.any_nil, decide_eq_false hc, Bool.not_false, Bool.true_and, Bool.or_false]

theorem all_span {t : Town} (word : ByteArray) (a : Ask) (k : Nat) (h0 : 0 ≤ a.lo) (h1 : a.lo ≤ a.hi) (h2 : a.hi ≤ 1000) : ((List.range 1001).all fun (h : Nat) => decide ((h : Int) < a.lo ∨ a.hi < h) || isN t word a.most k h) = allN t word a.most k a.lo (a.hi + 1 - a.lo).toNat := by
  rw [Bool.eq_iff_iff, allN, List.all_eq_true, List.all_eq_true]
  constructor
  · intro h j hj
    have hj' : j < (a.hi + 1 - a.lo).toNat := by simpa using hj
    have := h (a.lo.toNat + j) (List.mem_range.2 (by omega))
    rw [Bool.or_eq_true, decide_eq_true_eq] at this
    rcases this with h3 | h3
    · omega
    · rw [show a.lo + (j : Int) = ((a.lo.toNat + j : Nat) : Int) by omega]; exact h3
  · intro h x hx
    have hx' : x < 1001 := by simpa using hx
    rw [Bool.or_eq_true, decide_eq_true_eq]
    by_cases hc : (x : Int) < a.lo ∨ a.hi < (x : Int)
    · exact .inl hc
    · right
      have := h (x - a.lo.toNat) (List.mem_range.2 (by omega))
      rw [show a.lo + ((x - a.lo.toNat : Nat) : Int) = (x : Int) by omega] at this
      exact this

theorem any_span {t : Town} (word : ByteArray) (a : Ask) (k : Nat) (h0 : 0 ≤ a.lo) (h1 : a.lo ≤ a.hi) (h2 : a.hi ≤ 1000) : ((List.range 1001).any fun (h : Nat) => !decide ((h : Int) < a.lo ∨ a.hi < h) && isN t word a.most k h) = anyN t word a.most k a.lo (a.hi + 1 - a.lo).toNat := by
  rw [Bool.eq_iff_iff, anyN, List.any_eq_true, List.any_eq_true]
  constructor
  · rintro ⟨x, hx, h⟩
    have hx' : x < 1001 := by simpa using hx
    rw [Bool.and_eq_true, Bool.not_eq_true', decide_eq_false_iff_not] at h
    refine ⟨x - a.lo.toNat, List.mem_range.2 (by omega), ?_⟩
    rw [show a.lo + ((x - a.lo.toNat : Nat) : Int) = (x : Int) by omega]
    exact h.2
  · rintro ⟨j, hj, h⟩
    have hj' : j < (a.hi + 1 - a.lo).toNat := by simpa using hj
    refine ⟨a.lo.toNat + j, List.mem_range.2 (by omega), ?_⟩
    rw [Bool.and_eq_true, Bool.not_eq_true', decide_eq_false_iff_not]
    refine ⟨by omega, ?_⟩
    rw [show ((a.lo.toNat + j : Nat) : Int) = a.lo + (j : Int) by omega]; exact h

theorem numP_range (f : Nat → Bool) (n : Nat) : numP ((List.range n).map f) = natI ((List.range n).filter f) := by
  rw [numP, numTo, List.length_map, List.length_range]
  congr 1
  refine List.filter_congr fun k hk => ?_
  rw [getD_map_range _ (by simpa using hk)]

/-- What the reference finds. -/
def allL (t : Town) (word : ByteArray) (a : Ask) (n : Nat) : List Int := natI ((List.range n).filter fun s => allN t word a.most s a.lo (a.hi + 1 - a.lo).toNat)
def anyL (t : Town) (word : ByteArray) (a : Ask) (n : Nat) : List Int := natI ((List.range n).filter fun s => anyN t word a.most s a.lo (a.hi + 1 - a.lo).toNat)

theorem meant_eq {t : Town} {word : ByteArray} {a : Ask} (he : mnErr t word a = 0) : (meantP t word a).1 = allL t word a t.first.length ∧ (meantP t word a).2.1 = anyL t word a t.first.length := by
  have he' := he
  rw [mnErr] at he
  split at he
  · rename_i h; exact absurd he h
  rename_i h1
  split at he
  · cases he
  split at he
  · cases he
  rename_i h3
  obtain ⟨hok, _, hpg⟩ := open_pg (Classical.not_not.1 h1)
  have hb : (0 ≤ a.lo ∧ a.lo ≤ 1000) ∧ (0 ≤ a.hi ∧ a.hi ≤ 1000) ∧ a.lo ≤ a.hi := by
    by_cases h : (0 ≤ a.lo ∧ a.lo ≤ 1000) ∧ (0 ≤ a.hi ∧ a.hi ≤ 1000) ∧ a.lo ≤ a.hi
    · exact h
    · exact absurd (.inl h) h3
  rw [meantP, if_neg (by rw [he']; simp), ← mn_fold hok hpg word a hb.2.2, mn_state]
  simp only [numP_range, allL, anyL]
  refine ⟨?_, ?_⟩
  · congr 1
    exact List.filter_congr fun k _ => all_span word a k hb.1.1 hb.2.2 hb.2.1.2
  · congr 1
    exact List.filter_congr fun k _ => any_span word a k hb.1.1 hb.2.2 hb.2.1.2
end Go.Aw
end

section
set_option maxRecDepth 100000
namespace Go.Aw
open Go Go.Proofs.Tryz

def sV (t : Town) (word : ByteArray) (a : Ask) : V := if mnErr t word a ≠ 0 then .slx (some true) [] else .d (.sl ((meantP t word a).1.map (.int .i64)))
def pV (t : Town) (word : ByteArray) (a : Ask) : V := if mnErr t word a ≠ 0 then .slx (some true) [] else .d (.sl ((meantP t word a).2.1.map (.int .i64)))
theorem meantW_eq (t : Town) (word : ByteArray) (a : Ask) : meantW t word a = .tup [sV t word a, pV t word a, .d (.int .i64 (mnErr t word a))] := by
  rw [meantW, sV, pV]
  by_cases h : mnErr t word a = 0
  · rw [if_neg (by simpa using h), if_neg (by simpa using h), if_neg (by simpa using h), h]; rfl
  · rw [if_pos h, if_pos h, if_pos h]

def wantM (t : Town) (word : ByteArray) : Int := if openE t ≠ 0 then openE t else if nm word = false then 4 else 0

def e7n (t : Town) (word : ByteArray) (a : Ask) : Env := [(13, .d (.int .i64 (nearP t word a.lo).2.2)), (12, .d (.int .i64 (nearP t word a.lo).2.1)), (11, .d (.sl ((nearP t word a.lo).1.map (.int .i64)))), (5, .ptr 1 0), (3, .ptr 0 0), (1, .d (.str word))]
def e7m (t : Town) (word : ByteArray) (a : Ask) : Env := [(10, .d (.int .i64 (mnErr t word a))), (9, pV t word a), (8, sV t word a)]
def h7 (t : Town) (a : Ask) : Heap := [townB t, askB a, townB t]

theorem c7_a (t : Town) (word : ByteArray) (a : Ask)
    (hrest : longB t [word] = false → AWP prog f7.ntmps 0 none (restC 6 (bodyOf f7)) (e7m t word a ++ e7n t word a) (h7 t a) (post1 6)) :
    PC prog 7 [.d t.d, .d (.str word), .d a.d] (.d (.bool true)) := by
  refine PC.of_body tt_ok (fn := f7) (c := bodyOf f7) (rs := [.tmp 6]) rfl rfl rfl rfl rfl rfl ?_
  have had : a.d = .agg [.int .i64 a.lo, .int .i64 a.hi, .int .i64 a.most] := rfl
  have c14a := c14 t [word]
  simp only [Town.d] at c14a
  cases hlong : longB t [word] with
  | true =>
    rw [hlong] at c14a
    refine AWP.runS (fun _ => false) tt_ok (fun _ h => nomatch h) (Nat.zero_le _) rfl ?_
    simp only [go_sem, Town.d, had]
    refine c14a.call rfl rfl rfl ?_
    simp only [go_sem]
    refine c15.call rfl rfl rfl ?_
    simp only [go_sem]
  | false =>
    rw [hlong] at c14a
    obtain ⟨hs, l1, l2, _, m1, m2, m3⟩ := long_fits hlong
    have hws : word.size ≤ 1000 := by have := m3 word (by simp); omega
    have c16a := c16 t (by omega) (by omega)
    have c20a := c20 t (by omega) (by omega)
    have c42a := c42' t hs word hws a
    have c43a := c43 t hs word hws a.lo
    rw [meantW_eq] at c42a
    have hvS : VB 0 (sV t word a) = true := by rw [sV]; split <;> rfl
    have hvP : VB 0 (pV t word a) = true := by rw [pV]; split <;> rfl
    refine AWP.stepN 6 _ _ (fun _ => false) tt_ok (fun _ h => nomatch h) (Nat.zero_le _) rfl ?_ (hrest hlong)
    clear hrest
    simp only [e7m, e7n, h7]
    generalize nearP t word a.lo = N at *
    generalize sV t word a = vS at *
    generalize pV t word a = vP at *
    generalize mnErr t word a = e at *
    simp only [Town.d, had] at c16a c20a c42a c43a
    simp only [go_sem, Town.d, had, askB, townB]
    refine c14a.call rfl rfl rfl ?_
    simp only [go_sem]
    refine c16a.call rfl rfl rfl ?_
    simp only [go_sem]
    refine c42a.call rfl rfl (by simp [VB, VBs, hvS, hvP]) ?_
    simp only [go_sem]
    refine c43a.call rfl rfl rfl ?_
    simp only [go_sem]
    refine c20a.call rfl rfl rfl ?_
    simp only [go_sem]
    exact ForgetTo.same' (Nat.zero_le _) ⟨rfl, rfl, rfl, rfl, rfl, rfl, rfl, rfl, rfl, trivial⟩ rfl

theorem c7_b (t : Town) (word : ByteArray) (a : Ask) (hlong : longB t [word] = false)
    (hrest : AWP prog f7.ntmps 0 none (restC 5 (restC 6 (bodyOf f7))) ((15, .d (.int .i64 (mnErr t word a))) :: (14, .d (.int .i64 (wantM t word))) :: (9, pV t word a) :: (8, sV t word a) :: e7n t word a) (h7 t a) (post1 6)) :
    AWP prog f7.ntmps 0 none (restC 6 (bodyOf f7)) (e7m t word a ++ e7n t word a) (h7 t a) (post1 6) := by
  obtain ⟨hs, l1, l2, _, m1, m2, m3⟩ := long_fits hlong
  have hws : word.size ≤ 1000 := by have := m3 word (by simp); omega
  have c25a := c25 t (by omega) (by omega) hs.fn hs.cn
  have c28a := c28 word hws
  have c26a := c26 a.lo 0 a.hi
  have c26b := c26 a.most 0 3
  have hd0 : ∀ {α : Type} [DecidableEq α] (l : α), decide (l = l) = true := fun l => by simp
  have hw0 : IntKind.i64.wrap (0 + 0) = 0 := rfl
  refine AWP.stepN 5 _ _ (fun _ => false) tt_ok (fun _ h => nomatch h) (Nat.zero_le _) rfl ?_ hrest
  clear hrest
  have hE : mnErr t word a = if openE t ≠ 0 then openE t else if nm word = false then 4 else if ¬((0 ≤ a.lo ∧ a.lo ≤ 1000) ∧ (0 ≤ a.hi ∧ a.hi ≤ 1000) ∧ a.lo ≤ a.hi) ∨ ¬(0 ≤ a.most ∧ a.most ≤ 3) then 3 else 0 := rfl
  have hwM : wantM t word = if openE t ≠ 0 then openE t else if nm word = false then 4 else 0 := rfl
  have hsV : sV t word a = if mnErr t word a ≠ 0 then .slx (some true) [] else .d (.sl ((meantP t word a).1.map (.int .i64))) := rfl
  have hpV : pV t word a = if mnErr t word a ≠ 0 then .slx (some true) [] else .d (.sl ((meantP t word a).2.1.map (.int .i64))) := rfl
  simp only [e7m, e7n, h7, List.cons_append, List.nil_append]
  generalize nearP t word a.lo = N at *
  generalize hS : sV t word a = vS at *
  generalize hP : pV t word a = vP at *
  generalize meantP t word a = M at *
  simp only [Town.d] at c25a
  simp only [go_sem, askB, townB]
  refine c25a.call rfl rfl rfl ?_
  by_cases ho : openE t = 0
  · rw [if_neg (by simpa using ho)] at hE hwM
    rw [ho]
    simp only [go_sem]
    refine c28a.call rfl rfl rfl ?_
    cases hn : nm word with
    | false =>
      rw [hn, if_pos rfl] at hE hwM
      rw [hE] at hsV hpV
      rw [if_pos (by decide)] at hsV hpV
      rw [hE, hwM, hsV, hpV]
      simp only [go_sem, hw0]
      exact ForgetTo.same' (Nat.zero_le _) ⟨rfl, rfl, rfl, rfl, rfl, rfl, rfl, rfl, rfl, rfl, trivial⟩ rfl
    | true =>
      rw [hn, if_neg (by simp)] at hE hwM
      rw [hwM]
      simp only [go_sem]
      refine c26a.call rfl rfl rfl ?_
      by_cases h1 : 0 ≤ a.lo ∧ a.lo ≤ a.hi
      · simp only [go_sem, decide_eq_true h1]
        by_cases h2 : 1000 < a.hi
        · rw [if_pos (.inl fun h => by omega)] at hE
          rw [hE] at hsV hpV
          rw [if_pos (by decide)] at hsV hpV
          rw [hE, hsV, hpV]
          simp only [go_sem, decide_eq_true h2, hw0]
          exact ForgetTo.same' (Nat.zero_le _) ⟨rfl, rfl, rfl, rfl, rfl, rfl, rfl, rfl, rfl, rfl, trivial⟩ rfl
        · simp only [go_sem, decide_eq_false h2]
          refine c26b.call rfl rfl rfl ?_
          by_cases h3 : 0 ≤ a.most ∧ a.most ≤ 3
          · rw [if_neg (fun h => h.elim (fun h => h ⟨by omega, by omega, h1.2⟩) (fun h => h h3))] at hE
            rw [hE] at hsV hpV
            rw [if_neg (by simp)] at hsV hpV
            rw [hE, hsV, hpV]
            simp only [go_sem, decide_eq_true h3]
            exact ForgetTo.same' (Nat.zero_le _) ⟨rfl, rfl, rfl, rfl, rfl, rfl, rfl, rfl, rfl, rfl, trivial⟩ rfl
          · rw [if_pos (.inr h3)] at hE
            rw [hE] at hsV hpV
            rw [if_pos (by decide)] at hsV hpV
            rw [hE, hsV, hpV]
            simp only [go_sem, decide_eq_false h3, hw0]
            exact ForgetTo.same' (Nat.zero_le _) ⟨rfl, rfl, rfl, rfl, rfl, rfl, rfl, rfl, rfl, rfl, trivial⟩ rfl
      · rw [if_pos (.inl fun h => h1 (by omega))] at hE
        rw [hE] at hsV hpV
        rw [if_pos (by decide)] at hsV hpV
        rw [hE, hsV, hpV]
        simp only [go_sem, decide_eq_false h1, hw0]
        exact ForgetTo.same' (Nat.zero_le _) ⟨rfl, rfl, rfl, rfl, rfl, rfl, rfl, rfl, rfl, rfl, trivial⟩ rfl
  · rw [if_pos (by simpa using ho)] at hE hwM
    have d1 : decide (openE t = 0) = false := decide_eq_false ho
    rw [hE] at hsV hpV
    rw [if_pos ho] at hsV hpV
    rw [hE, hwM, hsV, hpV]
    simp only [go_sem, d1, hd0, hw0, List.length_nil]
    exact ForgetTo.same' (Nat.zero_le _) ⟨rfl, rfl, rfl, rfl, rfl, rfl, rfl, rfl, rfl, rfl, trivial⟩ rfl
end Go.Aw
end

section
set_option maxRecDepth 100000
namespace Go.Aw
open Go Go.Proofs.Tryz

theorem allL_succ (t : Town) (word : ByteArray) (a : Ask) (n : Nat) : allL t word a (n + 1) = allL t word a n ++ if allN t word a.most n a.lo (a.hi + 1 - a.lo).toNat = true then [(n : Int)] else [] := by
  rw [allL, allL, natI, natI, List.range_succ, List.filter_append, List.map_append]
  congr 1
  rw [List.filter_cons, List.filter_nil]
  split <;> simp_all
theorem allL_len (t : Town) (word : ByteArray) (a : Ask) (n : Nat) : (allL t word a n).length ≤ n := by
  have := List.length_filter_le (fun s => allN t word a.most s a.lo (a.hi + 1 - a.lo).toNat) (List.range n)
  rw [allL, natI, List.length_map]; simpa using this

theorem anyL_succ (t : Town) (word : ByteArray) (a : Ask) (n : Nat) : anyL t word a (n + 1) = anyL t word a n ++ if anyN t word a.most n a.lo (a.hi + 1 - a.lo).toNat = true then [(n : Int)] else [] := by
  rw [anyL, anyL, natI, natI, List.range_succ, List.filter_append, List.map_append]
  congr 1
  rw [List.filter_cons, List.filter_nil]
  split <;> simp_all
theorem anyL_len (t : Town) (word : ByteArray) (a : Ask) (n : Nat) : (anyL t word a n).length ≤ n := by
  have := List.length_filter_le (fun s => anyN t word a.most s a.lo (a.hi + 1 - a.lo).toNat) (List.range n)
  rw [anyL, natI, List.length_map]; simpa using this

theorem c7_c (t : Town) (word : ByteArray) (a : Ask) (hlong : longB t [word] = false)
    (hrest : AWP prog f7.ntmps 0 none (restC 1 (restC 5 (restC 6 (bodyOf f7)))) ((14, .d (.int .i64 (wantM t word))) :: e7n t word a) (h7 t a) (post1 6)) :
    AWP prog f7.ntmps 0 none (restC 5 (restC 6 (bodyOf f7))) ((15, .d (.int .i64 (mnErr t word a))) :: (14, .d (.int .i64 (wantM t word))) :: (9, pV t word a) :: (8, sV t word a) :: e7n t word a) (h7 t a) (post1 6) := by
  obtain ⟨hs, l1, l2, _, m1, m2, m3⟩ := long_fits hlong
  refine AWP.stepN 1 _ _ (fun k => k == 103 || k == 104) tt_ok (fun _ h => nomatch h) (Nat.zero_le _) rfl ?_ hrest
  clear hrest
  have hd0 : ∀ {α : Type} [DecidableEq α] (l : α), decide (l = l) = true := fun l => by simp
  by_cases he : mnErr t word a = 0
  · have hme := meant_eq he
    have hsV : sV t word a = .d (.sl ((meantP t word a).1.map (.int .i64))) := by rw [sV, if_neg (by simpa using he)]
    have hpV : pV t word a = .d (.sl ((meantP t word a).2.1.map (.int .i64))) := by rw [pV, if_neg (by simpa using he)]
    rw [hme.1] at hsV
    rw [hme.2] at hpV
    rw [hsV, hpV]
    have he' := he
    rw [mnErr] at he'
    split at he'
    · rename_i h; exact absurd he' h
    rename_i h1
    split at he'
    · cases he'
    rename_i h2
    split at he'
    · cases he'
    rename_i h3
    obtain ⟨hok, _, hpg⟩ := open_pg (Classical.not_not.1 h1)
    have hb : (0 ≤ a.lo ∧ a.lo ≤ 1000) ∧ (0 ≤ a.hi ∧ a.hi ≤ 1000) ∧ a.lo ≤ a.hi := by
      by_cases h : (0 ≤ a.lo ∧ a.lo ≤ 1000) ∧ (0 ≤ a.hi ∧ a.hi ≤ 1000) ∧ a.lo ≤ a.hi
      · exact h
      · exact absurd (.inl h) h3
    have hw10 : word.size ≤ 10 := (nm_size (by simpa using h2)).2
    have c44a := fun s hs => c44 hok word hw10 (s := s) hs a hb.1.1 hb.2.2 hb.2.1.2
    have had : a.d = .agg [.int .i64 a.lo, .int .i64 a.hi, .int .i64 a.most] := rfl
    have hAl := allL_len t word a
    have hBl := anyL_len t word a
    have hAs := allL_succ t word a
    have hBs := anyL_succ t word a
    simp only [Town.d, had] at c44a
    rw [he]
    simp only [e7n, h7]
    generalize nearP t word a.lo = N at *
    generalize wantM t word = wM at *
    have c22a := c22 (allL t word a t.first.length) (allL t word a t.first.length) (by have := hAl t.first.length; omega) (by have := hAl t.first.length; omega)
    have c22b := c22 (anyL t word a t.first.length) (anyL t word a t.first.length) (by have := hBl t.first.length; omega) (by have := hBl t.first.length; omega)
    generalize hAd : allL t word a = A at *
    generalize hBd : anyL t word a = B at *
    simp only [go_sem, askB, townB]
    refine ALoop.by (S := Nat) (fun s => [(18, .d (.int .i64 s)), (17, .ref 4 (B s).length 0 (B s).length), (16, .ref 3 (A s).length 0 (A s).length), (14, .d (.int .i64 wM)), (13, .d (.int .i64 N.2.2)), (12, .d (.int .i64 N.2.1)), (11, .d (.sl (N.1.map (.int .i64)))), (9, .d (.sl ((B t.first.length).map (.int .i64)))), (8, .d (.sl ((A t.first.length).map (.int .i64)))), (5, .ptr 1 0), (3, .ptr 0 0), (1, .d (.str word))])
      (fun s => [townB t, askB a, townB t, .arr 1 false ((A s).map (.int .i64)), .arr 1 false ((B s).map (.int .i64))]) (fun s => t.first.length - s) (fun s => s ≤ t.first.length) 0 (Nat.zero_le _) (fun _ h => nomatch h) (Nat.zero_le _) (ForgetTo.same' (Nat.zero_le _) ?_ ?_) ?_
    · rw [← hAd, ← hBd]; exact ⟨rfl, rfl, rfl, rfl, rfl, rfl, rfl, rfl, rfl, rfl, rfl, rfl, trivial⟩
    · rw [← hAd, ← hBd]; rfl
    rintro s hsl hn
    refine AWP.run (fun _ => false) tt_ok (fun _ h => nomatch h) (Nat.zero_le _) rfl ?_
    simp only [go_sem, askB, townB, List.length_map]
    refine Br_split (fun hd => ?_) (fun hd => ?_) <;> simp only [go_sem, hd]
    · have hlt : s < t.first.length := by simpa using hd
      have hnx : IntKind.i64.wrap ((s : Int) + 1) = ((s + 1 : Nat) : Int) := by rw [w64 (by omega) (by omega)]; omega
      have c44s := c44a s hlt
      have hA1 := hAs s
      have hB1 := hBs s
      have hA2 := hAl s
      have hB2 := hBl s
      have fin : ∀ X Y E, X = A (s + 1) → Y = B (s + 1) → EWe E [(18, .d (.int .i64 ((s + 1 : Nat) : Int))), (17, .ref 4 Y.length 0 Y.length), (16, .ref 3 X.length 0 X.length), (14, .d (.int .i64 wM)), (13, .d (.int .i64 N.2.2)), (12, .d (.int .i64 N.2.1)), (11, .d (.sl (N.1.map (.int .i64)))), (9, .d (.sl ((B t.first.length).map (.int .i64)))), (8, .d (.sl ((A t.first.length).map (.int .i64)))), (5, .ptr 1 0), (3, .ptr 0 0), (1, .d (.str word))] →
          ∃ s', s' ≤ t.first.length ∧ t.first.length - s' < t.first.length - s ∧ ForgetTo 0 E [.cells [.d (.sl (t.first.map .str)), .d (.sl (t.ch.map Chg.d))], .cells [.d (.int .i64 a.lo), .d (.int .i64 a.hi), .d (.int .i64 a.most)], .cells [.d (.sl (t.first.map .str)), .d (.sl (t.ch.map Chg.d))], .arr 1 false (X.map (.int .i64)), .arr 1 false (Y.map (.int .i64))]
            [(18, .d (.int .i64 s')), (17, .ref 4 (B s').length 0 (B s').length), (16, .ref 3 (A s').length 0 (A s').length), (14, .d (.int .i64 wM)), (13, .d (.int .i64 N.2.2)), (12, .d (.int .i64 N.2.1)), (11, .d (.sl (N.1.map (.int .i64)))), (9, .d (.sl ((B t.first.length).map (.int .i64)))), (8, .d (.sl ((A t.first.length).map (.int .i64)))), (5, .ptr 1 0), (3, .ptr 0 0), (1, .d (.str word))]
            [.cells [.d (.sl (t.first.map .str)), .d (.sl (t.ch.map Chg.d))], .cells [.d (.int .i64 a.lo), .d (.int .i64 a.hi), .d (.int .i64 a.most)], .cells [.d (.sl (t.first.map .str)), .d (.sl (t.ch.map Chg.d))], .arr 1 false ((A s').map (.int .i64)), .arr 1 false ((B s').map (.int .i64))] := fun X Y E hX hY hE => by
        subst hX hY
        exact ⟨s + 1, hlt, by omega, ForgetTo.same' (Nat.zero_le _) hE rfl⟩
      rw [hA1, hB1] at fin
      generalize A s = X at *
      generalize B s = Y at *
      generalize allN t word a.most s a.lo (a.hi + 1 - a.lo).toNat = x at *
      generalize anyN t word a.most s a.lo (a.hi + 1 - a.lo).toNat = y at *
      have si : sized 1 [D.int .i64 (s : Int)] = true := rfl
      have bX : X.length + 1 ≤ 4294967296 := by omega
      have bX2 : decide (X.length ≤ 4294967295) = true := decide_eq_true (by omega)
      have bY : Y.length + 1 ≤ 4294967296 := by omega
      have bY2 : decide (Y.length ≤ 4294967295) = true := decide_eq_true (by omega)
      refine c44s.call rfl rfl rfl ?_
      have f2 := fun E => fin _ _ E rfl rfl
      clear fin
      cases x <;> cases y <;> simp only [if_true, if_false, Bool.false_eq_true, List.append_nil, List.map_append, List.map_cons, List.map_nil, List.length_append, List.length_cons, List.length_nil, Nat.zero_add] at f2 <;> simp only [go_sem, si, List.length_map, bX, bX2, bY, bY2, hnx] <;> refine f2 _ ?_ <;> exact ⟨rfl, rfl, rfl, rfl, rfl, rfl, rfl, rfl, rfl, rfl, rfl, rfl, trivial⟩
    · have hse : s = t.first.length := by simp only [decide_eq_false_iff_not] at hd; omega
      subst hse
      have htA : List.take (A t.first.length).length ((A t.first.length).map (D.int .i64)) = (A t.first.length).map (D.int .i64) := List.take_of_length_le (by simp)
      have htB : List.take (B t.first.length).length ((B t.first.length).map (D.int .i64)) = (B t.first.length).map (D.int .i64) := List.take_of_length_le (by simp)
      generalize A t.first.length = X at *
      generalize B t.first.length = Y at *
      refine c22a.callL rfl (by simp [pubVs, pubV, dz, htA]) rfl ?_
      simp only [go_sem, hd0]
      refine c22b.callL rfl (by simp [pubVs, pubV, dz, htB]) rfl ?_
      simp only [go_sem, hd0]
      exact ForgetTo.drop (H0 := [_, _, _]) (Y := [_, _]) (Nat.zero_le _) rfl (by simp [BBs, BB, VBs, VB]) ⟨⟨rfl, rfl⟩, ⟨rfl, rfl⟩, ⟨rfl, rfl⟩, ⟨rfl, rfl⟩, ⟨rfl, rfl⟩, ⟨rfl, rfl⟩, ⟨rfl, rfl⟩, trivial⟩
  · have d1 : decide (mnErr t word a = 0) = false := decide_eq_false he
    generalize sV t word a = vS at *
    generalize pV t word a = vP at *
    simp only [e7n, h7]
    generalize nearP t word a.lo = N at *
    simp only [go_sem, d1]
    exact ForgetTo.same' (Nat.zero_le _) ⟨rfl, rfl, rfl, rfl, rfl, rfl, rfl, trivial⟩ rfl

theorem c7_d (t : Town) (word : ByteArray) (a : Ask) (hlong : longB t [word] = false) :
    AWP prog f7.ntmps 0 none (restC 1 (restC 5 (restC 6 (bodyOf f7)))) ((14, .d (.int .i64 (wantM t word))) :: e7n t word a) (h7 t a) (post1 6) := by
  obtain ⟨hs, l1, l2, _, m1, m2, m3⟩ := long_fits hlong
  have hd0 : ∀ {α : Type} [DecidableEq α] (l : α), decide (l = l) = true := fun l => by simp
  have c26a := c26 a.lo 0 1000
  have hN : nearP t word a.lo = if openE t ≠ 0 then ([], 0, openE t) else if nm word = false then ([], 0, 4) else if ¬(0 ≤ a.lo ∧ a.lo ≤ 1000) then ([], 0, 3)
    else ((nearF word (namesT t a.lo) t.first.length).2, ((nearF word (namesT t a.lo) t.first.length).1 : Int), 0) := rfl
  have hM : wantM t word = if openE t ≠ 0 then openE t else if nm word = false then 4 else 0 := rfl
  refine AWP.runS (fun _ => false) tt_ok (fun _ h => nomatch h) (Nat.zero_le _) rfl ?_
  simp only [e7n, h7, askB, townB]
  by_cases ho : openE t = 0
  · rw [if_neg (by simpa using ho)] at hN hM
    obtain ⟨hok, _, hpg⟩ := open_pg ho
    cases hn : nm word with
    | false =>
      rw [hn, if_pos rfl] at hN hM
      rw [hN, hM]
      simp only [go_sem, List.length_map, List.length_nil]
      refine c15.call rfl rfl rfl ?_
      simp only [go_sem]
    | true =>
      rw [hn, if_neg (by simp)] at hN hM
      rw [hM]
      simp only [go_sem]
      refine c26a.call rfl rfl rfl ?_
      by_cases h1 : 0 ≤ a.lo ∧ a.lo ≤ 1000
      · rw [if_neg (by simpa using h1)] at hN
        rw [hN]
        have c45a := c45 hok word (nm_size hn).2 a.lo
        have hl := nearF_len word (namesT t a.lo) t.first.length
        generalize nearF word (namesT t a.lo) t.first.length = X at *
        have c22a := c22 X.2 X.2 (by omega) (by omega)
        simp only [Town.d] at c45a
        simp only [go_sem, decide_eq_true h1]
        refine c45a.call rfl rfl rfl ?_
        simp only [go_sem]
        refine c22a.call rfl rfl rfl ?_
        simp only [go_sem, hd0]
        refine c15.call rfl rfl rfl ?_
        simp only [go_sem]
      · rw [if_pos (by simpa using h1)] at hN
        rw [hN]
        simp only [go_sem, decide_eq_false h1, List.length_map, List.length_nil]
        refine c15.call rfl rfl rfl ?_
        simp only [go_sem]
  · rw [if_pos (by simpa using ho)] at hN hM
    have d1 : decide (openE t = 0) = false := decide_eq_false ho
    rw [hN, hM]
    simp only [go_sem, d1, hd0, List.length_map, List.length_nil]
    refine c15.call rfl rfl rfl ?_
    simp only [go_sem]

theorem c7 (t : Town) (word : ByteArray) (a : Ask) : PC prog 7 [.d t.d, .d (.str word), .d a.d] (.d (.bool true)) :=
  c7_a t word a fun h => c7_b t word a h (c7_c t word a h (c7_d t word a h))
end Go.Aw
end

section
set_option maxRecDepth 100000
namespace Go.Aw
open Go Go.Proofs

theorem has_spn {f : Nat} {y : D} (h : HasT Tryz.prog (f + 2) 75 y) : ∃ a b : Int, y = .agg [.int .i64 a, .int .i64 b] := by
  unfold HasT at h
  rw [Tryz.underlying75] at h
  obtain ⟨l, rfl, h⟩ := h
  simp only [HasFs] at h
  obtain ⟨y1, r1, rfl, h1, y2, r2, rfl, h2, rfl⟩ := h
  obtain ⟨n1, rfl, _⟩ := has_int h1
  obtain ⟨n2, rfl, _⟩ := has_int h2
  exact ⟨n1, n2, rfl⟩

theorem has_ask {f : Nat} {y : D} (h : HasT Tryz.prog (f + 3) 77 y) : ∃ a : Ask, y = a.d := by
  unfold HasT at h
  rw [Tryz.underlying77] at h
  obtain ⟨l, rfl, h⟩ := h
  simp only [HasFs] at h
  obtain ⟨y1, r1, rfl, h1, y2, r2, rfl, h2, rfl⟩ := h
  obtain ⟨n1, n2, rfl⟩ := has_spn h1
  obtain ⟨n3, rfl, _⟩ := has_int h2
  exact ⟨⟨n1, n2, n3⟩, rfl⟩
end Go.Aw
end
