/- Ounces by weighings. Told. All sets of so many numbers. Wrong. Truths. Looks. The reference: lists compared. What the document's examples say is so. The reference: copies, Check, Same, Coats. The reference's Truths. The reference's Sum, How. All truths are tried: what comes of it. Arguments of the program's types. The reference: Content, Mix. Works of bytes, with a truth. The law's helpers: coats, own, ints, together, ends, in, comes. CoatTruth: the plain law. The planner's answer: the cheapest of all ascending lists. The law's sure, less; ints as a row of its own; numbers of coats. The reference: Ends, Good, Less, Pence. The reference: Lists. The reference: Plan, Many. CoatPlans. -/
import Derived.Test.YtfbndelhgfbkoaaGreatL1
set_option linter.unusedSimpArgs false
set_option linter.unusedVariables false

section
set_option maxRecDepth 100000
namespace Go.Aw
open Go Go.Proofs.Tryz

def wgh00 : Wgh := ⟨0, 1, ⟨0, 0⟩⟩

/-- The ounces of a slip by the first weighings, without some. -/
def ozF (w : Works) (l : List Wgh) (but s : Nat) : Nat → Sp
  | 0 => (w.sl s).ounces
  | i + 1 => if but.testBit i = false ∧ (l.getD i wgh00).slip = (s : Int) then ⟨max (ozF w l but s i).lo (((l.getD i wgh00).used.lo + (l.getD i wgh00).feet - 1).tdiv (l.getD i wgh00).feet), min (ozF w l but s i).hi ((l.getD i wgh00).used.hi.tdiv (l.getD i wgh00).feet)⟩ else ozF w l but s i

structure Wgh.Ok (w : Works) (a : Wgh) : Prop where
  s : 0 ≤ a.slip ∧ a.slip < w.slips.length
  f : 1 ≤ a.feet ∧ a.feet ≤ 200
  u : 0 ≤ a.used.lo ∧ a.used.lo ≤ a.used.hi ∧ a.used.hi ≤ 20000

theorem wghE_ok {w : Works} {l : List Wgh} (h : wghE w l = 0) : w.Ok ∧ l.length ≤ 6 ∧ ∀ a ∈ l, a.Ok w := by
  unfold wghE at h
  split at h
  · rename_i h1
    split at h
    · omega
    rename_i h2
    split at h
    · omega
    rename_i h3
    refine ⟨checkP_iff.1 h1, by omega, fun a ha => ?_⟩
    have h4 : badW w a = false := by
      rw [← Bool.not_eq_true]
      exact fun h => h3 (List.any_eq_true.2 ⟨a, ha, h⟩)
    simp only [badW, Bool.or_eq_false_iff, Bool.not_eq_false', Bool.and_eq_true, within_one, within_two, decide_eq_true_eq] at h4
    exact ⟨by omega, by omega, by omega⟩
  · omega

theorem tdiv_small {a c m : Int} (ha : 0 ≤ a ∧ a ≤ m) (hc : 0 < c) : 0 ≤ a.tdiv c ∧ a.tdiv c ≤ m := by
  rw [Int.tdiv_eq_ediv_of_nonneg ha.1]
  exact ⟨Int.ediv_nonneg ha.1 (by omega), Int.le_trans (Int.ediv_le_self _ ha.1) ha.2⟩

theorem ozF_bnd {w : Works} (hok : w.Ok) {l : List Wgh} (hl : ∀ a ∈ l, a.Ok w) (but s : Nat) : ∀ i, i ≤ l.length → (0 ≤ (ozF w l but s i).lo ∧ (ozF w l but s i).lo ≤ 21000) ∧ (0 ≤ (ozF w l but s i).hi ∧ (ozF w l but s i).hi ≤ 20)
  | 0, _ => by have := (hok.sl s).ounces; simp only [ozF]; omega
  | i + 1, hi => by
    have ih := ozF_bnd hok hl but s i (by omega)
    have hg : l.getD i wgh00 ∈ l := by rw [List.getD_eq_getElem?_getD, List.getElem?_eq_getElem (by omega)]; exact List.getElem_mem _
    have ha := hl _ hg
    simp only [ozF]
    generalize l.getD i wgh00 = a at ha
    split
    · have h1 := tdiv_small (a := a.used.lo + a.feet - 1) (c := a.feet) (m := 20200) (by have := ha.u; have := ha.f; omega) (by have := ha.f; omega)
      have h2 := tdiv_small (a := a.used.hi) (c := a.feet) (m := 20000) (by have := ha.u; omega) (by have := ha.f; omega)
      simp only
      omega
    · exact ih

def ozL (w : Works) (l : List Wgh) (but i : Nat) : List Sp := (List.range w.slips.length).map fun s => ozF w l but s i

def ozOk (w : Works) (l : List Wgh) (but : Nat) : Bool := (ozL w l but l.length).all fun s => decide (s.lo ≤ s.hi)

def ozR (w : Works) (l : List Wgh) (but : Nat) : List Sp := if ozOk w l but = true then ozL w l but l.length else []

theorem ozF_mono (w : Works) (l : List Wgh) (but s i : Nat) : ∀ k, (ozF w l but s i).lo ≤ (ozF w l but s (i + k)).lo ∧ (ozF w l but s (i + k)).hi ≤ (ozF w l but s i).hi
  | 0 => ⟨Int.le_refl _, Int.le_refl _⟩
  | k + 1 => by
    have ih := ozF_mono w l but s i k
    rw [← Nat.add_assoc]
    simp only [ozF]
    split
    · simp only; omega
    · exact ih

theorem ozOk_false {w : Works} {l : List Wgh} {but s i : Nat} (hs : s < w.slips.length) (hi : i ≤ l.length) (h : ¬ (ozF w l but s i).lo ≤ (ozF w l but s i).hi) : ozOk w l but = false := by
  rw [ozOk, ← Bool.not_eq_true, List.all_eq_true]
  intro hall
  have h1 := hall (ozF w l but s l.length) (List.mem_map.2 ⟨s, List.mem_range.2 hs, rfl⟩)
  have h2 := ozF_mono w l but s i (l.length - i)
  rw [show i + (l.length - i) = l.length by omega] at h2
  simp only [decide_eq_true_eq] at h1
  omega

theorem ozOk_true {w : Works} {l : List Wgh} {but : Nat} (h : ∀ s, s < w.slips.length → (ozF w l but s l.length).lo ≤ (ozF w l but s l.length).hi) : ozOk w l but = true := by
  rw [ozOk, List.all_eq_true]
  intro x hx
  obtain ⟨s, hs, rfl⟩ := List.mem_map.1 hx
  simpa using h s (List.mem_range.1 hs)

def wghB (w : Works) (l : List Wgh) (but : Int) : Blk := .cells [.d (.sl (w.slips.map Slip.d)), .d (.int .i64 w.hides), .d (.int .i64 w.drops), .d (.sl (l.map Wgh.d)), .d (.int .i64 but)]

theorem c94 {w : Works} (hok : w.Ok) {l : List Wgh} (hl : l.length ≤ 6) (hlo : ∀ a ∈ l, a.Ok w) {but : Nat} (hbut : but < 2 ^ 62) : PC prog 52 [.d (Wghs.mk w l but).d] (.tup [.d (.sl ((ozR w l but).map Sp.d)), .d (.bool (ozOk w l but))]) := by
  obtain ⟨l1, l2⟩ := hok.len
  refine PC.of_body tt_ok (fn := f52) (rs := [.tmp 2, .tmp 3]) rfl rfl rfl rfl rfl rfl ?_
  refine AWP.stepN 2 [(2, .ref 1 w.slips.length 0 w.slips.length), (1, .ptr 0 0)] [wghB w l but, .arr 2 false ((ozL w l but 0).map Sp.d)] (fun k => k == 2) tt_ok (fun _ h => nomatch h) (Nat.zero_le _) rfl ?_ ?_
  · simp only [go_sem, Wghs.d, List.length_map]
    refine ALoop.by (S := Nat) (fun i => [(14, .d (.int .i64 i)), (13, .d (.int .i64 w.slips.length)), (12, .d (.sl (w.slips.map Slip.d))), (2, .ref 1 i 0 i), (1, .ptr 0 0)])
      (fun i => [wghB w l but, .arr 2 (decide (i = 0)) ((List.range i).map fun s => (w.sl s).ounces.d)]) (fun i => w.slips.length - i) (fun i => i ≤ w.slips.length) 0 (Nat.zero_le _) (fun _ h => nomatch h) (Nat.zero_le _) ?_ ?_
    · exact ForgetTo.same' (Nat.zero_le _) (by simp [EWe, Env.look]) (by simp [wghB])
    rintro i hi hn
    refine AWP.run (fun k => k == 2) tt_ok (fun _ h => nomatch h) (Nat.zero_le _) rfl ?_
    simp only [go_sem, wghB]
    refine Br_split (fun hd => ?_) (fun hd => ?_) <;> simp only [go_sem, hd]
    · have hlt : i < w.slips.length := by simpa using hd
      have hat := Works.at hlt
      have hln : ((List.range i).map fun s => (w.sl s).ounces.d).length = i := by simp
      have hi1 : i + 1 ≤ 4294967296 := by omega
      have hst : (List.range (i + 1)).map (fun s => (w.sl s).ounces.d) = (List.range i).map (fun s => (w.sl s).ounces.d) ++ [(w.sl i).ounces.d] := by rw [List.range_succ, List.map_append]; rfl
      have hnx : IntKind.i64.wrap ((i : Int) + 1) = (i : Int) + 1 := w64 (by omega) (by omega)
      generalize ((List.range i).map fun s => (w.sl s).ounces.d) = M at *
      simp only [go_sem, hat, Slip.d, hln, hi1]
      refine ⟨i + 1, hlt, by omega, ?_⟩
      refine ForgetTo.drop (H0 := [_, _]) (Y := [_]) (Nat.zero_le _) ?_ (by simp [BBs, BB, VBs, VB, wghB]) ?_
      · rw [hst]; simp [wghB, Sp.d]
      · simp [EWp, Env.look, pubV, hnx]
    · have hne : i = w.slips.length := by simp only [decide_eq_false_iff_not] at hd; omega
      subst hne
      refine ForgetTo.same' (Nat.zero_le _) (by simp [EWe, Env.look]) ?_
      have h0 : ¬ w.slips.length = 0 := by omega
      simp [wghB, ozL, ozF, h0]
  · have hz : ∀ i, (ozL w l but i).length = w.slips.length := fun i => by simp [ozL]
    refine AWP.runS (fun k => k == 2) tt_ok (fun _ h => nomatch h) (Nat.zero_le _) rfl ?_
    simp only [go_sem, wghB, List.length_map]
    refine ALoop.by (S := Nat) (fun i => [(27, .d (.int .i64 i)), (26, .d (.int .i64 l.length)), (25, .d (.sl (l.map Wgh.d))), (2, .ref 1 w.slips.length 0 w.slips.length), (1, .ptr 0 0)])
      (fun i => [wghB w l but, .arr 2 false ((ozL w l but i).map Sp.d)]) (fun i => l.length - i) (fun i => i ≤ l.length ∧ ∀ s, s < w.slips.length → (ozF w l but s i).lo ≤ (ozF w l but s i).hi) 0 (Nat.zero_le _) (fun _ h => nomatch h) ⟨Nat.zero_le _, fun s hs => by have := (hok.sl s).ounces; simp only [ozF]; omega⟩ ?_ ?_
    · exact ForgetTo.same' (Nat.zero_le _) (by simp [EWe, Env.look]) (by simp [wghB])
    rintro i ⟨hi, hall⟩ hn
    refine AWP.run (fun k => k == 2) tt_ok (fun _ h => nomatch h) (Nat.zero_le _) rfl ?_
    simp only [go_sem, wghB]
    refine Br_split (fun hd => ?_) (fun hd => ?_) <;> simp only [go_sem, hd]
    · have hlt : i < l.length := by simpa using hd
      have hix : idx? (l.map Wgh.d) (i : Int) = some (l[i]).d := by simp [idx?, List.getElem?_eq_getElem hlt]
      have hnx : IntKind.i64.wrap ((i : Int) + 1) = (i : Int) + 1 := w64 (by omega) (by omega)
      have ha := hlo _ (List.getElem_mem hlt)
      have hgd : l.getD i wgh00 = l[i] := by simp [List.getD_eq_getElem?_getD, List.getElem?_eq_getElem hlt]
      have hbd := fun s => ozF_bnd hok hlo but s i hi
      have hstep : ∀ s, ozF w l but s (i + 1) = if but.testBit i = false ∧ (l[i]).slip = (s : Int) then ⟨max (ozF w l but s i).lo (((l[i]).used.lo + (l[i]).feet - 1).tdiv (l[i]).feet), min (ozF w l but s i).hi ((l[i]).used.hi.tdiv (l[i]).feet)⟩ else ozF w l but s i := fun s => by rw [ozF, hgd]
      generalize l[i] = a at *
      have hb63 : but < 2 ^ 63 := by omega
      simp only [go_sem, hix, Wgh.d, shrN but (show i < 64 by omega), and1N (shr_lt (p := i) hb63), bitN]
      refine Br_split (fun hb => ?_) (fun hb => ?_) <;> simp only [go_sem, hb]
      · have he : ∀ s, ozF w l but s (i + 1) = ozF w l but s i := fun s => by rw [hstep s, if_neg (by rw [hb]; simp)]
        have heL : ozL w l but (i + 1) = ozL w l but i := by simp only [ozL, he]
        refine ⟨i + 1, ⟨hlt, fun s hs => by rw [he s]; exact hall s hs⟩, by omega, ?_⟩
        refine ForgetTo.drop (H0 := [_, _]) (Y := [_]) (Nat.zero_le _) ?_ (by simp [BBs, BB, VBs, VB, wghB]) ?_
        · rw [heL]
        · simp [EWp, Env.look, pubV, hnx]
      · obtain ⟨s0, hs0⟩ : ∃ s0 : Nat, a.slip = (s0 : Int) := ⟨a.slip.toNat, by have := ha.s; omega⟩
        have hsl : s0 < w.slips.length := by have := ha.s; omega
        have hzi := hz i
        have hml : ((ozL w l but i).map Sp.d).length = w.slips.length := by simp [ozL]
        have hmg : ((ozL w l but i).map Sp.d)[s0]? = some (.agg [.int .i64 (ozF w l but s0 i).lo, .int .i64 (ozF w l but s0 i).hi]) := by simp [ozL, List.getElem?_range hsl, Sp.d]
        have h1 := tdiv_small (a := a.used.lo + a.feet - 1) (c := a.feet) (m := 20200) (by have := ha.u; have := ha.f; omega) (by have := ha.f; omega)
        have h2 := tdiv_small (a := a.used.hi) (c := a.feet) (m := 20000) (by have := ha.u; omega) (by have := ha.f; omega)
        have hfu := ha.u
        have hff := ha.f
        have hne : a.feet ≠ 0 := by omega
        have w1 : IntKind.i64.wrap (a.used.lo + a.feet) = a.used.lo + a.feet := w64 (by omega) (by omega)
        have w2 : IntKind.i64.wrap (a.used.lo + a.feet - 1) = a.used.lo + a.feet - 1 := w64 (by omega) (by omega)
        have w3 : IntKind.i64.wrap ((a.used.lo + a.feet - 1).tdiv a.feet) = (a.used.lo + a.feet - 1).tdiv a.feet := w64 (by omega) (by omega)
        have w4 : IntKind.i64.wrap (a.used.hi.tdiv a.feet) = a.used.hi.tdiv a.feet := w64 (by omega) (by omega)
        have hms : (ozL w l but (i + 1)).map Sp.d = ((ozL w l but i).map Sp.d).set s0 (.agg [.int .i64 (max (ozF w l but s0 i).lo ((a.used.lo + a.feet - 1).tdiv a.feet)), .int .i64 (min (ozF w l but s0 i).hi (a.used.hi.tdiv a.feet))]) := by
          refine List.ext_getElem (by simp [ozL]) fun q q1 q2 => ?_
          have q3 : q < w.slips.length := by simpa [ozL] using q1
          rw [List.getElem_set]
          by_cases hq : s0 = q
          · subst hq
            rw [if_pos rfl]
            simp [ozL, hstep, hb, hs0, Sp.d]
          · rw [if_neg hq]
            simp [ozL, hstep, hb, hs0, show ¬ (s0 : Int) = (q : Int) by omega]
        have hnew : ∀ s, s < w.slips.length → s ≠ s0 → ozF w l but s (i + 1) = ozF w l but s i := fun s _ hs => by
          rw [hstep s, if_neg (by rintro ⟨_, h⟩; omega)]
        have hnew0 : ozF w l but s0 (i + 1) = ⟨max (ozF w l but s0 i).lo ((a.used.lo + a.feet - 1).tdiv a.feet), min (ozF w l but s0 i).hi (a.used.hi.tdiv a.feet)⟩ := by rw [hstep s0, if_pos ⟨hb, hs0⟩]
        generalize (ozL w l but i).map Sp.d = M at *
        generalize ozF w l but s0 i = O at *
        have hq0 : (0 : Int) ≤ (s0 : Int) := by omega
        have hq1 : (s0 : Int) < w.slips.length := by omega
        have hsg : ∀ x : D, (M.set s0 x)[s0]? = some x := fun x => List.getElem?_set_self (by omega)
        simp only [go_sem, hs0, hml, hzi, hq0, hq1, Int.toNat_natCast]
        refine ADrw.treeG (fun k => k == 2) tt_ok (by kernel_rfl) (fun k => if k = 4 ∨ k = 7 ∨ k = 9 ∨ k = 13 then some .L else if k = 18 then some .W else some .S) (.ones [0, 1, 2, 3, 4, 5, 6, 7, 8, 9, 10, 11, 12, 13, 14, 15, 16, 17, 18] .done) (Nat.zero_le _) (fun _ h => nomatch h) rfl rfl (by kernel_rfl) ?_
        simp only [go_sem, hml, hmg, hq0, hq1, Int.toNat_natCast, Nat.mul_one, Nat.zero_add, w1, w2, w3, quoO_ne hne]
        refine ADrw.treeG (fun k => k == 2) tt_ok (by kernel_rfl) (fun k => if k = 4 ∨ k = 7 ∨ k = 9 then some .L else if k = 14 then some .W else some .S) (.ones [0, 1, 2, 3, 4, 5, 6, 7, 8, 9, 10, 11, 12, 13, 14] .done) (Nat.zero_le _) (fun _ h => nomatch h) rfl rfl (by kernel_rfl) ?_
        simp only [go_sem, hml, hsg, List.length_set, List.set_set, hq0, hq1, Int.toNat_natCast, Nat.mul_one, Nat.zero_add, w4, quoO_ne hne]
        refine ADrw.treeG (fun k => k == 2) tt_ok (by kernel_rfl) (fun k => if k = 3 ∨ k = 7 then some .L else some .S) (.ones [0, 1, 2, 3, 4, 5, 6, 7, 8] .done) (Nat.zero_le _) (fun _ h => nomatch h) rfl rfl (by kernel_rfl) ?_
        simp only [go_sem, hml, hsg, List.length_set, hq0, hq1, Int.toNat_natCast, Nat.mul_one, Nat.zero_add]
        refine Br_split (fun hf => ?_) (fun hf => ?_) <;> simp only [go_sem, hf]
        · have hF := ozOk_false (but := but) hsl (Nat.succ_le_of_lt hlt) (by rw [hnew0]; simp only [decide_eq_true_eq] at hf ⊢; omega)
          rw [ozR, hF]
          rfl
        · refine ⟨i + 1, ⟨hlt, fun s hs => ?_⟩, by omega, ?_⟩
          · by_cases h : s = s0
            · subst h
              rw [hnew0]
              simp only [decide_eq_false_iff_not] at hf ⊢
              omega
            · rw [hnew s hs h]; exact hall s hs
          · refine ForgetTo.drop (H0 := [_, _]) (Y := [_]) (Nat.zero_le _) ?_ (by simp [BBs, BB, VBs, VB, wghB]) ?_
            · simp [wghB, hms]
            · simp [EWp, Env.look, pubV, hnx]
    · have hne : i = l.length := by simp only [decide_eq_false_iff_not] at hd; omega
      subst hne
      have hT := ozOk_true hall
      have htk : ((ozL w l but l.length).map Sp.d).take w.slips.length = (ozL w l but l.length).map Sp.d := List.take_of_length_le (by simp [hz])
      simp only [go_sem, ozR, hT, if_true, hz, htk]
end Go.Aw
end

section
set_option maxRecDepth 100000
namespace Go.Aw
open Go Go.Proofs.Tryz

def toldP (w : Works) (l : List Wgh) : List Sp × Int := if wghE w l = 0 then (if ozOk w l 0 = true then (ozL w l 0 l.length, 0) else ([], 9)) else ([], wghE w l)

def toldV (w : Works) (l : List Wgh) : V := if (toldP w l).2 = 0 then .d (.sl ((toldP w l).1.map Sp.d)) else .slx (some true) []

theorem c37 (w : Works) (l : List Wgh) (hw : w.slips.length ≤ 4294967296) (hl : l.length ≤ 4294967296) : PC prog 23 [.d w.d, .d (.sl (l.map Wgh.d))] (.tup [toldV w l, .d (.int .i64 (toldP w l).2)]) := by
  refine PC.run (fun _ => false) tt_ok (fn := f23) (rs := [.tmp 4, .tmp 5]) rfl rfl rfl rfl rfl rfl rfl ?_
  simp only [go_sem, Works.d]
  refine (c93 w l hw hl).call rfl rfl rfl ?_
  simp only [go_sem, Wghs.d]
  refine Br_split (fun h1 => ?_) (fun h1 => ?_) <;> simp only [go_sem, h1]
  · have hc : ¬ wghE w l = 0 := by simpa using h1
    have hP : toldP w l = ([], wghE w l) := by rw [toldP, if_neg hc]
    rw [toldV, hP, if_neg hc]
  have hc : wghE w l = 0 := by simpa using h1
  obtain ⟨hok, hl6, hlo⟩ := wghE_ok hc
  have hP : wghP w l = ⟨w, l, 0⟩ := by rw [wghP, if_pos hc]
  rw [hP]
  refine (c94 hok hl6 hlo (but := 0) (by omega)).call rfl rfl rfl ?_
  simp only [go_sem]
  refine Br_split (fun h2 => ?_) (fun h2 => ?_) <;> simp only [go_sem, h2]
  · have h2' : ozOk w l 0 = false := by simpa using h2
    have hQ : toldP w l = ([], 9) := by rw [toldP, if_pos hc, if_neg (by rw [h2']; simp)]
    rw [toldV, hQ]
    rfl
  · have h2' : ozOk w l 0 = true := by simpa using h2
    have hQ : toldP w l = (ozL w l 0 l.length, 0) := by rw [toldP, if_pos hc, if_pos h2']
    rw [toldV, hQ, ozR, if_pos h2']
    rfl
end Go.Aw
end

section
set_option maxRecDepth 100000
namespace Go.Aw
open Go Go.Proofs.Tryz

/-- All sets of so many numbers from one on and below another one. -/
def setsF (below : Nat) : Nat → Nat → List (List Nat × Nat)
  | 0, _ => [([], 0)]
  | m + 1, first => (List.range (below - first)).flatMap fun j => (setsF below m (first + j + 1)).map fun p => ((first + j) :: p.1, p.2 ||| 2 ^ (first + j))

def lvN (l : List Nat) : V :=
  match l with
  | [] => .slx (some true) []
  | x :: r => .d (.sl (natsD (x :: r)))

theorem giv_lvN (H : Heap) (l : List Nat) : giv H (lvN l) = some (.sl (natsD l), H) := by cases l <;> rfl
def setI (p : List Nat × Nat) : List V := [lvN p.1, .d (.int .i64 p.2)]

def setV (first below many : Nat) : V := .fn (.func 75) [] [.pp [.int .i64 many], .pp [.int .i64 first], .pp [.int .i64 below]]

theorem c95 (first below many : Nat) : PC prog 53 [.d (.int .i64 first), .d (.int .i64 below), .d (.int .i64 many)] (setV first below many) := by
  refine PC.run (fun _ => false) tt_ok (fn := f53) (rs := [.tmp 6]) rfl rfl rfl rfl rfl rfl rfl ?_
  simp only [go_sem, setV]

theorem natsD_ints (l : List Nat) : natsD l = (l.map fun n : Nat => (n : Int)).map (.int .i64) := by simp [natsD]

theorem c119n (n : Nat) (l : List Nat) (hl : l.length ≤ 100) : PC prog 76 [.d (.sl [.sl [.int .i64 n], .sl (natsD l)])] (.d (.sl (natsD (n :: l)))) := by
  have := c119 n (l.map fun n : Nat => (n : Int)) (by simpa using hl)
  rw [natsD_ints, natsD_ints]
  exact this

theorem setsF_mem (below : Nat) : ∀ (m first : Nat), ∀ p ∈ setsF below m first, p.1.length = m ∧ p.2 < 2 ^ below
  | 0, first, p, hp => by
    simp only [setsF, List.mem_singleton] at hp
    subst hp
    exact ⟨rfl, Nat.two_pow_pos _⟩
  | m + 1, first, p, hp => by
    simp only [setsF, List.mem_flatMap, List.mem_range, List.mem_map] at hp
    obtain ⟨j, hj, q, hq, rfl⟩ := hp
    obtain ⟨h1, h2⟩ := setsF_mem below m _ q hq
    exact ⟨by simp [h1], Nat.or_lt_two_pow h2 (Nat.pow_lt_pow_right (by omega) (by omega))⟩

def nB (k : Nat) : Blk := .cells [.d (.int .i64 (k : Int))]
def gB (yv : V) (first k : Nat) : Heap := .cells [yv] :: (List.range k).map fun i => nB (first + i)
theorem gB_len (yv : V) (first k : Nat) : (gB yv first k).length = k + 1 := by simp [gB]
theorem gB_succ (yv : V) (first k : Nat) : gB yv first (k + 1) = gB yv first k ++ [nB (first + k)] := by simp [gB, List.range_succ]
theorem gB_BBs {yv : V} {m : Nat} (h : VB m yv = true) (first k : Nat) : BBs m (gB yv first k) := by
  induction k with
  | zero => simp only [gB, List.range_zero, List.map_nil, BBs, BB, VBs, h, Bool.and_true, and_true]
  | succ k ih =>
    rw [gB_succ]
    exact BBs_append ih (by simp [BBs, BB, VBs, VB, nB])

theorem c118 {below : Nat} (hb : below ≤ 60) : ∀ (m first : Nat), m ≤ 60 → Iter prog (setV first below m) ((setsF below m first).map setI) := by
  intro m
  induction m with
  | zero =>
    intro first _ yv n I Q hf hyv hI hy hend H hH
    have hHl := (hI _ _ hH).1
    have hHb := (hI _ _ hH).2
    obtain ⟨f, x, y, rfl⟩ := hf
    refine ACallV.of rfl ?_
    refine ACalls.run (fun _ => false) tt_ok (fn := f75) (rs := []) rfl rfl rfl rfl rfl rfl rfl ?_
    simp only [go_sem, hHl, hy0 hHl]
    refine (yield_frame hyv hI hy (r := []) [.cells [.fn f x y]] rfl hH).mono ?_
    rintro v H' ⟨H1, rfl, k1, k2, k3⟩
    have hq : Q (.tup []) H1 := by
      rcases k3 with ⟨_, k3⟩ | ⟨_, k3⟩
      · exact hend _ k3
      · exact k3
    simp only [go_sem, hHl, htk k1]
    exact ⟨.inr k2, hq⟩
  | succ m ih =>
    intro first hm yv n I Q hf hyv hI hy hend H hH
    have hHl := (hI _ _ hH).1
    have hHb := (hI _ _ hH).2
    obtain ⟨f, x, y, rfl⟩ := hf
    refine ACallV.of rfl ?_
    refine ACalls.run (fun _ => false) tt_ok (fn := f75) (rs := []) rfl rfl rfl rfl rfl rfl rfl ?_
    have d0 : decide (((m + 1 : Nat) : Int) = 0) = false := by simp only [decide_eq_false_iff_not]; omega
    have hml : ∀ p ∈ setsF below (m + 1) first, p.1.length = m + 1 ∧ p.2 < 2 ^ below := setsF_mem below (m + 1) first
    simp only [go_sem, hHl, hy0 hHl, hy1 hHl, hs1 hHl, hyl hHl, List.append_assoc, d0]
    refine ALoop.by (S := Nat × Heap) (fun s => [(5, .ptr (n + (s.1 + 1)) 0), (4, .ptr n 0), (3, .pp [.int .i64 below]), (1, .pp [.int .i64 ((m + 1 : Nat) : Int)])])
      (fun s => (s.2 ++ gB (.fn f x y) first s.1) ++ [nB (first + s.1)]) (fun s => below - first - s.1)
      (fun s => s.1 ≤ below - first ∧ I ((((List.range (below - first)).drop s.1).flatMap fun j => (setsF below m (first + j + 1)).map fun p => ((first + j) :: p.1, p.2 ||| 2 ^ (first + j))).map setI) s.2) (0, H) (by simp) (fun _ h => nomatch h) ⟨Nat.zero_le _, hH⟩ ?_ ?_
    · exact ForgetTo.same' (by simp) (by simp [EWe, Env.look]) (by simp [gB, nB])
    rintro ⟨k, Hc⟩ ⟨hk, hI0⟩ hn'
    dsimp only at hk hI0 hn' ⊢
    have hcl := (hI _ _ hI0).1
    have hcb := (hI _ _ hI0).2
    have gl := gB_len (.fn f x y) first k
    have hGl : ∀ H1 : Heap, H1.length = n → (H1 ++ gB (.fn f x y) first k).length = n + (k + 1) := fun H1 h => by rw [List.length_append, h, gl]
    have hGA : ∀ H1 : Heap, H1.length = n → ∀ Y, ((H1 ++ gB (.fn f x y) first k) ++ Y)[n]? = some (.cells [.fn f x y]) := fun H1 h Y => by
      rw [List.append_assoc, List.getElem?_append_right (by omega), h, Nat.sub_self]; rfl
    have hGb : ∀ H1 : Heap, H1.length = n → BBs n H1 → BBs (n + (k + 1)) (H1 ++ gB (.fn f x y) first k) := fun H1 h1 h2 =>
      BBs_append (BBs_le (by omega) h2) (gB_BBs (VB_le (by omega) _ hyv) _ _)
    have hGt : ∀ H1 : Heap, H1.length = n → ∀ Y, ((H1 ++ gB (.fn f x y) first k) ++ Y).take n = H1 := fun H1 h Y => by
      rw [List.append_assoc, ← h, List.take_left]
    refine AWP.run (fun _ => false) tt_ok (fun _ h => nomatch h) (by rw [List.length_append, hGl Hc hcl]; omega) rfl ?_
    simp only [go_sem, nB, hy0 (hGl Hc hcl)]
    refine Br_split (fun hd => ?_) (fun hd => ?_) <;> simp only [go_sem, hd, hy0 (hGl Hc hcl)]
    · have hlt : first + k < below := by simp only [decide_eq_true_eq] at hd; omega
      have w1 : IntKind.i64.wrap (((first + k : Nat) : Int) + 1) = ((first + k + 1 : Nat) : Int) := by rw [w64 (by omega) (by omega)]; omega
      have w2 : IntKind.i64.wrap (((m + 1 : Nat) : Int) - 1) = (m : Int) := by rw [w64 (by omega) (by omega)]; omega
      simp only [go_sem, w1, w2]
      refine (c95 (first + k + 1) below m).call rfl rfl rfl ?_
      simp only [go_sem]
      rw [List.drop_eq_getElem_cons (by simp; omega), List.flatMap_cons, List.map_append, List.getElem_range] at hI0
      generalize hrem : (((List.range (below - first)).drop (k + 1)).flatMap fun j => (setsF below m (first + j + 1)).map fun p => ((first + j) :: p.1, p.2 ||| 2 ^ (first + j))).map setI = rem at hI0
      have hYB : ∀ H1 : Heap, H1.length = n → BBs n H1 → BBs (n + (k + 1) + 1) ((H1 ++ gB (.fn f x y) first k) ++ [nB (first + k)]) := fun H1 h1 h2 =>
        BBs_append (BBs_le (by omega) (hGb H1 h1 h2)) (by simp [BBs, BB, VBs, VB, nB])
      have hpw : 2 ^ (first + k) < 2 ^ 62 := Nat.pow_lt_pow_right (by omega) (by omega)
      refine ARng.iterN (items := (setsF below m (first + k + 1)).map setI) (J := fun rest Hx => ∃ (H1 : Heap) (q : List (List Nat × Nat)), Hx = (H1 ++ gB (.fn f x y) first k) ++ [nB (first + k)] ∧ rest = q.map setI ∧ (∀ p ∈ q, p ∈ setsF below m (first + k + 1)) ∧ I ((q.map fun p => setI ((first + k) :: p.1, p.2 ||| 2 ^ (first + k))) ++ rem) H1)
        (by simp; omega) (fun _ h => nomatch h) rfl (ih (first + k + 1) (by omega)) rfl (by simp [VBs, VB, setV, hcl, gl]) ?_ ?_ ?_ ?_ ?_
      · rintro rest Hx ⟨H1, q, rfl, _, _, h1⟩
        obtain ⟨k1, k2⟩ := hI _ _ h1
        simp only [hyl (hGl H1 k1), hyl (hGl Hc hcl), List.length_cons, List.length_nil]
        exact ⟨trivial, hYB H1 k1 k2⟩
      · exact ⟨Hc, _, rfl, rfl, fun _ h => h, by rw [List.map_map] at hI0; exact hI0⟩
      · rintro Hx ⟨H1, q, rfl, hq, _, h1⟩
        obtain ⟨k1, k2⟩ := hI _ _ h1
        obtain rfl : q = [] := by simpa using hq.symm
        rw [List.map_nil, List.nil_append] at h1
        have hgl1 := hGl H1 k1
        have hbb1 := hYB H1 k1 k2
        have hs2 : (H1 ++ gB (.fn f x y) first (k + 1)) ++ [nB (first + (k + 1))] = (H1 ++ gB (.fn f x y) first k) ++ [nB (first + k), nB (first + (k + 1))] := by rw [gB_succ]; simp
        have w3 : IntKind.i64.wrap (((first + k : Nat) : Int) + 1) = ((first + (k + 1) : Nat) : Int) := w1
        obtain ⟨G1, hG1⟩ : ∃ G, G = H1 ++ gB (.fn f x y) first k := ⟨_, rfl⟩
        rw [← hG1] at hgl1 hbb1 hs2 ⊢
        simp only [go_sem, nB, hy0 hgl1, hy1 hgl1, hs1 hgl1, hyl hgl1, List.append_assoc, w3]
        refine ⟨(k + 1, H1), ⟨by dsimp only; omega, by dsimp only; rw [hrem]; exact h1⟩, by dsimp only; omega, ?_⟩
        dsimp only
        simp only [nB, List.append_assoc] at hs2
        rw [hs2]
        exact ForgetTo.same' (by simp [hgl1]; omega) (by simp [EWe, Env.look]; omega) (by simp [nB])
      · intro xs hxs
        obtain ⟨p, _, rfl⟩ := List.mem_map.1 hxs
        rfl
      · rintro L L' xs rest' Hx hbL hxs ⟨H1, q, rfl, hq, hqm, h1⟩
        obtain ⟨p, q', rfl⟩ : ∃ p q', q = p :: q' := by cases q with
          | nil => cases hq
          | cons p r => exact ⟨p, r, rfl⟩
        obtain ⟨rfl, rfl⟩ : xs = setI p ∧ rest' = q'.map setI := by simpa using hq
        obtain ⟨k1, k2⟩ := hI _ _ h1
        have hLc : (Hc ++ gB (.fn f x y) first k ++ [Blk.cells [.d (.int .i64 ((first + k : Nat) : Int))]]).length = n + (k + 1) + 1 := by rw [List.length_append, hGl Hc hcl]; rfl
        have hgl1 := hGl H1 k1
        have hgA := hGA H1 k1
        obtain ⟨G1, hG1⟩ : ∃ G, G = H1 ++ gB (.fn f x y) first k := ⟨_, rfl⟩
        have hYB1 := hYB H1 k1 k2
        rw [← hG1] at hgl1 hgA hYB1 ⊢
        rw [hLc] at hbL ⊢
        refine AWP.run (fun _ => false) tt_ok (fun _ h => by cases h; simp) (by simp [hgl1]) rfl ?_
        simp only [go_sem, setI, nB, hyl hgl1, hy0 hgl1, hy1 hgl1, hs1 hgl1, List.append_assoc]
        refine AWP.run (fun _ => false) tt_ok (fun _ h => by cases h; simp) (by simp [hgl1]) rfl ?_
        simp only [go_sem]
        refine ADrw.treeG (fun _ => false) tt_ok (by kernel_rfl) (fun k => if k = 10 then none else if k = 0 ∨ k = 1 ∨ k = 7 then some .L else some .S) (.ones [0, 1, 2, 3, 4, 5, 6, 7, 8, 9] (.only 10 (.one 11 .done))) (by simp [hgl1]) (fun _ h => by cases h; simp) rfl rfl (by kernel_rfl) ?_
        simp only [go_sem, giv_lvN, hgA, hyl hgl1, hy0 hgl1, hy1 hgl1, hs1 hgl1, List.append_assoc]
        have hpm := hqm p List.mem_cons_self
        obtain ⟨hpl, hpb⟩ := setsF_mem below m _ p hpm
        have hp62 : p.2 < 2 ^ 62 := Nat.lt_of_lt_of_le hpb (Nat.pow_le_pow_right (by omega) (by omega))
        have hor : orI .i64 (p.2 : Nat) ((2 ^ (first + k) : Nat) : Int) = ((p.2 ||| 2 ^ (first + k) : Nat) : Int) := orN (by omega) (by omega)
        refine (c119n (first + k) p.1 (by omega)).callS rfl rfl rfl rfl rfl rfl ?_
        simp only [go_sem, giv_lvN, hgA, hyl hgl1, hy0 hgl1, hy1 hgl1, hs1 hgl1, List.append_assoc, shlN (show first + k < 63 by omega), hor]
        rw [List.map_cons, List.cons_append] at h1
        rw [hG1, List.append_assoc]
        refine (yield_frame hyv hI hy (r := (q'.map fun p => setI ((first + k) :: p.1, p.2 ||| 2 ^ (first + k))) ++ rem) (gB (.fn f x y) first k ++ [nB (first + k), L']) rfl h1).mono ?_
        rintro v H' ⟨H2, rfl, m1, m2, hv⟩
        have hgl2 := hGl H2 m1
        have hYB2 := hYB H2 m1 m2
        have hq2 := hGt H2 m1
        obtain ⟨G2, hG2⟩ : ∃ G, G = H2 ++ gB (.fn f x y) first k := ⟨_, rfl⟩
        rw [← List.append_assoc, ← hG2]
        rw [← hG2] at hgl2 hYB2 hq2
        have ht2 : (G2 ++ [nB (first + k), L']).take (n + (k + 1) + 1) = G2 ++ [nB (first + k)] := by
          rw [← hgl2, List.take_append, List.take_of_length_le (by omega)]; simp
        rcases hv with ⟨rfl, m3⟩ | ⟨rfl, m3⟩
        · simp only [go_sem, hy1 hgl2, ht2]
          exact ⟨hYB2, H2, q', by rw [hG2, List.append_assoc]; rfl, rfl, fun q hq => hqm q (List.mem_cons_of_mem _ hq), m3⟩
        · simp only [go_sem, hy1 hgl2, ht2]
          rw [hHl, hq2]
          exact ⟨hYB2, .inr m2, m3⟩
    · have hke : k = below - first := by simp only [decide_eq_false_iff_not] at hd; omega
      rw [List.drop_eq_nil_of_le (by simp; omega)] at hI0
      simp only [go_sem, hHl, hGt Hc hcl]
      exact ⟨.inr hcb, hend _ hI0⟩
end Go.Aw
end

section
set_option maxRecDepth 100000
namespace Go.Aw
open Go Go.Proofs.Tryz

theorem setsF_all (below : Nat) : ∀ (m first : Nat), first + m ≤ below → ∃ p ∈ setsF below m first, ∀ i, first ≤ i → i < first + m → p.2.testBit i = true
  | 0, first, _ => ⟨([], 0), by simp [setsF], fun i h1 h2 => by omega⟩
  | m + 1, first, h => by
    obtain ⟨p, hp, hb⟩ := setsF_all below m (first + 1) (by omega)
    refine ⟨(first :: p.1, p.2 ||| 2 ^ first), ?_, fun i h1 h2 => ?_⟩
    · simp only [setsF, List.mem_flatMap, List.mem_range, List.mem_map]
      exact ⟨0, by omega, p, by simpa using hp, by simp⟩
    · by_cases hi : i = first
      · subst hi
        simp [Nat.testBit_or, Nat.testBit_two_pow]
      · rw [Nat.testBit_or, hb i (by omega) (by omega), Bool.true_or]

theorem ozF_none {w : Works} {l : List Wgh} {but : Nat} (s : Nat) : ∀ i, (∀ k, k < i → but.testBit k = true) → ozF w l but s i = (w.sl s).ounces
  | 0, _ => rfl
  | i + 1, h => by
    rw [ozF, if_neg (by rw [h i (by omega)]; simp)]
    exact ozF_none s i fun k hk => h k (by omega)

theorem ozOk_none {w : Works} (hok : w.Ok) {l : List Wgh} {but : Nat} (h : ∀ k, k < l.length → but.testBit k = true) : ozOk w l but = true :=
  ozOk_true fun s _ => by rw [ozF_none s _ h]; exact (hok.sl s).ounces.2.1

def wrongF (w : Works) (l : List Wgh) : Option (List Nat × Nat) := ((List.range (l.length + 1)).flatMap fun m => setsF l.length m 0).find? fun p => ozOk w l p.2

def wrongP (w : Works) (l : List Wgh) : List Nat × Int := if wghE w l = 0 then (if ozOk w l 0 = true then ([], 6) else (match wrongF w l with | none => ([], 0) | some p => (p.1, 0))) else ([], wghE w l)

def wrongV (w : Works) (l : List Wgh) : V := if (wrongP w l).2 = 0 then .d (.sl (natsD (wrongP w l).1)) else .slx (some true) []

/-- The heap of Wrong. -/
def hG (w : Works) (l : List Wgh) (but : Nat) (v : V) (e : Int) : Heap := [wrkB w, .cells [v], .cells [.d (.int .i64 e)], wghB w l but]

theorem c38 (w : Works) (l : List Wgh) (hw : w.slips.length ≤ 4294967296) (hl : l.length ≤ 4294967296) : PC prog 24 [.d w.d, .d (.sl (l.map Wgh.d))] (.tup [wrongV w l, .d (.int .i64 (wrongP w l).2)]) := by
  refine PC.run (fun _ => false) tt_ok (fn := f24) (rs := [.cell 4 25, .cell 5 30]) rfl rfl rfl rfl rfl rfl rfl ?_
  simp only [go_sem, Works.d]
  refine (c93 w l hw hl).call rfl rfl rfl ?_
  simp only [go_sem, Works.d, Wghs.d]
  refine Br_split (fun h1 => ?_) (fun h1 => ?_) <;> simp only [go_sem, h1]
  · have hc : ¬ wghE w l = 0 := by simpa using h1
    have hP : wrongP w l = ([], wghE w l) := by rw [wrongP, if_neg hc]
    rw [wrongV, hP, if_neg hc]
  have hc : wghE w l = 0 := by simpa using h1
  obtain ⟨hok, hl6, hlo⟩ := wghE_ok hc
  have hP : wghP w l = ⟨w, l, 0⟩ := by rw [wghP, if_pos hc]
  rw [hP]
  refine (c94 hok hl6 hlo (but := 0) (by omega)).call rfl rfl rfl ?_
  simp only [go_sem]
  refine Br_split (fun h2 => ?_) (fun h2 => ?_) <;> simp only [go_sem, h2]
  · have hQ : wrongP w l = ([], 6) := by rw [wrongP, if_pos hc, if_pos h2]
    rw [wrongV, hQ]
    rfl
  have h2' : ¬ ozOk w l 0 = true := by rw [h2]; simp
  have hQ : wrongP w l = (match wrongF w l with | none => ([], 0) | some p => (p.1, 0)) := by rw [wrongP, if_pos hc, if_neg h2']
  have hpos : 0 < l.length := by
    rcases Nat.eq_zero_or_pos l.length with h | h
    · exact absurd (ozOk_none hok (but := 0) fun k hk => by omega) h2'
    · exact h
  refine ALoop.by (S := Nat × Nat) (fun s => [(10, .d (.int .i64 s.1)), (6, .ptr 3 0), (5, .ptr 2 0), (4, .ptr 1 0), (1, .d (.sl (l.map Wgh.d)))])
    (fun s => hG w l s.2 (.slx (some true) []) 0) (fun s => l.length + 1 - s.1)
    (fun s => (1 ≤ s.1 ∧ s.1 ≤ l.length) ∧ wrongF w l = (((List.range (l.length + 1)).drop s.1).flatMap fun m => setsF l.length m 0).find? fun p => ozOk w l p.2) (1, 0) (by simp) (fun _ h => nomatch h) ⟨⟨by simp, hpos⟩, ?_⟩ ?_ ?_
  · rw [wrongF, List.range_succ_eq_map]
    simp [setsF, h2]
  · exact ForgetTo.same' (by simp) (by simp [EWe, Env.look]) (by simp [hG, wrkB, wghB])
  rintro ⟨many, but⟩ ⟨⟨hm1, hm2⟩, hfst⟩ hn'
  dsimp only at hm1 hm2 hfst hn' ⊢
  refine AWP.run (fun _ => false) tt_ok (fun _ h => nomatch h) (by simp) rfl ?_
  simp only [go_sem, hG, List.length_map]
  refine (c95 0 l.length many).call rfl rfl rfl ?_
  simp only [go_sem]
  rw [List.drop_eq_getElem_cons (by simp; omega), List.flatMap_cons, List.find?_append, List.getElem_range] at hfst
  refine ARng.iterN (items := (setsF l.length many 0).map setI) (J := fun rest Hx => ∃ (but : Nat) (pre : List (List Nat × Nat)), Hx = hG w l but (.slx (some true) []) 0 ∧ rest = pre.map setI ∧ (∀ p ∈ pre, p ∈ setsF l.length many 0) ∧ (setsF l.length many 0).find? (fun p => ozOk w l p.2) = pre.find? (fun p => ozOk w l p.2))
    (by simp) (fun _ h => nomatch h) rfl (c118 (by omega) many 0 (by omega)) rfl (by simp [VBs, VB, setV]) ?_ ?_ ?_ ?_ ?_
  · rintro rest Hx ⟨b1, pre, rfl, _, _, _⟩
    exact ⟨rfl, by simp [hG, BBs, BB, VBs, VB, wrkB, wghB]⟩
  · exact ⟨but, _, by simp [hG], rfl, fun _ h => h, rfl⟩
  · rintro Hx ⟨b1, pre, rfl, hp, _, hf1⟩
    obtain rfl : pre = [] := by simpa using hp.symm
    simp only [go_sem]
    have hml : many + 1 ≤ l.length := by
      rcases Nat.lt_or_ge many l.length with h | h
      · exact h
      · have he : many = l.length := by omega
        subst he
        obtain ⟨p, hp1, hp2⟩ := setsF_all l.length l.length 0 (by omega)
        have := List.find?_eq_none.1 hf1 p hp1
        exact absurd (ozOk_none (w := w) (l := l) (but := p.2) hok fun k hk => hp2 k (by omega) (by omega)) (by simpa using this)
    refine ⟨(many + 1, b1), ⟨⟨by simp, hml⟩, ?_⟩, by dsimp only; omega, ?_⟩
    · rw [hfst, hf1, List.find?_nil, Option.none_or, List.range_succ]
    · exact ForgetTo.same' (Nat.zero_le _) (by simp [EWe, Env.look]; rw [w64 (by omega) (by omega)]) rfl
  · intro xs hxs
    obtain ⟨p, _, rfl⟩ := List.mem_map.1 hxs
    rfl
  · rintro L L' xs rest Hx hbL hxs ⟨b1, pre, rfl, hp, hpm, hf1⟩
    obtain ⟨p, rest', rfl⟩ : ∃ p rest', pre = p :: rest' := by cases pre with
      | nil => cases hp
      | cons p r => exact ⟨p, r, rfl⟩
    obtain ⟨rfl, rfl⟩ : xs = setI p ∧ rest = rest'.map setI := by simpa using hp
    refine AWP.run (fun _ => false) tt_ok (fun _ h => by cases h; simp) (by simp [hG]) rfl ?_
    simp only [go_sem, setI, hG]
    refine AWP.run (fun _ => false) tt_ok (fun _ h => by cases h; simp) (by simp) rfl ?_
    simp only [go_sem, wghB]
    have hpl := setsF_mem l.length many 0 p (hpm p List.mem_cons_self)
    have hp62 : p.2 < 2 ^ 62 := Nat.lt_of_lt_of_le hpl.2 (Nat.pow_le_pow_right (by omega) (by omega))
    refine (c94 hok hl6 hlo (but := p.2) hp62).call rfl rfl rfl ?_
    simp only [go_sem]
    refine Br_split (fun h3 => ?_) (fun h3 => ?_) <;> simp only [go_sem, h3]
    · rw [List.find?_cons_of_pos (by exact h3)] at hf1
      rw [hf1] at hfst
      have hlv : lvN p.1 = .d (.sl (natsD p.1)) := by
        obtain ⟨x, r, hx⟩ : ∃ x r, p.1 = x :: r := List.exists_cons_of_ne_nil fun e => by have := hpl.1; rw [e] at this; simp at this; omega
        simp [hx, lvN]
      have hW : wrongP w l = (p.1, 0) := by rw [hQ, hfst]; rfl
      simp only [go_sem, hlv]
      refine ⟨by simp [BB, VBs, VB, wrkB], ?_⟩
      rw [wrongV, hW]
      rfl
    · rw [List.find?_cons_of_neg (by rw [h3]; simp)] at hf1
      exact ⟨by simp [BB, VBs, VB, wrkB], p.2, rest', rfl, rfl, fun q hq => hpm q (List.mem_cons_of_mem _ hq), hf1⟩
end Go.Aw
end

section
set_option maxRecDepth 100000
namespace Go.Aw
open Go Go.Proofs.Tryz

/-- All truths that begin with some. -/
def trL (w : Works) : Nat → List Int → List (List Int)
  | 0, l => [l]
  | r + 1, l => (List.range ((w.sl l.length).thick.hi - (w.sl l.length).thick.lo + 1).toNat).flatMap fun (k : Nat) => trL w r (l ++ [(w.sl l.length).thick.lo + (k : Int)])

def lF (l : List Int) (k : Int) : Int := l.getD k.toNat 0

def thrI (l : List Int) : List V := [.d (cntD (lF l))]

theorem lF_splice (l : List Int) (a b : Int) {q : Nat} (hq : q = l.length) (h : q < 4) (c : List Int) (hc : c = l ∨ c = l ++ [a]) :
    List.take q [V.d (.int .i64 (lF c 0)), .d (.int .i64 (lF c 1)), .d (.int .i64 (lF c 2)), .d (.int .i64 (lF c 3))] ++ V.d (.int .i64 b) :: List.drop q [V.d (.int .i64 (lF c 1)), .d (.int .i64 (lF c 2)), .d (.int .i64 (lF c 3))] =
    [V.d (.int .i64 (lF (l ++ [b]) 0)), .d (.int .i64 (lF (l ++ [b]) 1)), .d (.int .i64 (lF (l ++ [b]) 2)), .d (.int .i64 (lF (l ++ [b]) 3))] := by
  have key : ∀ k : Nat, k ≠ q → lF c (k : Int) = lF (l ++ [b]) (k : Int) := fun k hk => by
    simp only [lF, Int.toNat_natCast, List.getD_eq_getElem?_getD]
    congr 1
    rcases hc with hc | hc <;> rw [hc]
    · rcases Nat.lt_or_ge k l.length with h1 | h1
      · rw [List.getElem?_append_left h1]
      · rw [List.getElem?_eq_none h1, List.getElem?_eq_none (by simp; omega)]
    · rcases Nat.lt_or_ge k l.length with h1 | h1
      · rw [List.getElem?_append_left h1, List.getElem?_append_left h1]
      · rw [List.getElem?_eq_none (by simp; omega), List.getElem?_eq_none (by simp; omega)]
  have kq : lF (l ++ [b]) (q : Int) = b := by
    subst hq
    simp [lF]
  have h4 : q = 0 ∨ q = 1 ∨ q = 2 ∨ q = 3 := by omega
  rcases h4 with h4 | h4 | h4 | h4 <;> rw [h4] at kq key ⊢
  · have k1 := key 1 (by omega); have k2 := key 2 (by omega); have k3 := key 3 (by omega)
    simp at k1 k2 k3 kq
    simp [k1, k2, k3, kq]
  · have k1 := key 0 (by omega); have k2 := key 2 (by omega); have k3 := key 3 (by omega)
    simp at k1 k2 k3 kq
    simp [k1, k2, k3, kq]
  · have k1 := key 0 (by omega); have k2 := key 1 (by omega); have k3 := key 3 (by omega)
    simp at k1 k2 k3 kq
    simp [k1, k2, k3, kq]
  · have k1 := key 0 (by omega); have k2 := key 1 (by omega); have k3 := key 2 (by omega)
    simp at k1 k2 k3 kq
    simp [k1, k2, k3, kq]

theorem hy3 {n : Nat} {Hs : Heap} (hn : Hs.length = n) (Y : Heap) : (Hs ++ Y)[n + 3]? = Y[3]? := by rw [List.getElem?_append_right (by omega), hn]; congr 1; omega
theorem hs3 {n : Nat} {Hs : Heap} (hn : Hs.length = n) (Y : Heap) (X : Blk) : (Hs ++ Y).set (n + 3) X = Hs ++ Y.set 3 X := by rw [List.set_append_right _ _ (by omega), hn]; congr 2; omega

section
variable {yv : V} {n : Nat} {I : List (List V) → Heap → Prop} {Q : V → Heap → Prop} {w : Works}

def onW (n : Nat) : V := .fn (.func 78) [] [.ptr n 0, .ptr (n + 1) 0, .ptr (n + 2) 0]

def SPost (w : Works) (yv : V) (n : Nat) (I : List (List V) → Heap → Prop) (Q : V → Heap → Prop) (rest : List (List V)) (v : V) (H' : Heap) : Prop :=
  ∃ H1, H' = H1 ++ [wrkB w, .cells [yv], .cells [onW n]] ∧ H1.length = n ∧ BBs n H1 ∧ ((v = .d (.bool true) ∧ I rest H1) ∨ (v = .d (.bool false) ∧ Q (.tup []) H1))

theorem c121 (hok : w.Ok) (hf : ∃ f x y, yv = .fn f x y) (hyv : VB n yv = true) (hI : ∀ l H, I l H → H.length = n ∧ BBs n H)
    (hy : ∀ a r H, I (a :: r) H → ACallV prog yv a H (fun v H' => (v = .d (.bool true) ∧ I r H') ∨ (v = .d (.bool false) ∧ H'.length = n ∧ BBs n H' ∧ Q (.tup []) H'))) :
    ∀ (r : Nat) (l : List Int) (rest : List (List V)) (H : Heap), l.length + r = w.slips.length → I ((trL w r l).map thrI ++ rest) H →
      ACalls prog 78 [.d (cntD (lF l)), .d (.int .i64 l.length), .ptr n 0, .ptr (n + 1) 0, .ptr (n + 2) 0] (H ++ [wrkB w, .cells [yv], .cells [onW n]]) (SPost w yv n I Q rest) := by
  obtain ⟨f, x, y, rfl⟩ := hf
  obtain ⟨l1, l2⟩ := hok.len
  intro r
  induction r with
  | zero =>
    intro l rest H hl hi
    have hHl := (hI _ _ hi).1
    have hHb := (hI _ _ hi).2
    have d1 : decide ((l.length : Int) = w.slips.length) = true := by simp only [decide_eq_true_eq]; omega
    refine ACalls.run (fun _ => false) tt_ok (fn := f78) (rs := [.tmp 7]) rfl rfl rfl rfl rfl rfl rfl ?_
    have hYB : ∀ H1 : Heap, H1.length = n → BBs n H1 → BBs (n + 3) (H1 ++ [wrkB w, .cells [.fn f x y], .cells [onW n]]) := fun H1 h1 h2 =>
      BBs_append (BBs_le (by omega) h2) ⟨by simp [BB, VBs, VB, wrkB], by simp only [BB, VBs, Bool.and_true]; exact VB_le (by omega) _ hyv, by simp [BB, VBs, VB, onW], trivial⟩
    have ht : ∀ H1 : Heap, H1.length = n → ∀ a b c d : Blk, (H1 ++ [a, b, c, d]).take (n + 3) = H1 ++ [a, b, c] := fun H1 h1 a b c d => by
      rw [← h1, List.take_append, List.take_of_length_le (by omega)]; simp
    simp only [go_sem, cntD, wrkB, hyl hHl, hy0 hHl, hy1 hHl, hy2 hHl, hy3 hHl, List.append_assoc, List.length_map, d1]
    refine (yield_frame hyv hI hy (r := rest) [wrkB w, .cells [.fn f x y], .cells [onW n], cntB (lF l)] rfl hi).mono ?_
    rintro v H' ⟨H1, rfl, k1, k2, k3⟩
    rcases k3 with ⟨rfl, k3⟩ | ⟨rfl, k3⟩
    · simp only [go_sem, ht H1 k1]
      exact ⟨.inr (hYB H1 k1 k2), H1, rfl, k1, k2, .inl ⟨rfl, k3⟩⟩
    · simp only [go_sem, ht H1 k1]
      exact ⟨.inr (hYB H1 k1 k2), H1, rfl, k1, k2, .inr ⟨rfl, k3⟩⟩
  | succ r ih =>
    intro l rest H hl hi
    have hHl := (hI _ _ hi).1
    have hHb := (hI _ _ hi).2
    have hlt : l.length < w.slips.length := by omega
    have d1 : decide ((l.length : Int) = w.slips.length) = false := by simp only [decide_eq_false_iff_not]; omega
    have hat := Works.at hlt
    have hth := (hok.sl l.length).thick
    refine ACalls.run (fun _ => false) tt_ok (fn := f78) (rs := [.tmp 7]) rfl rfl rfl rfl rfl rfl rfl ?_
    have hYB : ∀ H1 : Heap, H1.length = n → BBs n H1 → BBs (n + 3) (H1 ++ [wrkB w, .cells [.fn f x y], .cells [onW n]]) := fun H1 h1 h2 =>
      BBs_append (BBs_le (by omega) h2) ⟨by simp [BB, VBs, VB, wrkB], by simp only [BB, VBs, Bool.and_true]; exact VB_le (by omega) _ hyv, by simp [BB, VBs, VB, onW], trivial⟩
    have ht : ∀ H1 : Heap, H1.length = n → ∀ a b c d : Blk, (H1 ++ [a, b, c, d]).take (n + 3) = H1 ++ [a, b, c] := fun H1 h1 a b c d => by
      rw [← h1, List.take_append, List.take_of_length_le (by omega)]; simp
    simp only [go_sem, cntD, wrkB, hyl hHl, hy0 hHl, hy1 hHl, hy2 hHl, hy3 hHl, List.append_assoc, List.length_map, d1, hat, Slip.d]
    simp only [trL] at hi
    obtain ⟨lo, hlo⟩ : ∃ lo, lo = (w.sl l.length).thick.lo := ⟨_, rfl⟩
    obtain ⟨hh, hhi⟩ : ∃ hh, hh = (w.sl l.length).thick.hi := ⟨_, rfl⟩
    rw [← hlo, ← hhi] at hth hi
    refine ALoop.by (S := Nat × Heap) (fun s => [(8, .d (.int .i64 (lo + s.1))), (5, .ptr (n + 3) 0), (4, .ptr (n + 2) 0), (3, .ptr (n + 1) 0), (2, .ptr n 0), (1, .d (.int .i64 l.length))])
      (fun s => s.2 ++ [wrkB w, .cells [.fn f x y], .cells [onW n], cntB (lF (if s.1 = 0 then l else l ++ [lo + s.1 - 1]))]) (fun s => (hh - lo + 1).toNat - s.1)
      (fun s => s.1 ≤ (hh - lo + 1).toNat ∧ I ((((List.range (hh - lo + 1).toNat).drop s.1).flatMap fun (k : Nat) => trL w r (l ++ [lo + (k : Int)])).map thrI ++ rest) s.2) (0, H) (by simp [hHl]) (fun _ h => nomatch h) ⟨Nat.zero_le _, hi⟩ ?_ ?_
    · exact ForgetTo.same' (by simp [hHl]) (by simp [EWe, Env.look, hlo]) (by simp [wrkB, cntB])
    rintro ⟨k, Hc⟩ ⟨hk, hI0⟩ hn2
    dsimp only at hk hI0 hn2 ⊢
    have hcl := (hI _ _ hI0).1
    have hcb := (hI _ _ hI0).2
    refine AWP.run (fun _ => false) tt_ok (fun _ h => nomatch h) (by simp [hcl]) rfl ?_
    simp only [go_sem, cntB, wrkB, hyl hcl, hy0 hcl, hy1 hcl, hy2 hcl, hy3 hcl, List.append_assoc, List.length_map, hat, Slip.d]
    rw [← hhi]
    refine Br_split (fun hd => ?_) (fun hd => ?_) <;> simp only [go_sem, hd]
    · have hkl : k < (hh - lo + 1).toNat := by simp only [decide_eq_true_eq] at hd; omega
      have c0 : (0 : Int) ≤ (l.length : Int) := by omega
      have c1 : (l.length : Int) < 4 := by omega
      have hsp := lF_splice l (lo + k - 1) (lo + k) rfl (by omega) (if k = 0 then l else l ++ [lo + (k : Int) - 1]) (by split <;> simp)
      have hq3 : l.length ≤ 3 := by omega
      have w1 : IntKind.i64.wrap ((l.length : Int) + 1) = ((l.length + 1 : Nat) : Int) := by rw [w64 (by omega) (by omega)]; omega
      have w2 : IntKind.i64.wrap (lo + (k : Int) + 1) = lo + ((k + 1 : Nat) : Int) := by rw [w64 (by omega) (by omega)]; omega
      generalize (if k = 0 then l else l ++ [lo + (k : Int) - 1]) = cc at *
      simp only [go_sem, c0, c1, Int.toNat_natCast, Nat.mul_one, Nat.zero_add, hq3, hsp, hyl hcl, hy0 hcl, hy1 hcl, hy2 hcl, hy3 hcl, hs3 hcl, List.append_assoc]
      rw [w1]
      rw [List.drop_eq_getElem_cons (by simpa using hkl), List.flatMap_cons, List.map_append, List.append_assoc, List.getElem_range] at hI0
      generalize hrem : (((List.range (hh - lo + 1).toNat).drop (k + 1)).flatMap fun (k : Nat) => trL w r (l ++ [lo + (k : Int)])).map thrI ++ rest = rem at hI0
      have hc := ih (l ++ [lo + (k : Int)]) rem Hc (by simp; omega) hI0
      have hlen1 : (l ++ [lo + (k : Int)]).length = l.length + 1 := by simp
      rw [hlen1] at hc
      have hBl : (Hc ++ [wrkB w, .cells [.fn f x y], .cells [onW n]]).length = n + 3 := by simp [hcl]
      have hfr := ACallV.frame (X := [cntB (lF (l ++ [lo + (k : Int)]))]) (f := onW n) (vs := [.d (cntD (lF (l ++ [lo + (k : Int)]))), .d (.int .i64 ((l.length + 1 : Nat) : Int))])
        (fun id b hb => by rw [hBl]; exact BBs_get (hYB Hc hcl hcb) id b hb) (by rw [hBl]; simp [VB, VBs, onW]) (by simp [VBs, VB]) (fun v H' ⟨H1, e1, e2, _⟩ => by rw [e1, hBl]; simp [e2]) (ACallV.of (x := []) rfl hc)
      rw [List.append_assoc] at hfr
      refine hfr.mono ?_
      rintro v H' ⟨H1, rfl, H2, rfl, k1, k2, k3⟩
      rcases k3 with ⟨rfl, k3⟩ | ⟨rfl, k3⟩
      · simp only [go_sem]
        refine ⟨(k + 1, H2), ⟨hkl, by dsimp only; rw [hrem]; exact k3⟩, by dsimp only; omega, ?_⟩
        dsimp only
        have hif : (if k + 1 = 0 then l else l ++ [lo + ((k + 1 : Nat) : Int) - 1]) = l ++ [lo + (k : Int)] := by
          rw [if_neg (by omega), show lo + ((k + 1 : Nat) : Int) - 1 = lo + (k : Int) by omega]
        rw [hif]
        exact ForgetTo.same' (by simp [k1]) (by simp [EWe, Env.look, w2]) (by simp [wrkB, cntB])
      · simp only [go_sem, List.append_assoc, List.cons_append, List.nil_append]
        rw [ht H2 k1]
        exact ⟨.inr (hYB H2 k1 k2), H2, rfl, k1, k2, .inr ⟨rfl, k3⟩⟩
    · have hke : k = (hh - lo + 1).toNat := by simp only [decide_eq_false_iff_not] at hd; omega
      subst hke
      rw [List.drop_eq_nil_of_le (by simp)] at hI0
      rw [ht Hc hcl]
      exact ⟨.inr (hYB Hc hcl hcb), Hc, rfl, hcl, hcb, .inl ⟨rfl, hI0⟩⟩
end

theorem c101 {w : Works} (hok : w.Ok) : Iter prog (.fn (.func 56) [.d w.d] []) ((trL w w.slips.length []).map thrI) := by
  intro yv n I Q hf hyv hI hy hend H hH
  have hHl := (hI _ _ hH).1
  have hHb := (hI _ _ hH).2
  have hf' := hf
  obtain ⟨f, x, y, rfl⟩ := hf'
  refine ACallV.of rfl ?_
  refine ACalls.run (fun _ => false) tt_ok (fn := f56) (rs := []) rfl rfl rfl rfl rfl rfl rfl ?_
  simp only [go_sem, Works.d, hyl hHl, hy0 hHl, hy1 hHl, hy2 hHl, hs2 hHl, List.append_assoc]
  rw [hHl]
  have hc := c121 hok hf hyv hI hy w.slips.length [] [] H (by simp) (by rw [List.append_nil]; exact hH)
  refine ACallV.of rfl (ACalls.dz (ACalls.mono hc ?_))
  rintro v H' ⟨H1, rfl, k1, k2, k3⟩
  have hq : Q (.tup []) H1 := by
    rcases k3 with ⟨_, k3⟩ | ⟨_, k3⟩
    · exact hend _ k3
    · exact k3
  simp only [go_sem, htk k1]
  exact ⟨.inr k2, hq⟩
end Go.Aw
end

section
set_option maxRecDepth 100000
namespace Go.Aw
open Go Go.Proofs.Tryz

structure Look where
  coats : List Int
  how : Int
deriving DecidableEq

def Look.d (a : Look) : D := .agg [.sl (a.coats.map (.int .i64)), .int .i64 a.how]

theorem enc_look : Enc 2 (Tt 72) Look.d := fun x => ⟨rfl, rfl⟩

def badLook (w : Works) (a : Look) : Bool := !coatsP w a.coats || decide (a.how < 1) || decide (3 < a.how)

theorem c99 {w : Works} (hw : w.slips.length ≤ 4294967296) {a : Look} (ha : a.coats.length ≤ 4294967296) {i : Nat} {H : Heap} {Q : V → Heap → Prop} (h0 : H[i]? = some (wrkB w)) (hbb : BBs H.length H) (h : Q (.d (.bool (badLook w a))) H) :
    ACalls prog 54 [.d a.d, .ptr i 0] H Q := by
  have hi := lt_of_getElem? h0
  simp only [wrkB] at h0
  have h0' : ∀ Y : Heap, (H ++ Y)[i]? = some (.cells [.d (.sl (w.slips.map Slip.d)), .d (.int .i64 w.hides), .d (.int .i64 w.drops)]) := fun Y => by rw [List.getElem?_append_left hi]; exact h0
  refine ACalls.run (fun _ => false) tt_ok (fn := f54) (rs := [.tmp 3]) rfl rfl rfl rfl rfl rfl rfl ?_
  have ht : ∀ Y : Blk, (H ++ [Y]).take H.length = H := fun Y => by rw [List.take_append_of_le_length (Nat.le_refl _), List.take_length]
  simp only [go_sem, Look.d, ap0, h0']
  refine (c71 w hw a.coats ha).call rfl rfl rfl ?_
  cases h1 : coatsP w a.coats with
  | false =>
    have hb : badLook w a = true := by rw [badLook, h1]; rfl
    simp only [go_sem]
    rw [hb] at h
    rw [ht]
    exact ⟨.inr hbb, h⟩
  | true =>
  have hb : badLook w a = (decide (a.how < 1) || decide (3 < a.how)) := by rw [badLook, h1]; rfl
  rw [hb] at h
  simp only [go_sem, ap0]
  cases h2 : decide (a.how < 1) with
  | true =>
    rw [h2] at h
    simp only [go_sem]
    rw [ht]
    exact ⟨.inr hbb, h⟩
  | false =>
    rw [h2] at h
    simp only [go_sem, ap0]
    rw [ht]
    exact ⟨.inr hbb, by simpa using h⟩

def lookE (w : Works) (l : List Look) : Int := if checkP w = 0 then (if l.length > 6 then 5 else if l.any (badLook w) = true then 2 else 0) else checkP w

theorem lookE_ok {w : Works} {l : List Look} (h : lookE w l = 0) : w.Ok ∧ l.length ≤ 6 ∧ ∀ a ∈ l, coatsP w a.coats = true := by
  unfold lookE at h
  split at h
  · rename_i h1
    split at h
    · omega
    rename_i h2
    split at h
    · omega
    rename_i h3
    refine ⟨checkP_iff.1 h1, by omega, fun a ha => ?_⟩
    have h4 : badLook w a = false := by
      rw [← Bool.not_eq_true]
      exact fun h => h3 (List.any_eq_true.2 ⟨a, ha, h⟩)
    simp only [badLook, Bool.or_eq_false_iff, Bool.not_eq_false'] at h4
    exact h4.1.1
  · omega

/-- How thick coats are in a truth. -/
def dotT (coats t : List Int) (n : Nat) : Int := ((List.range n).map fun s : Nat => cntF coats s * lF t s).sum

def fitsT (w : Works) (l : List Look) (t : List Int) : Bool := l.all fun a => decide (howF w (dotT a.coats t w.slips.length) = a.how)

def baseT (w : Works) (acc : List Sp) (t : List Int) : List Sp := if acc = [] then (List.range w.slips.length).map fun s : Nat => ⟨lF t s, lF t s⟩ else acc

def widT (w : Works) (base : List Sp) (t : List Int) (n : Nat) : List Sp := (List.range w.slips.length).map fun s : Nat => if s < n then ⟨min (base.getD s ⟨0, 0⟩).lo (lF t s), max (base.getD s ⟨0, 0⟩).hi (lF t s)⟩ else base.getD s ⟨0, 0⟩

def lookS (w : Works) (l : List Look) (acc : List Sp) (t : List Int) : List Sp := if fitsT w l t = true then widT w (baseT w acc t) t w.slips.length else acc

def lookL (w : Works) (l : List Look) : List Sp := (trL w w.slips.length []).foldl (lookS w l) []

def lookP (w : Works) (l : List Look) : List Sp × Int := if lookE w l = 0 then (if lookL w l = [] then ([], 9) else (lookL w l, 0)) else ([], lookE w l)

def lookV (w : Works) (l : List Look) : V := if (lookP w l).2 = 0 then .d (.sl ((lookP w l).1.map Sp.d)) else .slx (some true) []

def looksB (l : List Look) : Blk := .cells [.d (.sl (l.map Look.d))]
def coatsD (l : List Look) : List D := l.map fun a => cntD (cntF a.coats)

/-- The heap of Looks. -/
def hL (w : Works) (l : List Look) (acc : List Sp) : Heap := [wrkB w, looksB l, .cells [.ref 6 acc.length 0 acc.length], wrkB w, .cells [.ref 5 l.length 0 l.length], .arr 4 (decide (l.length = 0)) (coatsD l), .arr 2 (decide (acc.length = 0)) (acc.map Sp.d)]

theorem hL_BBs (w : Works) (l : List Look) (acc : List Sp) : BBs 7 (hL w l acc) := by simp [hL, BBs, BB, VBs, VB, wrkB, looksB]

theorem widT_len (w : Works) (base : List Sp) (t : List Int) (n : Nat) : (widT w base t n).length = w.slips.length := by simp [widT]

theorem widT_zero {w : Works} {base : List Sp} (h : base.length = w.slips.length) (t : List Int) : widT w base t 0 = base := by
  refine List.ext_getElem (by simp [widT, h]) fun i h1 h2 => ?_
  simp [widT, List.getD_eq_getElem?_getD, List.getElem?_eq_getElem h2]

theorem widT_succ {w : Works} (base : List Sp) (t : List Int) {s : Nat} (hs : s < w.slips.length) : widT w base t (s + 1) = (widT w base t s).set s ⟨min (base.getD s ⟨0, 0⟩).lo (lF t s), max (base.getD s ⟨0, 0⟩).hi (lF t s)⟩ := by
  refine List.ext_getElem (by simp [widT]) fun i h1 h2 => ?_
  rw [List.getElem_set]
  by_cases h : s = i
  · subst h
    rw [if_pos rfl]
    simp [widT]
  · rw [if_neg h]
    simp only [widT, List.getElem_map, List.getElem_range]
    by_cases h3 : i < s
    · rw [if_pos h3, if_pos (by omega)]
    · rw [if_neg h3, if_neg (by omega)]

theorem dotT_succ (c t : List Int) (n : Nat) : dotT c t (n + 1) = dotT c t n + cntF c n * lF t n := by
  simp [dotT, List.range_succ]

theorem trL_mem {w : Works} : ∀ (r : Nat) (l t : List Int), t ∈ trL w r l → t.length = l.length + r ∧ (∀ k, k < l.length → t[k]? = l[k]?) ∧ ∀ k, l.length ≤ k → k < l.length + r → (w.sl k).thick.lo ≤ lF t k ∧ lF t k ≤ (w.sl k).thick.hi
  | 0, l, t, h => by
    simp only [trL, List.mem_singleton] at h
    subst h
    exact ⟨rfl, fun _ _ => rfl, fun k h1 h2 => by omega⟩
  | r + 1, l, t, h => by
    simp only [trL, List.mem_flatMap, List.mem_range] at h
    obtain ⟨k, hk, ht⟩ := h
    obtain ⟨h1, h2, h3⟩ := trL_mem r _ t ht
    simp only [List.length_append, List.length_cons, List.length_nil] at h1 h2 h3
    refine ⟨by omega, fun j hj => ?_, fun j hj1 hj2 => ?_⟩
    · rw [h2 j (by omega), List.getElem?_append_left hj]
    · by_cases hjl : j = l.length
      · subst hjl
        have := h2 l.length (by omega)
        simp only [List.getElem?_append_right (Nat.le_refl _), Nat.sub_self, List.getElem?_cons_zero] at this
        simp only [lF, Int.toNat_natCast, List.getD_eq_getElem?_getD, this, Option.getD_some]
        omega
      · exact h3 j (by omega) (by omega)

theorem trL_bnd {w : Works} (hok : w.Ok) {t : List Int} (h : t ∈ trL w w.slips.length []) : t.length = w.slips.length ∧ ∀ k : Nat, 0 ≤ lF t k ∧ lF t k ≤ 60 := by
  obtain ⟨h1, _, h3⟩ := trL_mem _ _ _ h
  simp only [List.length_nil, Nat.zero_add] at h1 h3
  refine ⟨h1, fun k => ?_⟩
  rcases Nat.lt_or_ge k w.slips.length with hk | hk
  · have := h3 k (Nat.zero_le _) hk
    have := (hok.sl k).thick
    omega
  · simp only [lF, Int.toNat_natCast, List.getD_eq_getElem?_getD]
    rw [List.getElem?_eq_none (by omega)]
    simp

theorem cnt60 {c t : List Int} (hc : c.length ≤ 8) {n : Nat} (ht : ∀ k : Nat, 0 ≤ lF t k ∧ lF t k ≤ 60) : 0 ≤ cntF c n * lF t n ∧ cntF c n * lF t n ≤ 480 := by
  have h1 := cntF_le c n
  have h2 := ht n
  have h3 := Int.mul_le_mul (show cntF c n ≤ 8 by omega) h2.2 h2.1 (by omega)
  exact ⟨Int.mul_nonneg h1.1 h2.1, by omega⟩

theorem dotT_bnd {c t : List Int} (hc : c.length ≤ 8) (ht : ∀ k : Nat, 0 ≤ lF t k ∧ lF t k ≤ 60) : ∀ n, 0 ≤ dotT c t n ∧ dotT c t n ≤ 480 * n
  | 0 => by simp [dotT]
  | n + 1 => by
    have ih := dotT_bnd hc ht n
    have := cnt60 hc (n := n) ht
    rw [dotT_succ]
    omega

theorem c43 (w : Works) (l : List Look) (hw : w.slips.length ≤ 4294967296) (hl : l.length ≤ 4294967296) (hj : ∀ a ∈ l, a.coats.length ≤ 4294967296) : PC prog 25 [.d w.d, .d (.sl (l.map Look.d))] (.tup [lookV w l, .d (.int .i64 (lookP w l).2)]) := by
  refine PC.run (fun k => false) tt_ok (fn := f25) (rs := [.cell 4 50, .tmp 5]) rfl rfl rfl rfl rfl rfl rfl ?_
  simp only [go_sem, Works.d]
  refine (c70 w hw).call rfl rfl rfl ?_
  simp only [go_sem, Works.d]
  have bad : ∀ e : Int, lookE w l = e → e ≠ 0 → lookV w l = .slx (some true) [] ∧ (lookP w l).2 = e := fun e h h0 => by
    have hP : lookP w l = ([], e) := by rw [lookP, if_neg (by rw [h]; exact h0), h]
    rw [lookV, hP, if_neg h0]
    exact ⟨rfl, rfl⟩
  refine Br_split (fun h1 => ?_) (fun h1 => ?_) <;> simp only [go_sem, h1]
  · have hc : ¬ checkP w = 0 := by simpa using h1
    obtain ⟨b1, b2⟩ := bad (checkP w) (by rw [lookE, if_neg hc]) hc
    rw [b1, b2]
  have hc : checkP w = 0 := by simpa using h1
  have hok := checkP_iff.1 hc
  obtain ⟨l1, l2⟩ := hok.len
  simp only [go_sem, List.length_map]
  refine Br_split (fun h2 => ?_) (fun h2 => ?_) <;> simp only [go_sem, h2]
  · have h2' : l.length > 6 := by simp only [decide_eq_true_eq] at h2; omega
    obtain ⟨b1, b2⟩ := bad 5 (by rw [lookE, if_pos hc, if_pos h2']) (by omega)
    rw [b1, b2]
  have h2' : ¬ l.length > 6 := by simp only [decide_eq_false_iff_not] at h2; omega
  refine ACallV.of rfl (c100 enc_look l (by omega) 54 [] [.ptr 3 0] (badLook w) (fun x hx Q h => ACallV.of rfl (c99 hw (hj x hx) rfl (by simp [BBs, BB, VBs, VB]) h)) ?_)
  simp only [go_sem]
  refine Br_split (fun h3 => ?_) (fun h3 => ?_) <;> simp only [go_sem, h3]
  · obtain ⟨b1, b2⟩ := bad 2 (by rw [lookE, if_pos hc, if_neg h2', if_pos h3]) (by omega)
    rw [b1, b2]
  have hE : lookE w l = 0 := by rw [lookE, if_pos hc, if_neg h2', if_neg (by rw [h3]; simp)]
  obtain ⟨_, hl6, hlo⟩ := lookE_ok hE
  clear bad
  change AWP _ _ _ _ _ _ _ _
  refine AWP.nilrow 4 0 4 rfl rfl (Nat.zero_le _) ?_
  refine ALoop.by (S := Nat) (fun i => [(38, .d (.int .i64 i)), (37, .d (.int .i64 l.length)), (36, .d (.sl (l.map Look.d))), (8, .ptr 4 0), (6, .ptr 3 0), (4, .ptr 2 0), (3, .ptr 1 0)])
    (fun i => [wrkB w, looksB l, .cells [.slx (some true) []], wrkB w, .cells [.ref 5 i 0 i], .arr 4 (decide (i = 0)) (coatsD (l.take i))]) (fun i => l.length - i) (fun i => i ≤ l.length) 0 (Nat.zero_le _) (fun _ h => nomatch h) (Nat.zero_le _) ?_ ?_
  · exact ForgetTo.same' (Nat.zero_le _) (by simp [EWe, Env.look]) (by simp [wrkB, looksB, coatsD])
  rintro i hi hn
  refine AWP.run (fun k => false) tt_ok (fun _ h => nomatch h) (Nat.zero_le _) rfl ?_
  simp only [go_sem, wrkB]
  refine Br_split (fun hd => ?_) (fun hd => ?_) <;> simp only [go_sem, hd]
  · have hlt : i < l.length := by simpa using hd
    have hix : idx? (l.map Look.d) (i : Int) = some (l[i]).d := by simp [idx?, List.getElem?_eq_getElem hlt]
    have hcp := hlo _ (List.getElem_mem hlt)
    obtain ⟨hl8, hlm⟩ := coatsP_iff.1 hcp
    have hst : coatsD (l.take (i + 1)) = coatsD (l.take i) ++ [cntD (cntF l[i].coats)] := by rw [List.take_succ_eq_append_getElem hlt, coatsD, List.map_append]; rfl
    have hnx : IntKind.i64.wrap ((i : Int) + 1) = (i : Int) + 1 := w64 (by omega) (by omega)
    have hi1 : i + 1 ≤ 4294967296 := by omega
    have hlT : (coatsD (l.take i)).length = i := by simp [coatsD]; omega
    generalize coatsD (l.take i) = A at *
    generalize l[i] = a at *
    simp only [go_sem, hix, Look.d]
    refine ADrw.treeG (fun k => false) tt_ok (by kernel_rfl) (fun k => if k = 0 ∨ k = 2 then some .L else if k = 5 ∨ k = 6 then some .W else some .S) (.ones [0, 1, 2, 3, 4, 5, 6] .done) (Nat.zero_le _) (fun _ h => nomatch h) rfl rfl (by kernel_rfl) ?_
    simp only [go_sem]
    refine (c72 a.coats (by omega) (fun n hn => by have := hlm n hn; omega)).callS rfl rfl rfl rfl rfl rfl ?_
    simp only [go_sem, hlT, hi1, cntD]
    refine ⟨i + 1, hlt, by omega, ?_⟩
    refine ForgetTo.drop (H0 := [_, _, _, _, _, _]) (Y := [_]) (Nat.zero_le _) ?_ (by simp [BBs, BB, VBs, VB, wrkB, looksB]) ?_
    · simp [wrkB, hst, cntD]
    · simp [EWp, Env.look, pubV, hnx]
  · have hie : i = l.length := by simp only [decide_eq_false_iff_not] at hd; omega
    subst hie
    simp only [go_sem]
    change AWP _ _ _ _ _ _ _ _
    refine AWP.nilrow 2 0 2 rfl rfl (Nat.zero_le _) ?_
    refine ARng.iterN (items := (trL w w.slips.length []).map thrI) (J := fun rest Hx => ∃ (acc : List Sp) (q : List (List Int)), Hx = hL w l acc ∧ rest = q.map thrI ∧ (∀ t ∈ q, t ∈ trL w w.slips.length []) ∧ (acc.length = 0 ∨ acc.length = w.slips.length) ∧ q.foldl (lookS w l) acc = lookL w l)
      (by simp) (fun _ h => nomatch h) rfl (c101 hok) rfl (by simp [VBs, VB]) ?_ ?_ ?_ ?_ ?_
    · rintro rest Hx ⟨acc, q, rfl, _, _, _, _⟩
      exact ⟨by simp [hL], hL_BBs w l acc⟩
    · exact ⟨[], _, by simp [hL, wrkB, looksB], rfl, fun _ h => h, .inl rfl, rfl⟩
    · rintro Hx ⟨acc, q, rfl, hq, _, hacc, hfo⟩
      obtain rfl : q = [] := by simpa using hq.symm
      simp only [List.foldl_nil] at hfo
      simp only [go_sem, hL, wrkB]
      refine Br_split (fun h4 => ?_) (fun h4 => ?_) <;> simp only [go_sem, h4]
      · have ha : acc = [] := List.length_eq_zero_iff.1 (by simpa using h4)
        have hP : lookP w l = ([], 9) := by rw [lookP, if_pos hE, if_pos (by rw [← hfo]; exact ha)]
        rw [lookV, hP]
        rfl
      · have ha : ¬ acc = [] := fun h => by rw [h] at h4; simp at h4
        have hP : lookP w l = (acc, 0) := by rw [lookP, if_pos hE, if_neg (by rw [← hfo]; exact ha), ← hfo]
        rw [lookV, hP]
        have : (acc.map Sp.d).take acc.length = acc.map Sp.d := List.take_of_length_le (by simp)
        rw [this]
        rfl
    · intro xs hxs
      obtain ⟨p, _, rfl⟩ := List.mem_map.1 hxs
      rfl
    · rintro L L' xs rest Hx hbL hxs ⟨acc, q, rfl, hq, hqm, hacc, hfo⟩
      obtain ⟨t, q', rfl⟩ : ∃ t q', q = t :: q' := by cases q with
        | nil => cases hq
        | cons p r => exact ⟨p, r, rfl⟩
      obtain ⟨rfl, rfl⟩ : xs = thrI t ∧ rest = q'.map thrI := by simpa using hq
      refine AWP.run (fun _ => false) tt_ok (fun _ h => by cases h; simp) (by simp [hL]) rfl ?_
      simp only [go_sem, thrI, cntD, hL, wrkB]
      refine AWP.run (fun _ => false) tt_ok (fun _ h => by cases h; simp) (by simp) rfl ?_
      simp only [go_sem]
      have htm := trL_bnd hok (hqm t List.mem_cons_self)
      obtain ⟨htl, htb⟩ := htm
      have hcdl : (coatsD l).length = l.length := by simp [coatsD]
      have hTB : BBs 9 (hL w l acc ++ [L', cntB (lF t)]) := by
        refine BBs_append (BBs_le (by omega) (hL_BBs w l acc)) ⟨BB_le (by simp [hL]) hbL, by simp [BB, VBs, VB, cntB], trivial⟩
      simp only [List.foldl_cons] at hfo
      have FIN : ∀ acc', lookS w l acc t = acc' → BB 7 L' → (acc'.length = 0 ∨ acc'.length = w.slips.length) → ∃ (acc : List Sp) (q : List (List Int)), hL w l acc' = hL w l acc ∧ q'.map thrI = q.map thrI ∧ (∀ t ∈ q, t ∈ trL w w.slips.length []) ∧ (acc.length = 0 ∨ acc.length = w.slips.length) ∧ q.foldl (lookS w l) acc = lookL w l := fun acc' h _ hl' =>
        ⟨acc', q', rfl, rfl, fun t ht => hqm t (List.mem_cons_of_mem _ ht), hl', by rw [← h]; exact hfo⟩
      simp only [go_sem, hcdl]
      refine ALoop.by (S := Nat) (fun i => [(54, .d (.int .i64 i)), (53, .d (.int .i64 l.length)), (52, .ref 5 l.length 0 l.length), (11, .ptr 8 0), (6, .ptr 3 0), (4, .ptr 2 0), (3, .ptr 1 0)])
        (fun i => hL w l acc ++ [L', cntB (lF t)]) (fun i => l.length - i) (fun i => i ≤ l.length ∧ ∀ a ∈ l.take i, howF w (dotT a.coats t w.slips.length) = a.how) 0 (by simp) (fun _ h => by cases h; simp) ⟨Nat.zero_le _, fun a ha => by simp at ha⟩ ?_ ?_
      · exact ForgetTo.same' (by simp) (by simp [EWe, Env.look]) (by simp [hL, cntB, wrkB])
      rintro i ⟨hi, hfit⟩ hn
      refine AWP.run (fun _ => false) tt_ok (fun _ h => by cases h; simp) (by simp [hL]) rfl ?_
      simp only [go_sem, hL, cntB, wrkB, List.cons_append, List.nil_append]
      refine Br_split (fun hd => ?_) (fun hd => ?_) <;> simp only [go_sem, hd]
      · have hlt : i < l.length := by simpa using hd
        have hcg : (coatsD l)[i]? = some (cntD (cntF l[i].coats)) := by simp [coatsD, List.getElem?_eq_getElem hlt]
        have hq0 : (0 : Int) ≤ (i : Int) := by omega
        have hq1 : (i : Int) < l.length := by omega
        have hix : idx? (l.map Look.d) (i : Int) = some (l[i]).d := by simp [idx?, List.getElem?_eq_getElem hlt]
        have hnx : IntKind.i64.wrap ((i : Int) + 1) = (i : Int) + 1 := w64 (by omega) (by omega)
        have hst : l.take (i + 1) = l.take i ++ [l[i]] := List.take_succ_eq_append_getElem hlt
        have hcp := hlo _ (List.getElem_mem hlt)
        have hmem := List.getElem_mem hlt
        obtain ⟨hl8, hlm⟩ := coatsP_iff.1 hcp
        generalize l[i] = a at *
        have hdb := dotT_bnd hl8 htb
        simp only [cntD] at hcg
        simp only [go_sem, hcdl, hq0, hq1, hcg, Int.toNat_natCast, List.length_map]
        refine ALoop.by (S := Nat) (fun s => [(63, .d (.int .i64 s)), (62, .d (.int .i64 w.slips.length)), (54, .d (.int .i64 i)), (53, .d (.int .i64 l.length)), (52, .ref 5 l.length 0 l.length), (14, .d (.int .i64 (dotT a.coats t s))), (13, .ptr 9 0), (12, .d (.int .i64 i)), (11, .ptr 8 0), (6, .ptr 3 0), (4, .ptr 2 0), (3, .ptr 1 0)])
          (fun s => hL w l acc ++ [L', cntB (lF t), cntB (cntF a.coats)]) (fun s => w.slips.length - s) (fun s => s ≤ w.slips.length) 0 (by simp) (fun _ h => by cases h; simp) (Nat.zero_le _) ?_ ?_
        · exact ForgetTo.same' (by simp) (by simp [EWe, Env.look, dotT]) (by simp [hL, cntB, wrkB])
        rintro s hs hns
        refine AWP.run (fun _ => false) tt_ok (fun _ h => by cases h; simp) (by simp [hL]) rfl ?_
        simp only [go_sem, hL, cntB, wrkB, List.cons_append, List.nil_append]
        refine Br_split (fun he => ?_) (fun he => ?_) <;> simp only [go_sem, he]
        · have hsl : s < w.slips.length := by simpa using he
          have hs0 : (0 : Int) ≤ (s : Int) := by omega
          have hs4 : (s : Int) < 4 := by omega
          have hh1 := cnt_head (cntF a.coats) (i := s) (by omega)
          have hh2 := cnt_head (lF t) (i := s) (by omega)
          have hm := cnt60 (c := a.coats) (n := s) hl8 htb
          have hd1 := hdb s
          have w1 : IntKind.i64.wrap (cntF a.coats s * lF t s) = cntF a.coats s * lF t s := w64 (by omega) (by omega)
          have w2 : IntKind.i64.wrap (dotT a.coats t s + cntF a.coats s * lF t s) = dotT a.coats t (s + 1) := by rw [dotT_succ]; exact w64 (by omega) (by omega)
          have w3 : IntKind.i64.wrap ((s : Int) + 1) = (s : Int) + 1 := w64 (by omega) (by omega)
          refine ADrw.treeG (fun k => false) tt_ok (by kernel_rfl) (fun k => if k = 3 ∨ k = 6 then some .L else some .S) (.ones [0, 1, 2, 3, 4, 5, 6, 7, 8, 9] .done) (by simp) (fun _ h => by cases h; simp) rfl rfl (by kernel_rfl) ?_
          simp only [go_sem, hs0, hs4, Int.toNat_natCast, Nat.mul_one, Nat.zero_add, hh1, hh2, w1, w2]
          exact ⟨s + 1, hsl, by omega, ForgetTo.same' (by simp) (by simp [EWe, Env.look, w3]) (by simp [hL, cntB, wrkB])⟩
        · have hse : s = w.slips.length := by simp only [decide_eq_false_iff_not] at he; omega
          subst hse
          simp only [go_sem]
          refine ADrw.treeG (fun k => false) tt_ok (by kernel_rfl) (fun k => if k = 0 ∨ k = 3 ∨ k = 7 then some .L else some .S) (.ones [0, 1, 2, 3, 4, 5, 6, 7, 8] .done) (by simp) (fun _ h => by cases h; simp) rfl rfl (by kernel_rfl) ?_
          simp only [go_sem]
          refine (c74 w (dotT a.coats t w.slips.length)).callS rfl rfl rfl rfl rfl rfl ?_
          simp only [go_sem, looksB, hix, Look.d]
          refine Br_split (fun hf => ?_) (fun hf => ?_) <;> simp only [go_sem, hf]
          · have hne : ¬ howF w (dotT a.coats t w.slips.length) = a.how := by simpa using hf
            have hF : fitsT w l t = false := by
              rw [fitsT, ← Bool.not_eq_true, List.all_eq_true]
              intro h
              exact hne (by simpa using h a hmem)
            have hS : lookS w l acc t = acc := by rw [lookS, if_neg (by rw [hF]; simp)]
            rw [hS] at hfo
            exact ⟨acc, q', rfl, rfl, fun t ht => hqm t (List.mem_cons_of_mem _ ht), hacc, hfo⟩
          · have heq : howF w (dotT a.coats t w.slips.length) = a.how := by simpa using hf
            refine ⟨i + 1, ⟨hlt, fun b hb => ?_⟩, by omega, ?_⟩
            · rw [hst] at hb
              rcases List.mem_append.1 hb with hb | hb
              · exact hfit b hb
              · simp only [List.mem_singleton] at hb; subst hb; exact heq
            · refine ForgetTo.drop (H0 := [_, _, _, _, _, _, _, _, _]) (Y := [_]) (by simp) ?_ (by simpa [hL, cntB, looksB, wrkB] using hTB) ?_
              · simp [hL, cntB, wrkB, looksB]
              · simp [EWp, Env.look, pubV, hnx]
      · have hie : i = l.length := by simp only [decide_eq_false_iff_not] at hd; omega
        subst hie
        rw [List.take_length] at hfit
        have hF : fitsT w l t = true := by
          rw [fitsT, List.all_eq_true]
          intro a ha
          simpa using hfit a ha
        have hS : lookS w l acc t = widT w (baseT w acc t) t w.slips.length := by rw [lookS, if_pos hF]
        rw [hS] at hfo
        clear FIN hS
        refine Br_split (fun hb => ?_) (fun hb => ?_) <;> simp only [go_sem, hb]
        have hpre : ∀ s, ((List.range s).map fun k : Nat => (⟨lF t k, lF t k⟩ : Sp)).length = s := fun s => by simp
        case' refine_2.refine_2.refine_2.refine_2.refine_2.refine_5.refine_2.refine_2.refine_1 =>
          obtain rfl : acc = [] := List.length_eq_zero_iff.1 (by simpa using hb)
          have hbase : baseT w [] t = (List.range w.slips.length).map fun k : Nat => (⟨lF t k, lF t k⟩ : Sp) := rfl
          simp only [go_sem, List.length_map]
          refine ALoop.by (S := Nat) (fun s => [(92, .d (.int .i64 s)), (91, .d (.int .i64 w.slips.length)), (11, .ptr 8 0), (6, .ptr 3 0), (4, .ptr 2 0)])
            (fun s => hL w l ((List.range s).map fun k : Nat => (⟨lF t k, lF t k⟩ : Sp)) ++ [L', cntB (lF t)]) (fun s => w.slips.length - s) (fun s => s ≤ w.slips.length) 0 (by simp) (fun _ h => by cases h; simp) (Nat.zero_le _) ?_ ?_
          · exact ForgetTo.same' (by simp) (by simp [EWe, Env.look]) (by simp [hL, cntB, wrkB])
          rintro s hs hns
          refine AWP.run (fun k => false) tt_ok (fun _ h => by cases h; simp) (by simp [hL]) rfl ?_
          have hpl := hpre s
          have hpst : (List.range (s + 1)).map (fun k : Nat => (⟨lF t k, lF t k⟩ : Sp)) = (List.range s).map (fun k : Nat => (⟨lF t k, lF t k⟩ : Sp)) ++ [⟨lF t s, lF t s⟩] := by simp [List.range_succ]
          generalize hgp : (List.range s).map (fun k : Nat => (⟨lF t k, lF t k⟩ : Sp)) = P at *
          simp only [go_sem, hL, cntB, wrkB, List.cons_append, List.nil_append, hpl]
          refine Br_split (fun he => ?_) (fun he => ?_) <;> simp only [go_sem, he]
          · have hsl : s < w.slips.length := by simpa using he
            have hs0 : (0 : Int) ≤ (s : Int) := by omega
            have hs4 : (s : Int) < 4 := by omega
            have hh2 := cnt_head (lF t) (i := s) (by omega)
            have w3 : IntKind.i64.wrap ((s : Int) + 1) = (s : Int) + 1 := w64 (by omega) (by omega)
            have hs1 : s + 1 ≤ 4294967296 := by omega
            refine ADrw.treeG (fun k => false) tt_ok (by kernel_rfl) (fun k => if k = 0 ∨ k = 3 ∨ k = 6 then some .L else if k = 9 ∨ k = 10 then some .W else some .S) (.ones [0, 1, 2, 3, 4, 5, 6, 7, 8, 9, 10] .done) (by simp) (fun _ h => by cases h; simp) rfl rfl (by kernel_rfl) ?_
            simp only [go_sem, hs0, hs4, Int.toNat_natCast, Nat.mul_one, Nat.zero_add, hh2, List.length_map, hpl, hs1]
            refine ⟨s + 1, hsl, by omega, ?_⟩
            refine ForgetTo.same' (by simp) (by simp [EWe, Env.look, w3]) ?_
            rw [hpst]
            simp [hL, cntB, wrkB, hpl, Sp.d]
          have hse : s = w.slips.length := by simp only [decide_eq_false_iff_not] at he; omega
          subst hse
          rw [hgp] at hbase
          obtain ⟨base, hB⟩ : ∃ base, base = baseT w [] t := ⟨_, rfl⟩
          rw [← hB] at hbase hfo
          have hbl : base.length = w.slips.length := by rw [hbase]; exact hpl
        case' refine_2.refine_2.refine_2.refine_2.refine_2.refine_5.refine_2.refine_2.refine_2 =>
          have hbase : baseT w acc t = acc := by rw [baseT, if_neg (fun h => by rw [h] at hb; simp at hb)]
          have hpl : acc.length = w.slips.length := by
            rcases hacc with h | h
            · rw [h] at hb; simp at hb
            · exact h
          obtain ⟨base, hB⟩ : ∃ base, base = baseT w acc t := ⟨_, rfl⟩
          rw [← hB] at hbase hfo
          have hbl : base.length = w.slips.length := by rw [hbase]; exact hpl
        all_goals
          have hw0 := widT_zero hbl t
          have hwl := widT_len w base t
          have hsne : w.slips ≠ [] := by intro h; simp [h] at l1
          simp only [go_sem, List.length_map]
          refine ALoop.by (S := Nat) (fun s => [(110, .d (.int .i64 s)), (109, .d (.int .i64 w.slips.length)), (11, .ptr 8 0), (4, .ptr 2 0)])
            (fun s => hL w l (widT w base t s) ++ [L', cntB (lF t)]) (fun s => w.slips.length - s) (fun s => s ≤ w.slips.length) 0 (by simp) (fun _ h => by cases h; simp) (Nat.zero_le _) ?_ ?_
          · exact ForgetTo.same' (by simp) (by simp [EWe, Env.look]) (by rw [hw0]; simp [hL, cntB, wrkB, hbase, hpl, hsne])
          rintro s hs hns
          refine AWP.run (fun k => false) tt_ok (fun _ h => by cases h; simp) (by simp [hL]) rfl ?_
          simp only [go_sem, hL, cntB, wrkB, List.cons_append, List.nil_append, hwl]
          refine Br_split (fun he => ?_) (fun he => ?_) <;> simp only [go_sem, he]
          · have hsl : s < w.slips.length := by simpa using he
            have hs0 : (0 : Int) ≤ (s : Int) := by omega
            have hs4 : (s : Int) < 4 := by omega
            have hsn : (s : Int) < w.slips.length := by omega
            have hh2 := cnt_head (lF t) (i := s) (by omega)
            have w3 : IntKind.i64.wrap ((s : Int) + 1) = (s : Int) + 1 := w64 (by omega) (by omega)
            have hst := widT_succ base t hsl
            have hgt : ((widT w base t s).map Sp.d)[s]? = some (.agg [.int .i64 (base.getD s ⟨0, 0⟩).lo, .int .i64 (base.getD s ⟨0, 0⟩).hi]) := by
              simp [widT, List.getElem?_range hsl, Sp.d]
            refine ADrw.treeG (fun k => false) tt_ok (by kernel_rfl) (fun k => if k = 0 ∨ k = 2 ∨ k = 4 ∨ k = 6 ∨ k = 9 ∨ k = 11 ∨ k = 13 ∨ k = 15 ∨ k = 18 ∨ k = 21 then some .L else if k = 22 then some .W else some .S) (.ones [0, 1, 2, 3, 4, 5, 6, 7, 8, 9, 10, 11, 12, 13, 14, 15, 16, 17, 18, 19, 20, 21, 22] .done) (by simp) (fun _ h => by cases h; simp) rfl rfl (by kernel_rfl) ?_
            simp only [go_sem, hs0, hs4, hsn, Int.toNat_natCast, Nat.mul_one, Nat.zero_add, hh2, List.length_map, hwl, hgt]
            refine ⟨s + 1, hsl, by omega, ?_⟩
            refine ForgetTo.same' (by simp) (by simp [EWe, Env.look, w3]) ?_
            rw [hst]
            simp [hL, cntB, wrkB, Sp.d, hwl]
          · have hse : s = w.slips.length := by simp only [decide_eq_false_iff_not] at he; omega
            subst hse
            refine ⟨by simp [looksB, BB, VBs, VB], widT w base t w.slips.length, q', ?_, rfl, fun t ht => hqm t (List.mem_cons_of_mem _ ht), .inr (hwl _), hfo⟩
            simp only [hwl]
end Go.Aw
end

section
set_option maxRecDepth 100000
namespace Go.Aw
open Go Go.Proofs.Tryz

theorem take_succ_eq {α : Type} {a b : List α} {i : Nat} (ha : i < a.length) (hb : i < b.length) (h : a.take i = b.take i) : a.take (i + 1) = b.take (i + 1) ↔ a[i] = b[i] := by
  rw [List.take_succ_eq_append_getElem ha, h, List.take_succ_eq_append_getElem hb]
  simp only [List.append_cancel_left_eq, List.cons.injEq, and_true]

theorem c20 (a b : List Int) (ha : a.length ≤ 4294967296) (hb : b.length ≤ 4294967296) : PC prog 10 [.d (.sl (a.map (.int .i64))), .d (.sl (b.map (.int .i64)))] (.d (.bool (decide (a = b)))) := by
  refine PC.run (fun _ => false) tt_ok (fn := f10) (rs := [.tmp 4]) rfl rfl rfl rfl rfl rfl rfl ?_
  simp only [go_sem]
  refine Br_split (fun hc => ?_) (fun hc => ?_) <;> simp only [go_sem, hc]
  · have : a ≠ b := fun e => by subst e; simp at hc
    simp [this]
  · have hlen : a.length = b.length := by simp at hc; omega
    refine ALoop.by (S := Nat) (fun i => [(5, .d (.int .i64 i)), (0, .d (.sl (a.map (.int .i64)))), (1, .d (.sl (b.map (.int .i64))))]) (fun i => []) (fun i => a.length - i) (fun i => i ≤ a.length ∧ a.take i = b.take i) 0 (by simp) (fun _ h => nomatch h) ⟨Nat.zero_le _, rfl⟩ ?_ ?_
    · simp [ForgetTo, EW, VW, BBq, BBs, BB, VBs, VB, Env.look, pubV]
    · rintro i ⟨hi, hx⟩ hn
      refine AWP.run (fun _ => false) tt_ok (fun _ h => nomatch h) (by simp) rfl ?_
      simp only [go_sem]
      refine Br_split (fun hd => ?_) (fun hd => ?_) <;> simp only [go_sem, hd]
      · have hlt : i < a.length := by simpa using hd
        have hlt' : i < b.length := by omega
        have hs := take_succ_eq hlt hlt' hx
        have hne : a[i] ≠ b[i] → a ≠ b := fun h e => h (by subst e; rfl)
        refine ADrw.treeG (fun _ => false) tt_ok (by kernel_rfl) (fun k => .some .S) (.ones [0, 1, 2, 3, 4, 5, 6, 7, 8] .done) (by simp) (fun _ h => nomatch h) rfl rfl (by kernel_rfl) ?_
        simp only [go_sem, idx_nat, List.getElem?_map, List.getElem?_eq_getElem hlt, List.getElem?_eq_getElem hlt', Sp.d]
        generalize a[i] = x at hs hne
        generalize b[i] = y at hs hne
        refine Br_split (fun he => ?_) (fun he => ?_) <;> simp only [go_sem, he]
        · have hxy : x ≠ y := fun e => by subst e; simp at he
          simp [hne hxy]
        · have heq : x = y := by first | (simpa using he) | (cases x; cases y; simpa using he)
          refine ⟨i + 1, ⟨hlt, hs.2 heq⟩, by omega, ?_⟩
          simp [ForgetTo, EW, VW, BBq, BBs, BB, VBs, VB, Env.look, pubV, w64 (n := (i : Int) + 1) (by omega) (by omega)]
      · have hlt : ¬ i < a.length := by simpa using hd
        rw [List.take_of_length_le (by omega), List.take_of_length_le (by omega)] at hx
        simp [hx]

theorem c24 (a b : List Int) (ha : a.length ≤ 4294967296) (hb : b.length ≤ 4294967296) : PC prog 26 [.d (.sl (a.map (.int .i64))), .d (.sl (b.map (.int .i64)))] (.d (.bool (decide (a = b)))) := by
  refine PC.run (fun _ => false) tt_ok (fn := f26) (rs := [.tmp 4]) rfl rfl rfl rfl rfl rfl rfl ?_
  simp only [go_sem]
  refine Br_split (fun hc => ?_) (fun hc => ?_) <;> simp only [go_sem, hc]
  · have : a ≠ b := fun e => by subst e; simp at hc
    simp [this]
  · have hlen : a.length = b.length := by simp at hc; omega
    refine ALoop.by (S := Nat) (fun i => [(5, .d (.int .i64 i)), (0, .d (.sl (a.map (.int .i64)))), (1, .d (.sl (b.map (.int .i64))))]) (fun i => []) (fun i => a.length - i) (fun i => i ≤ a.length ∧ a.take i = b.take i) 0 (by simp) (fun _ h => nomatch h) ⟨Nat.zero_le _, rfl⟩ ?_ ?_
    · simp [ForgetTo, EW, VW, BBq, BBs, BB, VBs, VB, Env.look, pubV]
    · rintro i ⟨hi, hx⟩ hn
      refine AWP.run (fun _ => false) tt_ok (fun _ h => nomatch h) (by simp) rfl ?_
      simp only [go_sem]
      refine Br_split (fun hd => ?_) (fun hd => ?_) <;> simp only [go_sem, hd]
      · have hlt : i < a.length := by simpa using hd
        have hlt' : i < b.length := by omega
        have hs := take_succ_eq hlt hlt' hx
        have hne : a[i] ≠ b[i] → a ≠ b := fun h e => h (by subst e; rfl)
        refine ADrw.treeG (fun _ => false) tt_ok (by kernel_rfl) (fun k => .some .S) (.ones [0, 1, 2, 3, 4, 5, 6, 7, 8] .done) (by simp) (fun _ h => nomatch h) rfl rfl (by kernel_rfl) ?_
        simp only [go_sem, idx_nat, List.getElem?_map, List.getElem?_eq_getElem hlt, List.getElem?_eq_getElem hlt', Sp.d]
        generalize a[i] = x at hs hne
        generalize b[i] = y at hs hne
        refine Br_split (fun he => ?_) (fun he => ?_) <;> simp only [go_sem, he]
        · have hxy : x ≠ y := fun e => by subst e; simp at he
          simp [hne hxy]
        · have heq : x = y := by first | (simpa using he) | (cases x; cases y; simpa using he)
          refine ⟨i + 1, ⟨hlt, hs.2 heq⟩, by omega, ?_⟩
          simp [ForgetTo, EW, VW, BBq, BBs, BB, VBs, VB, Env.look, pubV, w64 (n := (i : Int) + 1) (by omega) (by omega)]
      · have hlt : ¬ i < a.length := by simpa using hd
        rw [List.take_of_length_le (by omega), List.take_of_length_le (by omega)] at hx
        simp [hx]

theorem c30 (a b : List Sp) (ha : a.length ≤ 4294967296) (hb : b.length ≤ 4294967296) : PC prog 27 [.d (.sl (a.map Sp.d)), .d (.sl (b.map Sp.d))] (.d (.bool (decide (a = b)))) := by
  refine PC.run (fun _ => false) tt_ok (fn := f27) (rs := [.tmp 4]) rfl rfl rfl rfl rfl rfl rfl ?_
  simp only [go_sem]
  refine Br_split (fun hc => ?_) (fun hc => ?_) <;> simp only [go_sem, hc]
  · have : a ≠ b := fun e => by subst e; simp at hc
    simp [this]
  · have hlen : a.length = b.length := by simp at hc; omega
    refine ALoop.by (S := Nat) (fun i => [(5, .d (.int .i64 i)), (0, .d (.sl (a.map Sp.d))), (1, .d (.sl (b.map Sp.d)))]) (fun i => []) (fun i => a.length - i) (fun i => i ≤ a.length ∧ a.take i = b.take i) 0 (by simp) (fun _ h => nomatch h) ⟨Nat.zero_le _, rfl⟩ ?_ ?_
    · simp [ForgetTo, EW, VW, BBq, BBs, BB, VBs, VB, Env.look, pubV]
    · rintro i ⟨hi, hx⟩ hn
      refine AWP.run (fun _ => false) tt_ok (fun _ h => nomatch h) (by simp) rfl ?_
      simp only [go_sem]
      refine Br_split (fun hd => ?_) (fun hd => ?_) <;> simp only [go_sem, hd]
      · have hlt : i < a.length := by simpa using hd
        have hlt' : i < b.length := by omega
        have hs := take_succ_eq hlt hlt' hx
        have hne : a[i] ≠ b[i] → a ≠ b := fun h e => h (by subst e; rfl)
        refine ADrw.treeG (fun _ => false) tt_ok (by kernel_rfl) (fun k => .some .S) (.ones [0, 1, 2, 3, 4, 5, 6, 7, 8] .done) (by simp) (fun _ h => nomatch h) rfl rfl (by kernel_rfl) ?_
        simp only [go_sem, idx_nat, List.getElem?_map, List.getElem?_eq_getElem hlt, List.getElem?_eq_getElem hlt', Sp.d]
        generalize a[i] = x at hs hne
        generalize b[i] = y at hs hne
        refine Br_split (fun he => ?_) (fun he => ?_) <;> simp only [go_sem, he]
        · have hxy : x ≠ y := fun e => by subst e; simp at he
          simp [hne hxy]
        · have heq : x = y := by first | (simpa using he) | (cases x; cases y; simpa using he)
          refine ⟨i + 1, ⟨hlt, hs.2 heq⟩, by omega, ?_⟩
          simp [ForgetTo, EW, VW, BBq, BBs, BB, VBs, VB, Env.look, pubV, w64 (n := (i : Int) + 1) (by omega) (by omega)]
      · have hlt : ¬ i < a.length := by simpa using hd
        rw [List.take_of_length_le (by omega), List.take_of_length_le (by omega)] at hx
        simp [hx]
theorem c22 (a b : Int) : PC prog 12 [.d (.int .i64 a), .d (.int .i64 b)] (.d (Sp.mk a b).d) := by
  refine PC.run (fun _ => false) tt_ok (fn := f12) (rs := [.cell 4 29]) rfl rfl rfl rfl rfl rfl rfl ?_
  simp only [go_sem, Sp.d]

def exW : Works := ⟨[⟨⟨10, 12⟩, ⟨2, 3⟩, 5⟩, ⟨⟨20, 25⟩, ⟨4, 4⟩, 9⟩, ⟨⟨5, 6⟩, ⟨1, 2⟩, 2⟩], 40, 60⟩
def exJ : List Job := [⟨10, [0, 0, 1]⟩, ⟨5, [2]⟩]

theorem c64 : PC prog 18 [] (.d exW.d) := by
  refine PC.run (fun _ => false) tt_ok (fn := f18) (rs := [.cell 0 24]) rfl rfl rfl rfl rfl rfl rfl ?_
  simp only [go_sem]
  refine (c22 10 12).call rfl rfl rfl ?_
  simp only [go_sem]
  refine (c22 2 3).call rfl rfl rfl ?_
  simp only [go_sem, Sp.d]
  refine (c22 20 25).call rfl rfl rfl ?_
  simp only [go_sem, Sp.d]
  refine (c22 4 4).call rfl rfl rfl ?_
  simp only [go_sem, Sp.d]
  refine (c22 5 6).call rfl rfl rfl ?_
  simp only [go_sem, Sp.d]
  refine (c22 1 2).call rfl rfl rfl ?_
  simp only [go_sem, Sp.d]
  rfl

theorem c65 : PC prog 20 [] (.d (.sl (exJ.map Job.d))) := by
  refine PC.run (fun k => k == 5) tt_ok (fn := f20) (rs := [.tmp 0]) rfl rfl rfl rfl rfl rfl rfl ?_
  simp only [go_sem]
  rfl

theorem ex_thick : thickP exW [1, 1, 0] = (⟨50, 62⟩, [2, 3], 0) := by decide +kernel
theorem ex_coats : coatsM exW [1] 2 = (⟨4, 5⟩, 0) := by decide +kernel
theorem ex_plan : planP exW [1] = ([2, 2, 2, 2], 8, 0) := by decide +kernel
theorem ex_jobs : jobsE exW exJ = 0 := by decide +kernel
theorem ex_uses : usesL exW exJ = [⟨40, 60⟩, ⟨40, 40⟩, ⟨5, 10⟩] := by decide +kernel
theorem ex_done : doneP exW exJ [50, 40, 20] = (0, 2, 0) := by decide +kernel
theorem ex_mix : mixP [⟨80, 5, 6⟩, ⟨0, 60, 1⟩, ⟨0, 0, 0⟩] ⟨10, 40, ⟨5, 10⟩⟩ = ([5, 1, 4], 31, 0) := by decide +kernel
theorem ex_told : toldP exW [⟨0, 20, ⟨45, 65⟩⟩] = ([⟨3, 3⟩, ⟨4, 4⟩, ⟨1, 2⟩], 0) := by decide +kernel
theorem ex_wrong : wrongP exW [⟨1, 10, ⟨50, 60⟩⟩] = ([0], 0) := by decide +kernel
theorem ex_looks : lookP exW [⟨[1, 1, 0], 3⟩] = ([⟨11, 12⟩, ⟨25, 25⟩, ⟨5, 6⟩], 0) := by decide +kernel
end Go.Aw
end

section
set_option maxRecDepth 100000
namespace Go.Aw
open Go Go.Proofs.Tryz

theorem c14 : PC prog 4 [] (.d (.bool true)) := by
  refine PC.run (fun _ => false) tt_ok (fn := f4) (rs := [.tmp 0]) rfl rfl rfl rfl rfl rfl rfl ?_
  simp only [go_sem]
  refine c64.call rfl rfl rfl ?_
  simp only [go_sem]
  refine (c17 exW [1, 1, 0] (by simp [exW]) (by simp)).call rfl rfl rfl ?_
  rw [ex_thick]
  simp only [go_sem, Sp.d]
  refine c64.call rfl rfl rfl ?_
  simp only [go_sem]
  refine (c58 exW [1] 2 (by simp [exW]) (by simp)).call rfl rfl rfl ?_
  rw [ex_coats]
  simp only [go_sem, Sp.d]
  refine c64.call rfl rfl rfl ?_
  simp only [go_sem]
  refine (c55 exW [1] (by simp [exW]) (by simp)).call rfl rfl rfl ?_
  rw [ex_plan]
  simp only [go_sem, lvI]
  refine c64.call rfl rfl rfl ?_
  simp only [go_sem]
  refine c65.call rfl rfl rfl ?_
  simp only [go_sem]
  refine (c26 exW exJ (by simp [exW]) (by simp [exJ]) (by simp [exJ])).call rfl rfl (by rw [usesV, if_pos ex_jobs, ex_uses]; rfl) ?_
  rw [usesV, if_pos ex_jobs, ex_uses, ex_jobs]
  simp only [go_sem]
  refine c64.call rfl rfl rfl ?_
  simp only [go_sem]
  refine c65.call rfl rfl rfl ?_
  simp only [go_sem]
  refine (c27 exW exJ [50, 40, 20] (by simp [exW]) (by simp [exJ]) (by simp [exJ]) (by simp)).call rfl rfl rfl ?_
  rw [ex_done]
  simp only [go_sem]
  refine (c22 5 10).call rfl rfl rfl ?_
  simp only [go_sem, Sp.d]
  refine (c34 [⟨80, 5, 6⟩, ⟨0, 60, 1⟩, ⟨0, 0, 0⟩] ⟨10, 40, ⟨5, 10⟩⟩ (by simp)).call rfl rfl rfl ?_
  rw [ex_mix]
  simp only [go_sem, lvI]
  refine c64.call rfl rfl rfl ?_
  simp only [go_sem]
  refine (c22 45 65).call rfl rfl rfl ?_
  simp only [go_sem, Sp.d]
  refine (c37 exW [⟨0, 20, ⟨45, 65⟩⟩] (by simp [exW]) (by simp)).call rfl rfl (by rw [toldV, ex_told]; rfl) ?_
  rw [toldV, ex_told]
  simp only [go_sem]
  refine c64.call rfl rfl rfl ?_
  simp only [go_sem]
  refine (c22 50 60).call rfl rfl rfl ?_
  simp only [go_sem, Sp.d]
  refine (c38 exW [⟨1, 10, ⟨50, 60⟩⟩] (by simp [exW]) (by simp)).call rfl rfl (by rw [wrongV, ex_wrong]; rfl) ?_
  rw [wrongV, ex_wrong]
  simp only [go_sem]
  refine c64.call rfl rfl rfl ?_
  simp only [go_sem]
  refine (c43 exW [⟨[1, 1, 0], 3⟩] (by simp [exW]) (by simp) (by simp)).call rfl rfl (by rw [lookV, ex_looks]; rfl) ?_
  rw [lookV, ex_looks]
  simp only [go_sem]
  have hd0 : ∀ {α : Type} [DecidableEq α] (l : List α), decide (l = l) = true := fun l => by simp
  refine ADrw.treeG (fun _ => false) tt_ok (by kernel_rfl) (fun k => if k = 0 ∨ k = 10 then some .L else some .S) (.ones [0, 1, 2, 3, 4, 5, 6, 7, 8, 9, 10, 11, 12, 13, 14, 15, 16, 17, 18, 19, 20, 21, 22, 23, 24, 25, 26, 27, 28, 29, 30, 31, 32, 33, 34, 35, 36, 37, 38, 39, 40] .done) (by simp) (fun _ h => nomatch h) rfl rfl (by kernel_rfl) ?_
  simp only [go_sem]
  refine (c22 50 62).callS rfl rfl rfl rfl rfl rfl ?_
  simp only [go_sem, Sp.d, hd0]
  refine (c24 [2, 3] [2, 3] (by simp) (by simp)).callS rfl rfl rfl rfl rfl rfl ?_
  simp only [go_sem, Sp.d, hd0]
  refine (c22 4 5).callS rfl rfl rfl rfl rfl rfl ?_
  simp only [go_sem, Sp.d, hd0]
  refine (c20 [2, 2, 2, 2] [2, 2, 2, 2] (by simp) (by simp)).callS rfl rfl rfl rfl rfl rfl ?_
  simp only [go_sem, Sp.d, hd0]
  refine (c22 40 60).callS rfl rfl rfl rfl rfl rfl ?_
  simp only [go_sem, Sp.d, hd0]
  refine (c22 40 40).callS rfl rfl rfl rfl rfl rfl ?_
  simp only [go_sem, Sp.d, hd0]
  refine (c22 5 10).callS rfl rfl rfl rfl rfl rfl ?_
  simp only [go_sem, Sp.d, hd0]
  refine (c30 [⟨40, 60⟩, ⟨40, 40⟩, ⟨5, 10⟩] [⟨40, 60⟩, ⟨40, 40⟩, ⟨5, 10⟩] (by simp) (by simp)).callS rfl rfl rfl rfl rfl rfl ?_
  simp only [go_sem, Sp.d, hd0]
  refine (c20 [5, 1, 4] [5, 1, 4] (by simp) (by simp)).call rfl rfl rfl ?_
  simp only [go_sem, Sp.d, hd0]
  refine (c22 3 3).call rfl rfl rfl ?_
  simp only [go_sem, Sp.d, hd0]
  refine (c22 4 4).call rfl rfl rfl ?_
  simp only [go_sem, Sp.d, hd0]
  refine (c22 1 2).call rfl rfl rfl ?_
  simp only [go_sem, Sp.d, hd0]
  refine (c30 [⟨3, 3⟩, ⟨4, 4⟩, ⟨1, 2⟩] [⟨3, 3⟩, ⟨4, 4⟩, ⟨1, 2⟩] (by simp) (by simp)).call rfl rfl rfl ?_
  simp only [go_sem, Sp.d, hd0]
  refine (c20 [0] [0] (by simp) (by simp)).call rfl rfl rfl ?_
  simp only [go_sem, Sp.d, hd0]
  refine (c22 11 12).call rfl rfl rfl ?_
  simp only [go_sem, Sp.d, hd0]
  refine (c22 25 25).call rfl rfl rfl ?_
  simp only [go_sem, Sp.d, hd0]
  refine (c22 5 6).call rfl rfl rfl ?_
  simp only [go_sem, Sp.d, hd0]
  refine (c30 [⟨11, 12⟩, ⟨25, 25⟩, ⟨5, 6⟩] [⟨11, 12⟩, ⟨25, 25⟩, ⟨5, 6⟩] (by simp) (by simp)).call rfl rfl rfl ?_
  simp only [go_sem, Sp.d, hd0]
end Go.Aw
end

section
set_option maxRecDepth 100000
namespace Go.Aw
open Go Go.Proofs.Tryz

theorem c15 (w : Works) (hw : w.slips.length ≤ 4294967296) : PC prog 5 [.d w.d] (.d w.d) := by
  refine PC.run (fun _ => false) tt_ok (fn := f5) (rs := [.cell 2 24]) rfl rfl rfl rfl rfl rfl rfl ?_
  have hsz : sized 5 (w.slips.map Slip.d) = true := by simp [sized, Slip.d, dcells]
  have hs0 : sized 5 [] = true := rfl
  simp only [go_sem, Works.d, hsz, hs0, List.length_map, hw]

theorem c78w (n a b : Int) : PC prog 15 [.d (.int .i64 n), .d (.int .i64 a), .d (.int .i64 b)] (.d (.bool (within a b [n]))) := by
  have := c78 n a b
  rwa [show (decide (n ≥ a) && decide (n ≤ b)) = within a b [n] by rw [Bool.eq_iff_iff, Bool.and_eq_true, within_one]; simp] at this

theorem c79w (s : Sp) (a b : Int) : PC prog 34 [.d s.d, .d (.int .i64 a), .d (.int .i64 b)] (.d (.bool (within a b [s.lo, s.hi] && decide (s.lo ≤ s.hi)))) := by
  rw [← valid_iff]; exact c79 s a b

theorem c18 (w : Works) (hw : w.slips.length ≤ 4294967296) : PC prog 8 [.d w.d] (.d (.int .i64 (checkP w))) := by
  refine PC.run (fun _ => false) tt_ok (fn := f8) (rs := [.tmp 2]) rfl rfl rfl rfl rfl rfl rfl ?_
  simp only [go_sem, Works.d, List.length_map]
  have h4 : (!within 1 4 [(w.slips.length : Int)] || !within 1 400 [w.drops] || !within 1 w.drops [w.hides]) = true → checkP w = 4 := fun h => by
    rw [checkP, if_pos ?_]
    simp only [Bool.or_eq_true, Bool.not_eq_true', ← Bool.not_eq_true, within_one, within_two, decide_eq_true_eq] at h ⊢
    omega
  refine (c78w (w.slips.length : Int) 1 4).call rfl rfl rfl ?_
  cases h1 : within 1 4 [(w.slips.length : Int)] with
  | false =>
    rw [h4 (by rw [h1]; rfl)]
    simp only [go_sem]
  | true =>
  simp only [go_sem]
  refine (c78w w.drops 1 400).call rfl rfl rfl ?_
  cases h2 : within 1 400 [w.drops] with
  | false =>
    rw [h4 (by rw [h1, h2]; rfl)]
    simp only [go_sem]
  | true =>
  simp only [go_sem]
  refine (c78w w.hides 1 w.drops).call rfl rfl rfl ?_
  cases h3 : within 1 w.drops [w.hides] with
  | false =>
    rw [h4 (by rw [h1, h2, h3]; rfl)]
    simp only [go_sem]
  | true =>
  have hE : checkP w = if w.slips.any badSlip = true then 2 else 0 := by
    rw [checkP, if_neg ?_]
    simp only [Bool.or_eq_true, Bool.not_eq_true', ← Bool.not_eq_true, within_one, within_two, decide_eq_true_eq] at h1 h2 h3 ⊢
    omega
  simp only [go_sem]
  refine ALoop.by (S := Nat) (fun i => [(3, .d (.int .i64 i)), (1, .ptr 0 0)]) (fun _ => [wrkB w]) (fun i => w.slips.length - i) (fun i => i ≤ w.slips.length ∧ (w.slips.take i).any badSlip = false) 0 (Nat.zero_le _) (fun _ h => nomatch h) ⟨Nat.zero_le _, rfl⟩ ?_ ?_
  · exact ForgetTo.same' (Nat.zero_le _) (by simp [EWe, Env.look]) (by simp [wrkB])
  rintro i ⟨hi, hany⟩ hn
  refine AWP.run (fun _ => false) tt_ok (fun _ h => nomatch h) (Nat.zero_le _) rfl ?_
  simp only [go_sem, wrkB, List.length_map]
  refine Br_split (fun hd => ?_) (fun hd => ?_) <;> simp only [go_sem, hd]
  · have hlt : i < w.slips.length := by simpa using hd
    have hix : idx? (w.slips.map Slip.d) (i : Int) = some (w.slips[i]).d := by simp [idx?, List.getElem?_eq_getElem hlt]
    have hst : (w.slips.take (i + 1)).any badSlip = badSlip w.slips[i] := by rw [List.take_succ_eq_append_getElem hlt, List.any_append, hany]; simp
    have hmem : badSlip w.slips[i] = true → checkP w = 2 := fun h => by rw [hE, if_pos (List.any_eq_true.2 ⟨_, List.getElem_mem hlt, h⟩)]
    have hnx : IntKind.i64.wrap ((i : Int) + 1) = (i : Int) + 1 := w64 (by omega) (by omega)
    generalize w.slips[i] = s at *
    have hbs : badSlip s = (!(within 1 60 [s.thick.lo, s.thick.hi] && decide (s.thick.lo ≤ s.thick.hi)) || decide (9 < IntKind.i64.wrap (s.thick.hi - s.thick.lo)) || !(within 0 20 [s.ounces.lo, s.ounces.hi] && decide (s.ounces.lo ≤ s.ounces.hi)) || !within 0 100 [s.pence]) := by
      rw [badSlip]
      congr 3
    simp only [go_sem, hix, Slip.d]
    refine (c79w s.thick 1 60).call rfl rfl rfl ?_
    cases b1 : (within 1 60 [s.thick.lo, s.thick.hi] && decide (s.thick.lo ≤ s.thick.hi)) with
    | false =>
      rw [hmem (by rw [hbs, b1]; rfl)]
      simp only [go_sem]
    | true =>
    simp only [go_sem]
    cases b2 : decide (9 < IntKind.i64.wrap (s.thick.hi - s.thick.lo)) with
    | true =>
      rw [hmem (by rw [hbs, b1, b2]; rfl)]
      simp only [go_sem, b2]
    | false =>
    simp only [go_sem, b2]
    refine (c79w s.ounces 0 20).call rfl rfl rfl ?_
    cases b3 : (within 0 20 [s.ounces.lo, s.ounces.hi] && decide (s.ounces.lo ≤ s.ounces.hi)) with
    | false =>
      rw [hmem (by rw [hbs, b1, b2, b3]; rfl)]
      simp only [go_sem]
    | true =>
    simp only [go_sem]
    refine (c78w s.pence 0 100).call rfl rfl rfl ?_
    cases b4 : within 0 100 [s.pence] with
    | false =>
      rw [hmem (by rw [hbs, b1, b2, b3, b4]; rfl)]
      simp only [go_sem]
    | true =>
    have hb : badSlip s = false := by rw [hbs, b1, b2, b3, b4]; rfl
    simp only [go_sem]
    refine ⟨i + 1, ⟨hlt, by rw [hst, hb]⟩, by omega, ?_⟩
    refine ForgetTo.drop (H0 := [_]) (Y := [_]) (Nat.zero_le _) ?_ (by simp [BBs, BB, VBs, VB, wrkB]) ?_
    · simp [wrkB]
    · simp [EWp, Env.look, pubV, hnx]
  · have hie : i = w.slips.length := by simp only [decide_eq_false_iff_not] at hd; omega
    subst hie
    rw [List.take_length] at hany
    rw [hE, if_neg (by rw [hany]; simp)]

theorem c21 (w : Works) (l : List Int) (hw : w.slips.length ≤ 4294967296) (hl : l.length ≤ 4294967296) : PC prog 11 [.d w.d, .d (.sl (l.map (.int .i64)))] (.d (.bool (coatsP w l))) := by
  refine PC.run (fun _ => false) tt_ok (fn := f11) (rs := [.tmp 4]) rfl rfl rfl rfl rfl rfl rfl ?_
  simp only [go_sem, Works.d]
  refine ALoop.by (S := Nat) (fun i => [(5, .d (.int .i64 i)), (2, .ptr 0 0), (1, .d (.sl (l.map (.int .i64))))]) (fun _ => [wrkB w]) (fun i => l.length - i) (fun i => i ≤ l.length ∧ within 0 ((w.slips.length : Int) - 1) (l.take i) = true) 0 (Nat.zero_le _) (fun _ h => nomatch h) ⟨Nat.zero_le _, rfl⟩ ?_ ?_
  · exact ForgetTo.same' (Nat.zero_le _) (by simp [EWe, Env.look]) (by simp [wrkB])
  rintro i ⟨hi, hall⟩ hn
  refine AWP.run (fun _ => false) tt_ok (fun _ h => nomatch h) (Nat.zero_le _) rfl ?_
  simp only [go_sem, wrkB, List.length_map]
  refine Br_split (fun hd => ?_) (fun hd => ?_) <;> simp only [go_sem, hd]
  · have hlt : i < l.length := by simpa using hd
    have hix : idx? (l.map (D.int .i64)) (i : Int) = some (.int .i64 l[i]) := by simp [idx?, List.getElem?_eq_getElem hlt]
    have hst : l.take (i + 1) = l.take i ++ [l[i]] := List.take_succ_eq_append_getElem hlt
    have hmem : within 0 ((w.slips.length : Int) - 1) [l[i]] = false → coatsP w l = false := fun h => by
      rw [coatsP, Bool.and_eq_false_iff]
      refine .inr ?_
      rw [← Bool.not_eq_true] at h ⊢
      intro h2
      exact h (within_one.2 (within_all.1 h2 _ (List.getElem_mem hlt)))
    have hnx : IntKind.i64.wrap ((i : Int) + 1) = (i : Int) + 1 := w64 (by omega) (by omega)
    have w1 : IntKind.i64.wrap ((w.slips.length : Int) - 1) = (w.slips.length : Int) - 1 := w64 (by omega) (by omega)
    generalize l[i] = x at *
    refine ADrw.treeG (fun _ => false) tt_ok (by kernel_rfl) (fun k => if k = 5 then some .L else some .S) (.ones [0, 1, 2, 3, 4, 5, 6, 7, 8, 9] .done) (Nat.zero_le _) (fun _ h => nomatch h) rfl rfl (by kernel_rfl) ?_
    simp only [go_sem, hix, List.length_map, w1]
    refine (c78w x 0 ((w.slips.length : Int) - 1)).callS rfl rfl rfl rfl rfl rfl ?_
    cases b1 : within 0 ((w.slips.length : Int) - 1) [x] with
    | false =>
      rw [hmem b1]
      simp only [go_sem]
    | true =>
      simp only [go_sem]
      refine ⟨i + 1, ⟨hlt, ?_⟩, by omega, ?_⟩
      · rw [hst, within_all]
        intro n hn
        rcases List.mem_append.1 hn with hn | hn
        · exact within_all.1 hall n hn
        · simp only [List.mem_singleton] at hn; subst hn; exact within_one.1 b1
      · exact ForgetTo.same' (Nat.zero_le _) (by simp [EWe, Env.look, hnx]) (by simp [wrkB])
  · have hie : i = l.length := by simp only [decide_eq_false_iff_not] at hd; omega
    subst hie
    rw [List.take_length] at hall
    have : coatsP w l = decide ((l.length : Int) ≤ 8) := by
      rw [coatsP, hall, Bool.and_true, Bool.eq_iff_iff, decide_eq_true_eq, decide_eq_true_eq]; omega
    rw [this]

theorem c19 (a b : Works) (ha : a.slips.length ≤ 4294967296) (hb : b.slips.length ≤ 4294967296) : PC prog 9 [.d a.d, .d b.d] (.d (.bool (decide (a = b)))) := by
  refine PC.run (fun _ => false) tt_ok (fn := f9) (rs := [.tmp 4]) rfl rfl rfl rfl rfl rfl rfl ?_
  simp only [go_sem, Works.d, List.length_map]
  have hne : (a.hides ≠ b.hides ∨ a.drops ≠ b.drops ∨ a.slips.length ≠ b.slips.length) → decide (a = b) = false := fun h => by
    rw [decide_eq_false_iff_not]
    rintro rfl
    simp at h
  refine Br_split (fun h1 => ?_) (fun h1 => ?_) <;> simp only [go_sem, h1]
  · rw [hne (.inl (by simpa using h1))]
  refine Br_split (fun h2 => ?_) (fun h2 => ?_) <;> simp only [go_sem, h1, h2]
  · rw [hne (.inr (.inl (by simpa using h2)))]
  refine Br_split (fun h3 => ?_) (fun h3 => ?_) <;> simp only [go_sem, h1, h2, h3]
  · rw [hne (.inr (.inr (by simp only [Bool.not_eq_true', decide_eq_false_iff_not] at h3; omega)))]
  have e1 : a.hides = b.hides := by simpa using h1
  have e2 : a.drops = b.drops := by simpa using h2
  have e3 : a.slips.length = b.slips.length := by simp only [Bool.not_eq_false', decide_eq_true_eq] at h3; omega
  refine ALoop.by (S := Nat) (fun i => [(5, .d (.int .i64 i)), (3, .ptr 1 0), (2, .ptr 0 0)]) (fun _ => [wrkB a, wrkB b]) (fun i => a.slips.length - i) (fun i => i ≤ a.slips.length ∧ a.slips.take i = b.slips.take i) 0 (Nat.zero_le _) (fun _ h => nomatch h) ⟨Nat.zero_le _, rfl⟩ ?_ ?_
  · exact ForgetTo.same' (Nat.zero_le _) (by simp [EWe, Env.look]) (by simp [wrkB])
  rintro i ⟨hi, hx⟩ hn
  refine AWP.run (fun _ => false) tt_ok (fun _ h => nomatch h) (Nat.zero_le _) rfl ?_
  simp only [go_sem, wrkB, List.length_map]
  refine Br_split (fun hd => ?_) (fun hd => ?_) <;> simp only [go_sem, hd]
  · have hlt : i < a.slips.length := by simpa using hd
    have hlt' : i < b.slips.length := by omega
    have hs := take_succ_eq hlt hlt' hx
    have hne2 : a.slips[i] ≠ b.slips[i] → decide (a = b) = false := fun h => by
      rw [decide_eq_false_iff_not]; intro e; subst e; exact h rfl
    have hix : idx? (a.slips.map Slip.d) (i : Int) = some (a.slips[i]).d := by simp [idx?, List.getElem?_eq_getElem hlt]
    have hiy : idx? (b.slips.map Slip.d) (i : Int) = some (b.slips[i]).d := by simp [idx?, List.getElem?_eq_getElem hlt']
    have hnx : IntKind.i64.wrap ((i : Int) + 1) = (i : Int) + 1 := w64 (by omega) (by omega)
    generalize a.slips[i] = x at *
    generalize b.slips[i] = y at *
    refine ADrw.treeG (fun _ => false) tt_ok (by kernel_rfl) (fun k => if k = 1 ∨ k = 6 then some .L else some .S) (.ones [0, 1, 2, 3, 4, 5, 6, 7, 8, 9, 10] .done) (Nat.zero_le _) (fun _ h => nomatch h) rfl rfl (by kernel_rfl) ?_
    simp only [go_sem, hix, hiy, Slip.d]
    refine Br_split (fun he => ?_) (fun he => ?_) <;> simp only [go_sem, he]
    · have hxy : x ≠ y := fun e => by subst e; simp at he
      rw [hne2 hxy]
    · have heq : x = y := by
        obtain ⟨⟨t1, t2⟩, ⟨o1, o2⟩, p⟩ := x
        obtain ⟨⟨t3, t4⟩, ⟨o3, o4⟩, q⟩ := y
        simpa [and_assoc] using he
      refine ⟨i + 1, ⟨hlt, hs.2 heq⟩, by omega, ?_⟩
      exact ForgetTo.same' (Nat.zero_le _) (by simp [EWe, Env.look, hnx]) (by simp [wrkB])
  · have hie : i = a.slips.length := by simp only [decide_eq_false_iff_not] at hd; omega
    subst hie
    rw [List.take_length, List.take_of_length_le (by omega)] at hx
    have : a = b := by cases a; cases b; simp_all
    simp [this]
end Go.Aw
end

section
set_option maxRecDepth 100000
namespace Go.Aw
open Go Go.Proofs.Tryz

def intsD (l : List Int) : D := .sl (l.map (.int .i64))

end Go.Aw
end

section
set_option maxRecDepth 100000
namespace Go.Aw
open Go Go.Proofs.Tryz

/-- How thick coats are, coat by coat. -/
def sumT (coats t : List Int) : Int := (coats.map fun c => lF t c).sum

theorem sumT_dot (t : List Int) (n : Nat) : ∀ coats : List Int, (∀ c ∈ coats, 0 ≤ c ∧ c < n) → sumT coats t = dotT coats t n := by
  intro coats
  have z : dotT [] t n = 0 := by
    have : ∀ m, dotT [] t m = 0 := fun m => by induction m with
      | zero => rfl
      | succ m ih => rw [dotT_succ, ih]; simp [cntF]
    exact this n
  induction coats with
  | nil => intro _; rw [z]; rfl
  | cons c r ih =>
    intro h
    have h1 := ih fun x hx => h x (List.mem_cons_of_mem _ hx)
    have hc := h c List.mem_cons_self
    have h2 : ∀ m : Nat, dotT (c :: r) t m = dotT r t m + if c < m then lF t c else 0 := fun m => by
      induction m with
      | zero => rw [if_neg (by omega)]; simp [dotT]
      | succ m ihm =>
        rw [dotT_succ, dotT_succ, ihm]
        have hcnt : cntF (c :: r) m = cntF r m + if c = (m : Int) then 1 else 0 := by
          unfold cntF
          rw [List.count_cons]
          by_cases e : c = (m : Int)
          · simp [e]
          · simp [e]
        rw [hcnt, Int.add_mul]
        by_cases e : c = (m : Int)
        · rw [if_pos e, if_neg (by omega), if_pos (by omega), e]
          simp
          omega
        · rw [if_neg e]
          by_cases e2 : c < (m : Int)
          · rw [if_pos e2, if_pos (by omega)]; omega
          · rw [if_neg e2, if_neg (by omega)]; omega
    rw [h2 n, if_pos hc.2, ← h1]
    simp only [sumT, List.map_cons, List.sum_cons]
    omega

theorem lF_idx {t : List Int} {c : Int} (h : 0 ≤ c ∧ c < t.length) : idx? (t.map (D.int .i64)) c = some (.int .i64 (lF t c)) := by
  obtain ⟨k, rfl⟩ : ∃ k : Nat, c = k := ⟨c.toNat, by omega⟩
  have hk : k < t.length := by omega
  simp [idx?, lF, List.getElem?_eq_getElem hk, List.getD_eq_getElem?_getD]

theorem c81 (coats t : List Int) (hl : coats.length ≤ 1000) (hc : ∀ c ∈ coats, 0 ≤ c ∧ c < t.length) (ht : ∀ x ∈ t, -100 ≤ x ∧ x ≤ 100) : PC prog 63 [.d (.sl (coats.map (.int .i64))), .d (.sl (t.map (.int .i64)))] (.d (.int .i64 (sumT coats t))) := by
  refine PC.run (fun _ => false) tt_ok (fn := f63) (rs := [.tmp 4]) rfl rfl rfl rfl rfl rfl rfl ?_
  simp only [go_sem]
  refine ALoop.by (S := Nat) (fun i => [(6, .d (.int .i64 i)), (5, .d (.int .i64 (sumT (coats.take i) t))), (1, .d (.sl (t.map (.int .i64)))), (0, .d (.sl (coats.map (.int .i64))))]) (fun _ => []) (fun i => coats.length - i) (fun i => i ≤ coats.length ∧ (-100 * (i : Int) ≤ sumT (coats.take i) t ∧ sumT (coats.take i) t ≤ 100 * i)) 0 (Nat.zero_le _) (fun _ h => nomatch h) ⟨Nat.zero_le _, by simp [sumT]⟩ ?_ ?_
  · exact ForgetTo.same' (Nat.zero_le _) (by simp [EWe, Env.look, sumT]) rfl
  rintro i ⟨hi, hb⟩ hn
  refine AWP.run (fun _ => false) tt_ok (fun _ h => nomatch h) (Nat.zero_le _) rfl ?_
  simp only [go_sem, List.length_map]
  refine Br_split (fun hd => ?_) (fun hd => ?_) <;> simp only [go_sem, hd]
  · have hlt : i < coats.length := by simpa using hd
    have hix : idx? (coats.map (D.int .i64)) (i : Int) = some (.int .i64 coats[i]) := by simp [idx?, List.getElem?_eq_getElem hlt]
    have hst : sumT (coats.take (i + 1)) t = sumT (coats.take i) t + lF t coats[i] := by rw [List.take_succ_eq_append_getElem hlt, sumT, List.map_append, List.sum_append]; simp [sumT]
    have hcr := hc _ (List.getElem_mem hlt)
    have hnx : IntKind.i64.wrap ((i : Int) + 1) = (i : Int) + 1 := w64 (by omega) (by omega)
    generalize coats[i] = c at *
    have hiy := lF_idx hcr
    have hv : -100 ≤ lF t c ∧ lF t c ≤ 100 := by
      obtain ⟨k, rfl⟩ : ∃ k : Nat, c = k := ⟨c.toNat, by omega⟩
      have hk : k < t.length := by omega
      have := ht _ (List.getElem_mem hk)
      simpa [lF, List.getElem?_eq_getElem hk, List.getD_eq_getElem?_getD] using this
    have w1 : IntKind.i64.wrap (sumT (coats.take i) t + lF t c) = sumT (coats.take i) t + lF t c := w64 (by omega) (by omega)
    simp only [go_sem, hix, hiy, w1]
    refine ⟨i + 1, ⟨hlt, by rw [hst]; omega⟩, by omega, ?_⟩
    exact ForgetTo.same' (Nat.zero_le _) (by simp [EWe, Env.look, hnx, hst]) rfl
  · have hie : i = coats.length := by simp only [decide_eq_false_iff_not] at hd; omega
    subst hie
    rw [List.take_length]

theorem c82 (w : Works) (n : Int) : PC prog 62 [.d w.d, .d (.int .i64 n)] (.d (.int .i64 (howF w n))) := by
  refine PC.run (fun _ => false) tt_ok (fn := f62) (rs := [.tmp 4]) rfl rfl rfl rfl rfl rfl rfl ?_
  simp only [go_sem, Works.d]
  refine Br_split (fun h1 => ?_) (fun h1 => ?_) <;> simp only [go_sem, h1]
  · rw [howF, if_pos (by simpa using h1)]
  · refine Br_split (fun h2 => ?_) (fun h2 => ?_) <;> simp only [go_sem, h2]
    · rw [howF, if_neg (by simpa using h1), if_pos (by simpa using h2)]
    · rw [howF, if_neg (by simpa using h1), if_neg (by simpa using h2)]
end Go.Aw
end

section
set_option maxRecDepth 100000
namespace Go.Aw
open Go Go.Proofs.Tryz

/-- Can coats be so thick? -/
def isT (w : Works) (t : List Int) : Prop := ∀ k, k < t.length → (w.sl k).thick.lo ≤ lF t k ∧ lF t k ≤ (w.sl k).thick.hi

/-- The truth in which all coats are thinnest, or thickest. -/
def endT (w : Works) (of : Sp → Int) (i : Nat) : List Int := (List.range i).map fun k => of (w.sl k).thick

theorem endT_lF (w : Works) (of : Sp → Int) {i k : Nat} (h : k < i) : lF (endT w of i) k = of (w.sl k).thick := by
  simp [lF, endT, List.getD_eq_getElem?_getD, List.getElem?_range h]

theorem endT_okLo {w : Works} (hok : w.Ok) (i : Nat) : isT w (endT w Sp.lo i) := fun k hk => by
  have hs := (hok.sl k).thick
  rw [endT_lF w Sp.lo (by simpa [endT] using hk)]; omega

theorem endT_okHi {w : Works} (hok : w.Ok) (i : Nat) : isT w (endT w Sp.hi i) := fun k hk => by
  have hs := (hok.sl k).thick
  rw [endT_lF w Sp.hi (by simpa [endT] using hk)]; omega

theorem endT_dot (w : Works) (c : List Int) (N : Nat) : ∀ i, i ≤ N → i ≤ w.slips.length → dotT c (endT w Sp.lo N) i = (spanF w (cntF c) i).lo ∧ dotT c (endT w Sp.hi N) i = (spanF w (cntF c) i).hi
  | 0, _, _ => by simp [dotT, spanF]
  | i + 1, h, h2 => by
    obtain ⟨k1, k2⟩ := endT_dot w c N i (by omega) (by omega)
    rw [dotT_succ, dotT_succ, k1, k2, endT_lF w _ (by omega), endT_lF w _ (by omega), spanF_succ (by omega)]
    exact ⟨rfl, rfl⟩

end Go.Aw
end

section
set_option maxRecDepth 100000
namespace Go.Aw
open Go Go.Proofs

theorem has_int {f : Nat} {y : D} (h : HasT Tryz.prog (f + 1) 3 y) : ∃ n, y = .int .i64 n ∧ (Lit.int .i64 n).wf = true := by
  unfold HasT at h
  rw [Tryz.underlying3] at h
  exact h

theorem has_list {α : Type} {enc : α → D} {p : D → Prop} (he : ∀ y, p y → ∃ s, y = enc s) : ∀ l : List D, (∀ y ∈ l, p y) → ∃ ss : List α, l = ss.map enc
  | [], _ => ⟨[], rfl⟩
  | y :: r, h => by
    obtain ⟨s, rfl⟩ := he y (h y (by simp))
    obtain ⟨ss, rfl⟩ := has_list he r fun z hz => h z (List.mem_cons_of_mem _ hz)
    exact ⟨s :: ss, rfl⟩

theorem has_ints {f : Nat} {y : D} (h : HasT Tryz.prog (f + 2) 25 y) : ∃ l : List Int, y = .sl (l.map (.int .i64)) := by
  unfold HasT at h
  rw [Tryz.underlying25] at h
  obtain ⟨l, rfl, h1, hl⟩ := h
  obtain ⟨ss, rfl⟩ := has_list (fun y hy => by obtain ⟨n, rfl, hn⟩ := has_int hy; exact ⟨n, rfl⟩) l hl
  exact ⟨ss, rfl⟩

theorem has_sp {f : Nat} {y : D} (h : HasT Tryz.prog (f + 2) 29 y) : ∃ s : Sp, y = s.d := by
  unfold HasT at h
  rw [Tryz.underlying29] at h
  obtain ⟨l, rfl, h⟩ := h
  simp only [HasFs] at h
  obtain ⟨y1, r1, rfl, h1, y2, r2, rfl, h2, rfl⟩ := h
  obtain ⟨n1, rfl, _⟩ := has_int h1
  obtain ⟨n2, rfl, _⟩ := has_int h2
  exact ⟨⟨n1, n2⟩, rfl⟩

theorem has_slip {f : Nat} {y : D} (h : HasT Tryz.prog (f + 3) 91 y) : ∃ s : Slip, y = s.d := by
  unfold HasT at h
  rw [Tryz.underlying91] at h
  obtain ⟨l, rfl, h⟩ := h
  simp only [HasFs] at h
  obtain ⟨y1, r1, rfl, h1, y2, r2, rfl, h2, y3, r3, rfl, h3, rfl⟩ := h
  obtain ⟨n1, rfl⟩ := has_sp h1
  obtain ⟨n2, rfl⟩ := has_sp h2
  obtain ⟨n3, rfl, _⟩ := has_int h3
  exact ⟨⟨n1, n2, n3⟩, rfl⟩

theorem has_slips {f : Nat} {y : D} (h : HasT Tryz.prog (f + 4) 22 y) : ∃ l : List Slip, y = .sl (l.map Slip.d) := by
  unfold HasT at h
  rw [Tryz.underlying22] at h
  obtain ⟨l, rfl, h1, hl⟩ := h
  obtain ⟨ss, rfl⟩ := has_list (fun y hy => has_slip hy) l hl
  exact ⟨ss, rfl⟩

theorem has_works {f : Nat} {y : D} (h : HasT Tryz.prog (f + 5) 24 y) : ∃ s : Works, y = s.d := by
  unfold HasT at h
  rw [Tryz.underlying24] at h
  obtain ⟨l, rfl, h⟩ := h
  simp only [HasFs] at h
  obtain ⟨y1, r1, rfl, h1, y2, r2, rfl, h2, y3, r3, rfl, h3, rfl⟩ := h
  obtain ⟨n1, rfl⟩ := has_slips h1
  obtain ⟨n2, rfl, _⟩ := has_int h2
  obtain ⟨n3, rfl, _⟩ := has_int h3
  exact ⟨⟨n1, n2, n3⟩, rfl⟩

end Go.Aw
end

section
set_option maxRecDepth 100000
namespace Go.Aw
open Go Go.Proofs.Tryz

/-- A mixture. -/
structure Cont where
  f : Int
  c : Int
  p : Int

def bestV (s : PlanS) : V := if s.found = true then .d (.sl (s.best.map (.int .i64))) else .slx (some false) []

theorem pubV_bestV (n : Nat) (H : Heap) (s : PlanS) : pubV n H (bestV s) = some (bestV s) := by unfold bestV; split <;> rfl

end Go.Aw
end

section
set_option maxRecDepth 100000
namespace Go.Aw
open Go Go.Proofs.Tryz

/-- A byte. -/
def Byte (n : Int) : Prop := 0 ≤ n ∧ n < 256

/-- Five bytes. -/
structure B5 where
  a : Int
  b : Int
  c : Int
  e : Int
  f : Int
deriving DecidableEq

def B5.d (s : B5) : D := .agg [.int .u8 s.a, .int .u8 s.b, .int .u8 s.c, .int .u8 s.e, .int .u8 s.f]

structure B5.Ok (s : B5) : Prop where
  a : Byte s.a
  b : Byte s.b
  c : Byte s.c
  e : Byte s.e
  f : Byte s.f

structure Shop where
  slips : List B5
  p : Int
  q : Int

def Shop.d (x : Shop) : D := .agg [.sl (x.slips.map B5.d), .int .u8 x.p, .int .u8 x.q]

structure Shop.Ok (x : Shop) : Prop where
  s : ∀ v ∈ x.slips, v.Ok
  p : Byte x.p
  q : Byte x.q

def v0 : B5 := ⟨20, 3, 40, 18, 4⟩

/-- How many slips there are; the bytes of each. -/
def Shop.n (x : Shop) : Nat := max 1 (min x.slips.length 4)
def Shop.v (x : Shop) (i : Nat) : B5 := x.slips.getD i v0

def slipOf (v : B5) : Slip := ⟨⟨max 1 (1 + v.a % 40 - v.c % 5), 1 + v.a % 40 + v.c / 5 % 5⟩, ⟨max 0 (v.b % 16 - v.e % 4), v.b % 16 + v.e / 4 % 4⟩, v.f % 30⟩

def Shop.hides (x : Shop) : Int := 1 + x.p % 90
def Shop.w (x : Shop) : Works := ⟨(List.range x.n).map fun i => slipOf (x.v i), x.hides, x.hides + x.q % 60⟩
def Shop.thick (x : Shop) : List Int := (List.range x.n).map fun i => 1 + (x.v i).a % 40
end Go.Aw
end

section
set_option maxRecDepth 100000
namespace Go.Aw
open Go Go.Proofs.Tryz

def mostF (most : Bool) : Sp → Int := if most = true then Sp.hi else Sp.lo

end Go.Aw
end

section
set_option maxRecDepth 100000
namespace Go.Aw
open Go Go.Proofs.Tryz

theorem end_sums {w : Works} {coats : List Int} (hc : coatsP w coats = true) : sumT coats (endT w Sp.lo w.slips.length) = (spanP w (cntF coats)).lo ∧ sumT coats (endT w Sp.hi w.slips.length) = (spanP w (cntF coats)).hi := by
  obtain ⟨_, hlm⟩ := coatsP_iff.1 hc
  have e2 := endT_dot w coats w.slips.length w.slips.length (Nat.le_refl _) (Nat.le_refl _)
  rw [sumT_dot _ w.slips.length coats hlm, sumT_dot _ w.slips.length coats hlm, e2.1, e2.2]
  exact ⟨rfl, rfl⟩

theorem endT_len (w : Works) (of : Sp → Int) (i : Nat) : (endT w of i).length = i := by simp [endT]

theorem isT_small {w : Works} (hok : w.Ok) {t : List Int} (h : isT w t) : ∀ x ∈ t, -100 ≤ x ∧ x ≤ 100 := by
  intro x hx
  obtain ⟨k, hk, rfl⟩ := List.getElem_of_mem hx
  have h1 := h k hk
  have h2 := (hok.sl k).thick
  have e : lF t k = t[k] := by simp [lF, List.getD_eq_getElem?_getD, List.getElem?_eq_getElem hk]
  rw [e] at h1
  omega

def shopB (x : Shop) : Blk := .cells [.d (.sl (x.slips.map B5.d)), .d (.int .u8 x.p), .d (.int .u8 x.q)]

def h8 (x : Shop) (all : List Int) : Heap := [shopB x, wrkB x.w, .cells [.d (.int .i64 (spanP x.w (cntF all)).lo), .d (.int .i64 (spanP x.w (cntF all)).hi)]]

end Go.Aw
end

section
set_option maxRecDepth 100000
namespace Go.Aw
open Go Go.Proofs.Tryz

def penceF (w : Works) (l : List Int) : Int := (l.map fun c => (w.sl c.toNat).pence).sum

def listsP (N : Nat) : Nat → List Int → List (List Int)
  | 0, l => [l]
  | n + 1, l => l :: (List.range N).flatMap fun q => if firstP l ≤ (q : Nat) then listsP N n (l ++ [(q : Int)]) else []

def updM (w : Works) (under : List Int) (s : PlanS) (m : List Int) : PlanS := updP w m (cntF (under ++ m)) (penceF w m) s

theorem cntF_add (u l : List Int) (q : Nat) : addC (cntF (u ++ l)) q 1 = cntF (u ++ (l ++ [(q : Int)])) := by
  funext k
  rw [← List.append_assoc, cntF_snoc, addC]
  by_cases h : k = (q : Int)
  · subst h; simp
  · rw [if_neg h, if_neg (fun e => h e.symm), Int.add_zero]

theorem penceF_snoc (w : Works) (l : List Int) (q : Nat) : penceF w (l ++ [(q : Int)]) = penceF w l + (w.sl q).pence := by simp [penceF]

theorem planF_fold (w : Works) (u : List Int) : ∀ (n : Nat) (l : List Int) (s : PlanS), planF w n l (cntF (u ++ l)) (penceF w l) s = (listsP w.slips.length n l).foldl (updM w u) s
  | 0, l, s => rfl
  | n + 1, l, s => by
    rw [listsP, List.foldl_cons, List.foldl_flatMap, planF]
    have key : ∀ (L : List Nat) (s : PlanS), L.foldl (fun s q => if firstP l ≤ (q : Nat) then planF w n (l ++ [(q : Int)]) (addC (cntF (u ++ l)) q 1) (penceF w l + (w.sl q).pence) s else s) s = L.foldl (fun acc x => (if firstP l ≤ (x : Nat) then listsP w.slips.length n (l ++ [(x : Int)]) else []).foldl (updM w u) acc) s := by
      intro L
      induction L with
      | nil => intro s; rfl
      | cons q L ih =>
        intro s
        rw [List.foldl_cons, List.foldl_cons, ih]
        congr 1
        by_cases h : firstP l ≤ (q : Nat)
        · rw [if_pos h, if_pos h, cntF_add, ← penceF_snoc, planF_fold w u n]
        · rw [if_neg h, if_neg h]; rfl
    exact key _ _

theorem planO_fold (w : Works) (u : List Int) : planO w u = (listsP w.slips.length (8 - u.length) []).foldl (updM w u) ⟨[], 0, false⟩ := by
  have := planF_fold w u (8 - u.length) [] ⟨[], 0, false⟩
  rw [List.append_nil] at this
  exact this

theorem listsP_iff (N : Nat) : ∀ (n : Nat) (l m : List Int), m ∈ listsP N n l ↔ ∃ t, m = l ++ t ∧ t.length ≤ n ∧ (∀ x ∈ t, 0 ≤ x ∧ x < (N : Int)) ∧ (firstP l :: t).Pairwise (· ≤ ·)
  | 0, l, m => by
    simp only [listsP, List.mem_singleton]
    constructor
    · rintro rfl
      exact ⟨[], by simp, Nat.le_refl _, by simp, by simp⟩
    · rintro ⟨t, rfl, ht, _⟩
      rw [List.length_eq_zero_iff.1 (Nat.le_zero.1 ht), List.append_nil]
  | n + 1, l, m => by
    simp only [listsP, List.mem_cons, List.mem_flatMap, List.mem_range]
    constructor
    · rintro (rfl | ⟨q, hq, hm⟩)
      · exact ⟨[], by simp, Nat.zero_le _, by simp, by simp⟩
      · by_cases h : firstP l ≤ (q : Nat)
        · rw [if_pos h] at hm
          obtain ⟨t, rfl, h1, h2, h3⟩ := (listsP_iff N n _ m).1 hm
          have hf : firstP (l ++ [(q : Int)]) = q := by simp [firstP]
          rw [hf] at h3
          refine ⟨(q : Int) :: t, by simp, by simp; omega, ?_, ?_⟩
          · intro x hx
            rcases List.mem_cons.1 hx with rfl | hx
            · omega
            · exact h2 x hx
          · rw [List.pairwise_cons]
            refine ⟨fun x hx => ?_, h3⟩
            rcases List.mem_cons.1 hx with rfl | hx
            · exact h
            · exact Int.le_trans h ((List.pairwise_cons.1 h3).1 x hx)
        · rw [if_neg h] at hm; simp at hm
    · rintro ⟨t, rfl, h1, h2, h3⟩
      cases t with
      | nil => left; simp
      | cons x t =>
        right
        have hx := h2 x List.mem_cons_self
        obtain ⟨q, rfl⟩ : ∃ q : Nat, x = q := ⟨x.toNat, by omega⟩
        have h4 := List.pairwise_cons.1 h3
        refine ⟨q, by omega, ?_⟩
        rw [if_pos (h4.1 _ List.mem_cons_self)]
        have hf : firstP (l ++ [(q : Int)]) = q := by simp [firstP]
        exact (listsP_iff N n _ _).2 ⟨t, by simp, by simp at h1; omega, fun y hy => h2 y (List.mem_cons_of_mem _ hy), by rw [hf]; exact h4.2⟩

/-- Ascending lists of so many slips at most. -/
structure Asc (N k : Nat) (m : List Int) : Prop where
  len : m.length ≤ k
  mem : ∀ x ∈ m, 0 ≤ x ∧ x < (N : Int)
  asc : m.Pairwise (· ≤ ·)

theorem lists_asc {N k : Nat} {m : List Int} : m ∈ listsP N k [] ↔ Asc N k m := by
  rw [listsP_iff]
  constructor
  · rintro ⟨t, h0, h1, h2, h3⟩
    rw [List.nil_append] at h0
    subst h0
    exact ⟨h1, h2, (List.pairwise_cons.1 h3).2⟩
  · rintro ⟨h1, h2, h3⟩
    exact ⟨m, rfl, h1, h2, List.pairwise_cons.2 ⟨fun x hx => (h2 x hx).1, h3⟩⟩

def lexI : List Int → List Int → Bool
  | x :: r, y :: s => if x ≠ y then decide (x < y) else lexI r s
  | _, _ => false

theorem lexI_trans : ∀ {a b c : List Int}, lexI a b = true → lexI b c = true → a.length = b.length → b.length = c.length → lexI a c = true
  | [], b, c, h, _, _, _ => by simp [lexI] at h
  | x :: r, [], c, h, _, _, _ => by simp [lexI] at h
  | x :: r, y :: s, [], _, h, _, _ => by simp [lexI] at h
  | x :: r, y :: s, z :: t, h1, h2, h3, h4 => by
    simp only [lexI] at h1 h2 ⊢
    simp only [List.length_cons] at h3 h4
    by_cases e1 : x = y
    · subst e1
      simp only [ne_eq, not_true_eq_false, if_false] at h1
      by_cases e2 : x = z
      · subst e2
        simp only [ne_eq, not_true_eq_false, if_false] at h2 ⊢
        exact lexI_trans h1 h2 (by omega) (by omega)
      · simp only [ne_eq, e2, not_false_eq_true, if_true] at h2 ⊢
        exact h2
    · simp only [ne_eq, e1, not_false_eq_true, if_true, decide_eq_true_eq] at h1
      by_cases e2 : y = z
      · subst e2
        simp only [ne_eq, e1, not_false_eq_true, if_true, decide_eq_true_eq]
        exact h1
      · simp only [ne_eq, e2, not_false_eq_true, if_true, decide_eq_true_eq] at h2
        rw [if_pos (show x ≠ z by omega)]
        exact decide_eq_true (by omega)

theorem lexI_irr : ∀ a : List Int, lexI a a = false
  | [] => rfl
  | x :: r => by simp [lexI, lexI_irr r]

theorem cmp_lex : ∀ (a b : List Int), a.length = b.length → decide (cmpL a b < 0) = lexI a b
  | [], [], _ => rfl
  | [], _ :: _, h => by simp at h
  | _ :: _, [], h => by simp at h
  | x :: a, y :: b, h => by
    have ih := cmp_lex a b (by simpa using h)
    simp only [cmpL, lexI, cmpI]
    by_cases h1 : x < y
    · have hne : x ≠ y := by omega
      simp [h1, hne]
    · by_cases h2 : x = y
      · subst h2; simpa using ih
      · have h3 : y < x := by omega
        simp [h1, h2, h3]

/-- Is a list cheaper, or as cheap and shorter, or as long and smaller? -/
def betterK (w : Works) (a b : List Int) : Bool := decide (penceF w a < penceF w b) || (decide (penceF w a = penceF w b) && (decide (a.length < b.length) || (decide (a.length = b.length) && lexI a b)))

theorem betterK_iff {w : Works} {a b : List Int} : betterK w a b = true ↔ penceF w a < penceF w b ∨ penceF w a = penceF w b ∧ (a.length < b.length ∨ a.length = b.length ∧ lexI a b = true) := by
  simp [betterK]

theorem betterK_irr (w : Works) (a : List Int) : betterK w a a = false := by
  rw [← Bool.not_eq_true, betterK_iff, lexI_irr]
  simp

theorem betterK_trans {w : Works} {a b c : List Int} (h1 : betterK w a b = true) (h2 : betterK w b c = true) : betterK w a c = true := by
  rw [betterK_iff] at *
  rcases h1 with h1 | ⟨h1, h1'⟩
  · left; rcases h2 with h2 | ⟨h2, _⟩ <;> omega
  · rcases h2 with h2 | ⟨h2, h2'⟩
    · left; omega
    · right
      refine ⟨by omega, ?_⟩
      rcases h1' with h1' | ⟨h1', h3⟩
      · left; rcases h2' with h2' | ⟨h2', _⟩ <;> omega
      · rcases h2' with h2' | ⟨h2', h4⟩
        · left; omega
        · right; exact ⟨by omega, lexI_trans h3 h4 h1' h2'⟩

structure PlanInv (w : Works) (u : List Int) (L : List (List Int)) (s : PlanS) : Prop where
  no : s.found = false → s.best = [] ∧ s.pence = 0 ∧ ∀ m ∈ L, goodP w (cntF (u ++ m)) = false
  yes : s.found = true → (s.best ∈ L ∧ goodP w (cntF (u ++ s.best)) = true) ∧ s.pence = penceF w s.best ∧ ∀ m ∈ L, goodP w (cntF (u ++ m)) = true → betterK w m s.best = false

theorem better_K {w : Works} {u m : List Int} {s : PlanS} (hf : s.found = true) (hp : s.pence = penceF w s.best) : betterP w m (cntF (u ++ m)) (penceF w m) s = (goodP w (cntF (u ++ m)) && betterK w m s.best) := by
  rw [betterP, hf, hp, betterK]
  by_cases h : m.length = s.best.length
  · rw [cmp_lex m s.best h]; rfl
  · have : decide (m.length = s.best.length) = false := by simpa using h
    rw [this]; rfl

theorem plan_step {w : Works} {u : List Int} {L : List (List Int)} {s : PlanS} (h : PlanInv w u L s) (m : List Int) : PlanInv w u (L ++ [m]) (updM w u s m) := by
  cases hg : goodP w (cntF (u ++ m)) with
  | false =>
    have hu : updM w u s m = s := by rw [updM, updP, betterP, hg]; rfl
    rw [hu]
    refine ⟨fun hf => ⟨(h.no hf).1, (h.no hf).2.1, fun x hx => ?_⟩, fun hf => ?_⟩
    · rcases List.mem_append.1 hx with hx | hx
      · exact (h.no hf).2.2 x hx
      · rw [List.mem_singleton.1 hx]; exact hg
    · obtain ⟨h1, h2, h3⟩ := h.yes hf
      refine ⟨⟨List.mem_append_left _ h1.1, h1.2⟩, h2, fun x hx hgx => ?_⟩
      rcases List.mem_append.1 hx with hx | hx
      · exact h3 x hx hgx
      · rw [List.mem_singleton.1 hx, hg] at hgx; cases hgx
  | true =>
    cases hf : s.found with
    | false =>
      have hu : updM w u s m = ⟨m, penceF w m, true⟩ := by rw [updM, updP, betterP, hg, hf]; rfl
      rw [hu]
      refine ⟨(fun h => nomatch h), fun _ => ⟨⟨by simp, hg⟩, rfl, fun x hx hgx => ?_⟩⟩
      rcases List.mem_append.1 hx with hx | hx
      · rw [(h.no hf).2.2 x hx] at hgx; cases hgx
      · rw [List.mem_singleton.1 hx]; exact betterK_irr w m
    | true =>
      obtain ⟨h1, h2, h3⟩ := h.yes hf
      have hb := better_K (u := u) (m := m) hf h2
      rw [hg, Bool.true_and] at hb
      cases hk : betterK w m s.best with
      | false =>
        have hu : updM w u s m = s := by rw [updM, updP, hb, hk]; rfl
        rw [hu]
        refine ⟨fun h => (by rw [hf] at h; cases h), fun _ => ⟨⟨List.mem_append_left _ h1.1, h1.2⟩, h2, fun x hx hgx => ?_⟩⟩
        rcases List.mem_append.1 hx with hx | hx
        · exact h3 x hx hgx
        · rw [List.mem_singleton.1 hx]; exact hk
      | true =>
        have hu : updM w u s m = ⟨m, penceF w m, true⟩ := by rw [updM, updP, hb, hk]; rfl
        rw [hu]
        refine ⟨(fun h => nomatch h), fun _ => ⟨⟨by simp, hg⟩, rfl, fun x hx hgx => ?_⟩⟩
        rcases List.mem_append.1 hx with hx | hx
        · cases hxm : betterK w x m with
          | false => rfl
          | true => exact absurd (betterK_trans hxm hk) (by rw [h3 x hx hgx]; simp)
        · rw [List.mem_singleton.1 hx]; exact betterK_irr w m

theorem plan_fold {w : Works} {u : List Int} : ∀ (L L0 : List (List Int)) (s : PlanS), PlanInv w u L0 s → PlanInv w u (L0 ++ L) (L.foldl (updM w u) s)
  | [], L0, s, h => by rw [List.append_nil]; exact h
  | m :: L, L0, s, h => by
    have := plan_fold L (L0 ++ [m]) _ (plan_step h m)
    rw [List.append_assoc] at this
    exact this

theorem plan_inv (w : Works) (u : List Int) : PlanInv w u (listsP w.slips.length (8 - u.length) []) (planO w u) := by
  rw [planO_fold]
  exact plan_fold _ [] _ ⟨fun _ => ⟨rfl, rfl, fun m h => by simp at h⟩, fun h => nomatch h⟩
end Go.Aw
end

section
set_option maxRecDepth 100000
namespace Go.Aw
open Go Go.Proofs.Tryz

theorem manyS_spec {w : Works} {c : Int → Int} {s : Int} : ∀ N, match manyS w c s N with
    | none => ∀ k, k < N → goodP w (addC c s k) = false
    | some (a, b) => (a ≤ b ∧ b < N) ∧ goodP w (addC c s a) = true ∧ goodP w (addC c s b) = true ∧ ∀ k, k < N → goodP w (addC c s k) = true → a ≤ k ∧ k ≤ b
  | 0 => fun k h => absurd h (Nat.not_lt_zero k)
  | N + 1 => by
    have ih := manyS_spec (w := w) (c := c) (s := s) N
    rw [manyS]
    cases hg : goodP w (addC c s N) with
    | false =>
      rw [if_neg (by simp)]
      cases hm : manyS w c s N with
      | none =>
        rw [hm] at ih
        intro k hk
        by_cases e : k = N
        · subst e; exact hg
        · exact ih k (by omega)
      | some p =>
        obtain ⟨a, b⟩ := p
        rw [hm] at ih
        obtain ⟨h1, h2, h3, h4⟩ := ih
        refine ⟨by omega, h2, h3, fun k hk hgk => ?_⟩
        by_cases e : k = N
        · subst e; rw [hg] at hgk; cases hgk
        · exact h4 k (by omega) hgk
    | true =>
      rw [if_pos rfl]
      cases hm : manyS w c s N with
      | none =>
        rw [hm] at ih
        refine ⟨by omega, hg, hg, fun k hk hgk => ?_⟩
        by_cases e : k = N
        · omega
        · rw [ih k (by omega)] at hgk; cases hgk
      | some p =>
        obtain ⟨a, b⟩ := p
        rw [hm] at ih
        obtain ⟨h1, h2, h3, h4⟩ := ih
        refine ⟨by omega, h2, hg, fun k hk hgk => ?_⟩
        by_cases e : k = N
        · omega
        · have := h4 k (by omega) hgk; omega

theorem cntF_rep (u : List Int) (s : Int) (k : Nat) : cntF (u ++ List.replicate k s) = addC (cntF u) s k := by
  funext j
  simp only [cntF, addC, List.count_append, List.count_replicate]
  by_cases h : j = s
  · subst h; simp
  · have : (s == j) = false := by simpa using fun e => h e.symm
    rw [if_neg h, this]; simp
end Go.Aw
end

section
set_option maxRecDepth 100000
namespace Go.Aw
open Go Go.Proofs.Tryz

theorem z64 {w : Works} (hok : w.Ok) (most : Bool) : PC prog 64 [.d w.d, .d (.bool most)] (.d (.sl ((endT w (mostF most) w.slips.length).map (.int .i64)))) := by
  obtain ⟨l1, l2⟩ := hok.len
  refine PC.run (fun k => k == 8) tt_ok (fn := f64) (rs := [.tmp 4]) rfl rfl rfl rfl rfl rfl rfl ?_
  simp only [go_sem, Works.d]
  refine ALoop.by (S := Nat) (fun i => [(6, .d (.int .i64 i)), (5, .ref 1 i 0 i), (2, .ptr 0 0), (1, .d (.bool most))])
    (fun i => [wrkB w, .arr 1 false ((endT w (mostF most) i).map (.int .i64))]) (fun i => w.slips.length - i) (fun i => i ≤ w.slips.length) 0 (Nat.zero_le _) (fun _ h => nomatch h) (Nat.zero_le _) ?_ ?_
  · exact ForgetTo.same' (Nat.zero_le _) (by simp [EWe, Env.look]) (by simp [wrkB, endT])
  rintro i hi hn
  have hln : ((endT w (mostF most) i).map (D.int .i64)).length = i := by simp [endT]
  refine AWP.run (fun k => k == 8) tt_ok (fun _ h => nomatch h) (Nat.zero_le _) rfl ?_
  simp only [go_sem, wrkB, List.length_map]
  refine Br_split (fun hd => ?_) (fun hd => ?_) <;> simp only [go_sem, hd]
  · have hlt : i < w.slips.length := by simpa using hd
    have hat := Works.at hlt
    have hst : endT w (mostF most) (i + 1) = endT w (mostF most) i ++ [mostF most (w.sl i).thick] := by rw [endT, List.range_succ, List.map_append]; rfl
    have hnx : IntKind.i64.wrap ((i : Int) + 1) = (i : Int) + 1 := w64 (by omega) (by omega)
    have hi2 : decide (i ≤ 4294967295) = true := by simp only [decide_eq_true_eq]; omega
    generalize endT w (mostF most) i = M at *
    cases most
    all_goals
      simp only [go_sem, hat, Slip.d, hln, hi2]
      refine ⟨i + 1, hlt, by omega, ?_⟩
      exact ForgetTo.same' (Nat.zero_le _) (by simp [EWe, Env.look, hnx]) (by rw [hst]; simp [wrkB, mostF])
  · have hie : i = w.slips.length := by simp only [decide_eq_false_iff_not] at hd; omega
    subst hie
    have ht : ((endT w (mostF most) w.slips.length).map (D.int .i64)).take w.slips.length = (endT w (mostF most) w.slips.length).map (.int .i64) := List.take_of_length_le (by rw [hln]; exact Nat.le_refl _)
    simp only [List.length_map] at hln
    generalize endT w (mostF most) w.slips.length = M at *
    simp only [go_sem, List.length_map, hln, ht]


theorem z36 {w : Works} (hok : w.Ok) {l : List Int} (hc : coatsP w l = true) : PC prog 36 [.d w.d, .d (.sl (l.map (.int .i64)))] (.d (.bool (goodP w (cntF l)))) := by
  obtain ⟨l1, l2⟩ := hok.len
  obtain ⟨hl8, hlm⟩ := coatsP_iff.1 hc
  refine PC.run (fun _ => false) tt_ok (fn := f36) (rs := [.tmp 4]) rfl rfl rfl rfl rfl rfl rfl ?_
  have hE := end_sums hc
  have hlo := z64 hok false
  have hhi := z64 hok true
  have elo := endT_len w Sp.lo w.slips.length
  have ehi := endT_len w Sp.hi w.slips.length
  have slo := isT_small hok (endT_okLo hok w.slips.length)
  have shi := isT_small hok (endT_okHi hok w.slips.length)
  simp only [mostF, if_true, if_false, Bool.false_eq_true] at hlo hhi
  have ca := c81 l (endT w Sp.lo w.slips.length) (by omega) (fun c h => by rw [elo]; exact hlm c h) slo
  have cb := c81 l (endT w Sp.hi w.slips.length) (by omega) (fun c h => by rw [ehi]; exact hlm c h) shi
  rw [hE.1] at ca
  rw [hE.2] at cb
  have hg : goodP w (cntF l) = (decide (howF w (spanP w (cntF l)).lo = 2) && decide (howF w (spanP w (cntF l)).hi = 2)) := rfl
  rw [hg]
  generalize spanP w (cntF l) = S at *
  have c1 := c82 w S.lo
  have c2 := c82 w S.hi
  simp only [go_sem, Works.d]
  refine ADrw.treeG (fun _ => false) tt_ok (by kernel_rfl) (fun k => if k = 0 ∨ k = 2 ∨ k = 8 ∨ k = 10 then some .L else some .S) (.ones [0, 1, 2, 3, 4, 5, 6, 7, 8, 9, 10, 11, 12, 13, 14, 15, 16] .done) (Nat.zero_le _) (fun _ h => nomatch h) rfl rfl (by kernel_rfl) ?_
  simp only [go_sem]
  refine hlo.callS rfl rfl rfl rfl rfl rfl ?_
  simp only [go_sem]
  refine ca.callS rfl rfl rfl rfl rfl rfl ?_
  simp only [go_sem]
  refine c1.callS rfl rfl rfl rfl rfl rfl ?_
  cases h1 : decide (howF w S.lo = 2) with
  | false => simp only [go_sem, h1]
  | true =>
    simp only [go_sem, h1]
    refine hhi.callS rfl rfl rfl rfl rfl rfl ?_
    simp only [go_sem]
    refine cb.callS rfl rfl rfl rfl rfl rfl ?_
    simp only [go_sem]
    refine c2.callS rfl rfl rfl rfl rfl rfl ?_
    simp only [go_sem, h1]

def lessI (a b : List Int) : Bool := if a.length ≠ b.length then decide (a.length < b.length) else lexI a b

theorem z37 (a b : List Int) (ha : a.length ≤ 1000) (hb : b.length ≤ 1000) : PC prog 37 [.d (.sl (a.map (.int .i64))), .d (.sl (b.map (.int .i64)))] (.d (.bool (lessI a b))) := by
  refine PC.run (fun _ => false) tt_ok (fn := f37) (rs := [.tmp 4]) rfl rfl rfl rfl rfl rfl rfl ?_
  simp only [go_sem, List.length_map]
  refine Br_split (fun h1 => ?_) (fun h1 => ?_) <;> simp only [go_sem, h1, List.length_map]
  · have h1' : a.length ≠ b.length := by simp at h1; omega
    simp [lessI, h1']
  have h1' : a.length = b.length := by simp at h1; omega
  have hl0 : lessI a b = lexI a b := by rw [lessI, if_neg (by simpa using h1')]
  rw [hl0]
  refine ALoop.by (S := Nat) (fun i => [(5, .d (.int .i64 i)), (1, .d (.sl (b.map (.int .i64)))), (0, .d (.sl (a.map (.int .i64))))]) (fun _ => []) (fun i => a.length - i) (fun i => i ≤ a.length ∧ lexI (a.drop i) (b.drop i) = lexI a b) 0 (by simp) (fun _ h => nomatch h) ⟨Nat.zero_le _, rfl⟩ ?_ ?_
  · exact ForgetTo.same' (by simp) (by simp [EWe, Env.look]) rfl
  rintro i ⟨hi, he⟩ hn
  refine AWP.run (fun _ => false) tt_ok (fun _ h => nomatch h) (by simp) rfl ?_
  simp only [go_sem, List.length_map]
  refine Br_split (fun hd => ?_) (fun hd => ?_) <;> simp only [go_sem, hd]
  · have hlt : i < a.length := by simpa using hd
    have hix : idx? (a.map (D.int .i64)) (i : Int) = some (.int .i64 a[i]) := by simp [idx?, List.getElem?_eq_getElem hlt]
    have hiy : idx? (b.map (D.int .i64)) (i : Int) = some (.int .i64 b[i]) := by simp [idx?, List.getElem?_eq_getElem (show i < b.length by omega)]
    rw [List.drop_eq_getElem_cons hlt, List.drop_eq_getElem_cons (show i < b.length by omega), lexI] at he
    generalize a[i] = x at hix he
    generalize b[i] = y at hiy he
    refine ADrw.treeG (fun _ => false) tt_ok (by kernel_rfl) (fun k => some .S) (.ones [0, 1, 2, 3, 4, 5, 6, 7, 8] .done) (Nat.zero_le _) (fun _ h => nomatch h) rfl rfl (by kernel_rfl) ?_
    simp only [go_sem, hix, hiy]
    refine Br_split (fun h2 => ?_) (fun h2 => ?_) <;> simp only [go_sem, h2]
    · have h2' : x ≠ y := by simp at h2; omega
      rw [if_pos h2'] at he
      refine ADrw.treeG (fun _ => false) tt_ok (by kernel_rfl) (fun k => some .S) (.ones [0, 1, 2, 3, 4, 5, 6, 7, 8, 9] .done) (Nat.zero_le _) (fun _ h => nomatch h) rfl rfl (by kernel_rfl) ?_
      simp only [go_sem, hix, hiy]
      rw [← he]
    · have h2' : x = y := by simp at h2; omega
      rw [if_neg (by simpa using h2')] at he
      refine ⟨i + 1, ⟨hlt, he⟩, by omega, ?_⟩
      exact ForgetTo.same' (by simp) (by simp [EWe, Env.look, w64 (n := (i : Int) + 1) (by omega) (by omega)]) rfl
  · have hie : i = a.length := by simp at hd; omega
    subst hie
    rw [List.drop_eq_nil_of_le (Nat.le_refl _)] at he
    simp [← he, lexI]


theorem pence_bnd {w : Works} (hok : w.Ok) (l : List Int) : 0 ≤ penceF w l ∧ penceF w l ≤ 100 * l.length := by
  induction l with
  | nil => simp [penceF]
  | cons c r ih =>
    have h := (hok.sl c.toNat).pence
    have e : penceF w (c :: r) = (w.sl c.toNat).pence + penceF w r := by simp [penceF]
    rw [e, List.length_cons]
    omega

theorem z14 {w : Works} (hok : w.Ok) {l : List Int} (hl : l.length ≤ 1000) (hm : ∀ c ∈ l, 0 ≤ c ∧ c < w.slips.length) : PC prog 14 [.d w.d, .d (.sl (l.map (.int .i64)))] (.d (.int .i64 (penceF w l))) := by
  refine PC.run (fun _ => false) tt_ok (fn := f14) (rs := [.tmp 4]) rfl rfl rfl rfl rfl rfl rfl ?_
  simp only [go_sem, Works.d]
  refine ALoop.by (S := Nat) (fun i => [(6, .d (.int .i64 i)), (5, .d (.int .i64 (penceF w (l.take i)))), (2, .ptr 0 0), (1, .d (.sl (l.map (.int .i64))))]) (fun _ => [wrkB w]) (fun i => l.length - i) (fun i => i ≤ l.length) 0 (Nat.zero_le _) (fun _ h => nomatch h) (Nat.zero_le _) ?_ ?_
  · exact ForgetTo.same' (Nat.zero_le _) (by simp [EWe, Env.look, penceF]) (by simp [wrkB])
  rintro i hi hn
  refine AWP.run (fun _ => false) tt_ok (fun _ h => nomatch h) (Nat.zero_le _) rfl ?_
  simp only [go_sem, wrkB, List.length_map]
  refine Br_split (fun hd => ?_) (fun hd => ?_) <;> simp only [go_sem, hd]
  · have hlt : i < l.length := by simpa using hd
    have hmi := hm _ (List.getElem_mem hlt)
    obtain ⟨c, hc⟩ : ∃ c : Nat, l[i] = (c : Int) := ⟨(l[i]).toNat, by omega⟩
    have hix : idx? (l.map (D.int .i64)) (i : Int) = some (.int .i64 (c : Int)) := by rw [← hc]; simp [idx?, List.getElem?_eq_getElem hlt]
    have hst : penceF w (l.take (i + 1)) = penceF w (l.take i) + (w.sl c).pence := by
      rw [List.take_succ_eq_append_getElem hlt, hc, penceF_snoc]
    rw [hc] at hmi
    have hat := Works.at (w := w) (i := c) (by omega)
    have hbd := pence_bnd hok (l.take i)
    have htl : (l.take i).length = i := by simp; omega
    rw [htl] at hbd
    have hpc := (hok.sl c).pence
    have hnx : IntKind.i64.wrap ((i : Int) + 1) = (i : Int) + 1 := w64 (by omega) (by omega)
    generalize penceF w (l.take i) = S at *
    have wS : IntKind.i64.wrap (S + (w.sl c).pence) = S + (w.sl c).pence := w64 (by omega) (by omega)
    refine ADrw.treeG (fun _ => false) tt_ok (by kernel_rfl) (fun k => if k = 2 then some .L else some .S) (.ones [0, 1, 2, 3, 4, 5, 6, 7, 8, 9, 10, 11] .done) (Nat.zero_le _) (fun _ h => nomatch h) rfl rfl (by kernel_rfl) ?_
    simp only [go_sem, hix, hat, Slip.d, wS]
    refine ⟨i + 1, hlt, by omega, ?_⟩
    exact ForgetTo.same' (Nat.zero_le _) (by simp [EWe, Env.look, hnx, hst]) (by simp [wrkB])
  · have hie : i = l.length := by simp only [decide_eq_false_iff_not] at hd; omega
    subst hie
    rw [List.take_length]
end Go.Aw
end

section
set_option maxRecDepth 100000
namespace Go.Aw
open Go Go.Proofs.Tryz

theorem listsP_len (N : Nat) (hN : N ≤ 4) : ∀ (n : Nat) (l : List Int), (listsP N n l).length ≤ 5 ^ n
  | 0, _ => by simp [listsP]
  | n + 1, l => by
    have key : ∀ k : Nat, (((List.range k).flatMap fun q => if firstP l ≤ (q : Nat) then listsP N n (l ++ [(q : Int)]) else [])).length ≤ k * 5 ^ n := fun k => by
      induction k with
      | zero => simp
      | succ k ih =>
        rw [List.range_succ, List.flatMap_append, List.length_append, Nat.succ_mul]
        have : ([k].flatMap fun q => if firstP l ≤ (q : Nat) then listsP N n (l ++ [(q : Int)]) else []).length ≤ 5 ^ n := by
          simp only [List.flatMap_cons, List.flatMap_nil, List.append_nil]
          split
          · exact listsP_len N hN n _
          · simp
        omega
    have h1 := key N
    have h2 : N * 5 ^ n ≤ 4 * 5 ^ n := Nat.mul_le_mul_right _ hN
    have h3 : 0 < 5 ^ n := Nat.pow_pos (by omega)
    rw [listsP, List.length_cons, Nat.pow_succ]
    omega

/-- The lists that come of the first slips. -/
def outL (N n : Nat) (l : List Int) (k : Nat) : List (List Int) := l :: (List.range k).flatMap fun q => if firstP l ≤ (q : Nat) then listsP N n (l ++ [(q : Int)]) else []

theorem outL_first (N n : Nat) (l : List Int) : ∀ k : Nat, (k : Int) ≤ firstP l → outL N n l k = [l]
  | 0, _ => rfl
  | k + 1, h => by
    have := outL_first N n l k (by omega)
    simp only [outL, List.cons.injEq, true_and] at this ⊢
    rw [List.range_succ, List.flatMap_append, this]
    simp only [List.flatMap_cons, List.flatMap_nil, List.append_nil, List.nil_append]
    rw [if_neg (by omega)]

theorem outL_step {N n : Nat} {l : List Int} {k : Nat} (h : firstP l ≤ (k : Int)) : outL N n l (k + 1) = outL N n l k ++ listsP N n (l ++ [(k : Int)]) := by
  simp only [outL]
  rw [List.range_succ, List.flatMap_append]
  simp only [List.flatMap_cons, List.flatMap_nil, List.append_nil, List.cons_append]
  rw [if_pos h]

def outN (N n : Nat) (l : List Int) (k : Nat) : List (List Int) := match n with
  | 0 => [l]
  | m + 1 => outL N m l k

theorem outN_len {N n : Nat} (hN : N ≤ 4) (l : List Int) {k : Nat} (hk : k ≤ N) (hn : n ≤ 8) : (outN N n l k).length ≤ 5 ^ 8 := by
  cases n with
  | zero => simp [outN]
  | succ m =>
    have h1 := listsP_len N hN (m + 1) l
    have h2 : listsP N (m + 1) l = outN N (m + 1) l k ++ ((List.range N).drop k).flatMap fun q => if firstP l ≤ (q : Nat) then listsP N m (l ++ [(q : Int)]) else [] := by
      have h3 : List.range k = (List.range N).take k := by rw [List.take_range, Nat.min_eq_left hk]
      simp only [outN, outL]
      rw [h3, List.cons_append, ← List.flatMap_append, List.take_append_drop]; rfl
    rw [h2, List.length_append] at h1
    have h3 : 5 ^ (m + 1) ≤ 5 ^ 8 := Nat.pow_le_pow_right (by omega) hn
    omega

theorem z35_step {N : Nat} (hN : 1 ≤ N ∧ N ≤ 4) (n : Nat) (ih : ∀ m, n = m + 1 → ∀ l : List Int, l.length + m ≤ 8 → (∀ x ∈ l, 0 ≤ x ∧ x < (N : Int)) → PC prog 35 [.d (.int .i64 N), .d (.int .i64 ((l.length + m : Nat) : Int)), .d (.sl (l.map (.int .i64)))] (.d (.sl ((listsP N m l).map intsD))))
    (l : List Int) (h8 : l.length + n ≤ 8) (hm : ∀ x ∈ l, 0 ≤ x ∧ x < (N : Int)) : PC prog 35 [.d (.int .i64 N), .d (.int .i64 ((l.length + n : Nat) : Int)), .d (.sl (l.map (.int .i64)))] (.d (.sl ((listsP N n l).map intsD))) := by
  refine PC.run (fun k => k == 11 || k == 38) tt_ok (fn := f35) (rs := [.tmp 6]) rfl rfl rfl rfl rfl rfl rfl ?_
  have hf0 : 0 ≤ firstP l ∧ firstP l < (N : Int) ∨ l = [] := by
    rcases List.eq_nil_or_concat l with h | ⟨r, x, h⟩
    · exact .inr h
    · left
      have e : firstP l = x := by rw [h]; simp [firstP]
      rw [e]; exact hm x (by rw [h]; simp)
  have hfr : 0 ≤ firstP l ∧ firstP l < (N : Int) := by
    rcases hf0 with h | h
    · exact h
    · rw [h]; simp only [firstP, List.getLastD_nil]; omega
  have hlast : 0 < l.length → idx? (l.map (D.int .i64)) ((l.length : Int) - 1) = some (.int .i64 (firstP l)) := fun h => by
    rcases List.eq_nil_or_concat l with h1 | ⟨r, x, h1⟩
    · rw [h1] at h; simp at h
    · rw [h1]; simp [idx?, firstP]
  obtain ⟨f, hf⟩ : ∃ f : Nat, firstP l = f := ⟨(firstP l).toNat, by omega⟩
  have w1 : IntKind.i64.wrap ((l.length : Int) - 1) = (l.length : Int) - 1 := w64 (by omega) (by omega)
  have hz : outN N n l f = [l] := by
    cases n with
    | zero => rfl
    | succ m => exact outL_first N m l f (by omega)
  have hend : listsP N n l = outN N n l N := by cases n <;> rfl
  have h0end : n = 0 → ∀ k, outN N n l k = listsP N n l := fun h k => by subst h; rfl
  have hone : IntKind.i64.wrap (0 : Int) = 0 := by decide
  have t1 := sized_ints l
  have t2 : l.length ≤ 4294967296 := by omega
  have t3 : decide (l.length ≤ 4294967295) = true := by simp only [decide_eq_true_eq]; omega
  have sz : ∀ l : List (List Int), sized 1 (l.map intsD) = true := fun l => by simp [sized, intsD, dcells]
  have key : ∀ first : Int, first = (f : Int) → True := fun _ _ => trivial
  simp only [go_sem, List.length_map, Bool.or_true, Bool.true_or, Bool.or_false, Bool.false_or]
  by_cases hl0 : 0 < l.length
  case' pos =>
    have d0 : decide ((0 : Int) < l.length) = true := by simp only [decide_eq_true_eq]; omega
    have hla := hlast hl0
    rw [hf] at hla
    simp only [go_sem, List.length_map, d0, w1, hla, Bool.or_true, Bool.true_or, Bool.or_false, Bool.false_or]
  case' neg =>
    have d0 : decide ((0 : Int) < l.length) = false := by simp only [decide_eq_false_iff_not]; omega
    have hln : l = [] := List.length_eq_zero_iff.1 (by omega)
    have hf00 : f = 0 := by rw [hln] at hf; simp only [firstP, List.getLastD_nil] at hf; omega
    simp only [go_sem, List.length_map, d0, Bool.or_true, Bool.true_or, Bool.or_false, Bool.false_or]
  all_goals
    refine ALoop.by (S := Nat) (fun k => [(9, .d (.int .i64 k)), (7, .ref 0 (outN N n l k).length 0 (outN N n l k).length), (2, .d (.sl (l.map (.int .i64)))), (1, .d (.int .i64 ((l.length + n : Nat) : Int))), (0, .d (.int .i64 N))])
      (fun k => [.arr 1 false ((outN N n l k).map intsD)]) (fun k => N - k) (fun k => firstP l ≤ (k : Int) ∧ k ≤ N) f (Nat.zero_le _) (fun _ h => nomatch h) ⟨by omega, by omega⟩ ?_ ?_
    · rw [hz]
      exact ForgetTo.same' (Nat.zero_le _) (by simp [EWe, Env.look]; try omega) (by simp [intsD])
    rintro k ⟨hfk, hk⟩ hn
    have hln : ((outN N n l k).map intsD).length = (outN N n l k).length := by simp
    have htk : ((outN N n l k).map intsD).take (outN N n l k).length = (outN N n l k).map intsD := List.take_of_length_le (by omega)
    have hbig := outN_len hN.2 l hk (show n ≤ 8 by omega)
    refine AWP.run (fun k => k == 11 || k == 38) tt_ok (fun _ h => nomatch h) (Nat.zero_le _) rfl ?_
    simp only [go_sem, List.length_map, Bool.or_true, Bool.true_or, Bool.or_false, Bool.false_or]
    cases d1 : decide ((k : Int) < (N : Int)) with
    | false =>
      have hke : k = N := by simp only [decide_eq_false_iff_not] at d1; omega
      subst hke
      rw [hend]
      generalize outN k n l k = L at *
      generalize L.map intsD = M at *
      simp only [go_sem, List.length_map, hln, htk, Bool.or_true, Bool.true_or, Bool.or_false, Bool.false_or]
    | true =>
      have hkN : k < N := by simpa using d1
      cases n with
      | zero =>
        have d2 : decide ((l.length : Int) < (l.length : Int)) = false := by simp only [decide_eq_false_iff_not]; omega
        have he : listsP N 0 l = outN N 0 l k := rfl
        rw [he]
        generalize outN N 0 l k = L at *
        generalize L.map intsD = M at *
        simp only [go_sem, List.length_map, d2, hln, htk, Bool.or_true, Bool.true_or, Bool.or_false, Bool.false_or]
      | succ m =>
        have d2 : decide ((l.length : Int) < ((l.length + (m + 1) : Nat) : Int)) = true := by simp only [decide_eq_true_eq]; omega
        have hst : outN N (m + 1) l (k + 1) = outN N (m + 1) l k ++ listsP N m (l ++ [(k : Int)]) := outL_step hfk
        have hb2 := outN_len (n := m + 1) hN.2 l (k := k + 1) hkN (by omega)
        rw [hst, List.length_append] at hb2
        have ih1 := ih m rfl (l ++ [(k : Int)]) (by simp; omega) (fun x hx => by
          rcases List.mem_append.1 hx with hx | hx
          · exact hm x hx
          · rw [List.mem_singleton.1 hx]; omega)
        have hlen1 : (((l ++ [(k : Int)]).length + m : Nat) : Int) = ((l.length + (m + 1) : Nat) : Int) := by simp; omega
        rw [hlen1] at ih1
        have fz : ((l.map (D.int .i64) ++ [D.int .i64 (k : Int)]).take (l.length + 1)) = (l ++ [(k : Int)]).map (D.int .i64) := by
          rw [List.take_of_length_le (by simp)]; simp
        have hb3 : (outN N (m + 1) l k).length + (listsP N m (l ++ [(k : Int)])).length ≤ 4294967296 := by omega
        have hnx : IntKind.i64.wrap ((k : Int) + 1) = ((k + 1 : Nat) : Int) := by rw [w64 (by omega) (by omega)]; omega
        have sz1 := sz (listsP N m (l ++ [(k : Int)]))
        have hla2 : ((listsP N m (l ++ [(k : Int)])).map intsD).length = (listsP N m (l ++ [(k : Int)])).length := by simp
        generalize outN N (m + 1) l k = L at *
        generalize hQ : listsP N m (l ++ [(k : Int)]) = Q at *
        simp only [go_sem, List.length_map, d2, t1, t2, t3, show sized 1 [] = true from rfl, Bool.or_true, Bool.true_or, Bool.or_false, Bool.false_or]
        refine DCall_sound (PC.callF 1 ih1 rfl rfl (by simp [frzVs, frzV, fz, dz]) rfl rfl ?_)
        simp only [go_sem, sz1, hb3, hla2, hln, hnx, List.length_map, Bool.or_true, Bool.true_or, Bool.or_false, Bool.false_or]
        refine ⟨k + 1, ⟨by omega, hkN⟩, by omega, ?_⟩
        refine ForgetTo.drop (H0 := [_]) (Y := [_]) (Nat.zero_le _) ?_ (by simp [BBs, BB, VBs, VB]) ?_
        · rw [hst]; simp
        · simp [EWp, Env.look, pubV, hst]

theorem z35 {N : Nat} (hN : 1 ≤ N ∧ N ≤ 4) : ∀ (n : Nat) (l : List Int), l.length + n ≤ 8 → (∀ x ∈ l, 0 ≤ x ∧ x < (N : Int)) → PC prog 35 [.d (.int .i64 N), .d (.int .i64 ((l.length + n : Nat) : Int)), .d (.sl (l.map (.int .i64)))] (.d (.sl ((listsP N n l).map intsD)))
  | 0, l, h1, h2 => z35_step hN 0 (fun m h => by omega) l h1 h2
  | n + 1, l, h1, h2 => z35_step hN (n + 1) (fun m h l' => by
      obtain rfl : m = n := by omega
      exact z35 hN m l') l h1 h2
end Go.Aw
end

section
set_option maxRecDepth 100000
namespace Go.Aw
open Go Go.Proofs.Tryz

theorem less_K {w : Works} {u m : List Int} {s : PlanS} (hf : s.found = true) (hp : s.pence = penceF w s.best) : betterP w m (cntF (u ++ m)) (penceF w m) s = (goodP w (cntF (u ++ m)) && (decide (penceF w m < s.pence) || (decide (penceF w m = s.pence) && lessI m s.best))) := by
  rw [better_K hf hp, betterK, hp]
  congr 3
  unfold lessI
  by_cases h : m.length = s.best.length
  · rw [if_neg (by simpa using h)]; simp [h]
  · rw [if_pos h]; simp [h]

theorem z13 {w : Works} (hok : w.Ok) {u : List Int} (hu : coatsP w u = true) : PC prog 13 [.d w.d, .d (.sl (u.map (.int .i64)))] (.tup [bestV (planO w u), .d (.bool (planO w u).found)]) := by
  obtain ⟨l1, l2⟩ := hok.len
  obtain ⟨hu8, hum⟩ := coatsP_iff.1 hu
  refine PC.run (fun k => k == 39) tt_ok (fn := f13) (rs := [.tmp 4, .tmp 5]) rfl rfl rfl rfl rfl rfl rfl ?_
  have w1 : IntKind.i64.wrap (8 - (u.length : Int)) = ((8 - u.length : Nat) : Int) := by rw [w64 (by omega) (by omega)]; omega
  have z35a := z35 ⟨l1, l2⟩ (8 - u.length) [] (by simp) (by simp)
  have e0 : ((([] : List Int).length + (8 - u.length) : Nat) : Int) = ((8 - u.length : Nat) : Int) := by simp
  rw [e0] at z35a
  have hO := planO_fold w u
  have hmem := fun m => (lists_asc (N := w.slips.length) (k := 8 - u.length) (m := m)).1
  have hlen := listsP_len w.slips.length l2 (8 - u.length) []
  have h58 : 5 ^ (8 - u.length) ≤ 5 ^ 8 := Nat.pow_le_pow_right (by omega) (by omega)
  generalize listsP w.slips.length (8 - u.length) [] = all at *
  rw [hO]
  clear hO
  simp only [go_sem, Works.d, List.length_map, w1]
  refine z35a.call rfl rfl rfl ?_
  simp only [go_sem]
  refine ALoop.by (S := Nat) (fun i => [(9, .d (.int .i64 i)), (8, .d (.bool ((all.take i).foldl (updM w u) ⟨[], 0, false⟩).found)), (7, bestV ((all.take i).foldl (updM w u) ⟨[], 0, false⟩)), (6, .d (.sl (all.map intsD))), (2, .ptr 0 0), (1, .d (.sl (u.map (.int .i64))))])
    (fun _ => [wrkB w]) (fun i => all.length - i) (fun i => i ≤ all.length) 0 (Nat.zero_le _) (fun _ h => nomatch h) (Nat.zero_le _) ?_ ?_
  · exact ForgetTo.same' (Nat.zero_le _) (by simp [EWe, Env.look, bestV]) (by simp [wrkB])
  rintro i hi hn
  refine AWP.run (fun k => k == 39) tt_ok (fun _ h => nomatch h) (Nat.zero_le _) rfl ?_
  simp only [go_sem, wrkB, List.length_map]
  refine Br_split (fun hd => ?_) (fun hd => ?_) <;> simp only [go_sem, hd]
  · have hlt : i < all.length := by simpa using hd
    have hix : idx? (all.map intsD) (i : Int) = some (intsD all[i]) := by simp [idx?, List.getElem?_eq_getElem hlt]
    have hst : (all.take (i + 1)).foldl (updM w u) ⟨[], 0, false⟩ = updM w u ((all.take i).foldl (updM w u) ⟨[], 0, false⟩) all[i] := by rw [List.take_succ_eq_append_getElem hlt, List.foldl_append]; rfl
    have hinv := plan_fold (w := w) (u := u) (all.take i) [] ⟨[], 0, false⟩ ⟨fun _ => ⟨rfl, rfl, fun m h => by simp at h⟩, (fun h => nomatch h)⟩
    rw [List.nil_append] at hinv
    have hsb : ∀ s, s = (all.take i).foldl (updM w u) ⟨[], 0, false⟩ → s.found = true → s.best ∈ all := fun s hs hf => by
      subst hs; exact List.mem_of_mem_take (hinv.yes hf).1.1
    obtain ⟨a1, a2, a3⟩ := hmem _ (List.getElem_mem hlt)
    have hnx : IntKind.i64.wrap ((i : Int) + 1) = (i : Int) + 1 := w64 (by omega) (by omega)
    generalize hs : (all.take i).foldl (updM w u) ⟨[], 0, false⟩ = s at *
    generalize all[i] = m at *
    have hsb := hsb s rfl
    have hcu : coatsP w (u ++ m) = true := coatsP_iff.2 ⟨by simp; omega, fun n hn => by
      rcases List.mem_append.1 hn with hn | hn
      · exact hum n hn
      · exact a2 n hn⟩
    have z14m := z14 hok (l := m) (by omega) a2
    have z36m := z36 hok hcu
    have t1 := sized_ints u
    have t2 := sized_ints m
    have hle : u.length ≤ 4294967296 := by omega
    have hle2 : u.length + m.length ≤ 4294967296 := by omega
    have hmap : u.map (D.int .i64) ++ m.map (D.int .i64) = (u ++ m).map (.int .i64) := by simp
    have hln : ((u ++ m).map (D.int .i64)).length = u.length + m.length := by simp
    have htk : ((u ++ m).map (D.int .i64)).take (u.length + m.length) = (u ++ m).map (D.int .i64) := List.take_of_length_le (by omega)
    have fin : ∀ (s' : PlanS) (Y : Blk) (E : Env), updM w u s m = s' → EWp 1 ([wrkB w] ++ [Y]) E [(9, .d (.int .i64 ((i + 1 : Nat) : Int))), (8, .d (.bool s'.found)), (7, bestV s'), (6, .d (.sl (all.map intsD))), (2, .ptr 0 0), (1, .d (.sl (u.map (.int .i64))))] → ∃ q, q ≤ all.length ∧ all.length - q < all.length - i ∧ ForgetTo 0 E [wrkB w, Y] [(9, .d (.int .i64 (q : Nat))), (8, .d (.bool ((all.take q).foldl (updM w u) ⟨[], 0, false⟩).found)), (7, bestV ((all.take q).foldl (updM w u) ⟨[], 0, false⟩)), (6, .d (.sl (all.map intsD))), (2, .ptr 0 0), (1, .d (.sl (u.map (.int .i64))))] [wrkB w] := fun s' Y E h hE => by
      refine ⟨i + 1, hlt, by omega, ?_⟩
      rw [hst, h]
      exact ForgetTo.drop (H0 := [_]) (Y := [_]) (Nat.zero_le _) rfl (by simp [BBs, BB, VBs, VB, wrkB]) hE
    simp only [wrkB] at fin
    have hup : ∀ b, betterP w m (cntF (u ++ m)) (penceF w m) s = b → updM w u s m = if b = true then ⟨m, penceF w m, true⟩ else s := fun b h => by rw [updM, updP, h]
    refine ADrw.treeG (fun k => k == 39) tt_ok (by kernel_rfl) (fun k => if k = 0 ∨ k = 6 then some .L else some .S) (.ones [0, 1, 2, 3, 4, 5, 6, 7, 8, 9, 10] .done) (Nat.zero_le _) (fun _ h => nomatch h) rfl rfl (by kernel_rfl) ?_
    simp only [go_sem, hix, intsD]
    refine z14m.callS rfl rfl rfl rfl rfl rfl ?_
    cases hF : s.found with
    | false =>
      have hb0 := (hinv.no hF).1
      simp only [go_sem, bestV, hF, if_false, Bool.false_eq_true]
      refine (z14 hok (l := []) (by simp) (by simp)).callS rfl rfl rfl rfl rfl rfl ?_
      simp only [go_sem]
      refine ADrw.treeG (fun k => k == 39) tt_ok (by kernel_rfl) (fun k => if k = 0 then some .L else if k = 3 ∨ k = 8 then some .W else if k = 9 then some .R else some .S) (.ones [1, 2, 4, 5, 6, 7] (.two 0 (.ones [3, 8, 9, 10, 11, 12, 13, 14, 15, 16, 17, 18, 19, 20, 21, 22, 23, 24, 25, 26, 27, 28, 29, 30, 31] .done) 3 (.two 0 (.ones [8, 9, 10, 11, 12, 13, 14, 15, 16, 17, 18, 19, 20, 21, 22, 23, 24, 25, 26, 27, 28, 29, 30, 31] .done) 8 (.ones [0, 9, 10, 11, 12, 13, 14, 15, 16, 17, 18, 19, 20, 21, 22, 23, 24, 25, 26, 27, 28, 29, 30, 31] .done)))) (Nat.zero_le _) (fun _ h => nomatch h) rfl rfl (by kernel_rfl) ?_
      have hbp : betterP w m (cntF (u ++ m)) (penceF w m) s = goodP w (cntF (u ++ m)) := by rw [betterP, hF]; simp
      generalize hUM : (u ++ m).map (D.int .i64) = UM at *
      simp only [go_sem, hix, intsD, t1, t2, hle, hle2, hmap, List.length_map, show sized 1 [] = true from rfl]
      refine ⟨?_, ?_, ?_⟩
      all_goals
        refine z36m.callD rfl (by simp [go_sem, pubVs, pubV, dz, htk, hln, Works.d]) rfl ?_
        cases hg : goodP w (cntF (u ++ m)) with
        | false =>
          have hb2 := hup _ (by rw [hbp, hg])
          rw [if_neg (by simp)] at hb2
          simp only [go_sem, hnx]
          exact fin s _ _ hb2 (by simp [EWp, Env.look, pubV, hF, bestV])
        | true =>
          have hb2 := hup _ (by rw [hbp, hg])
          rw [if_pos rfl] at hb2
          simp only [go_sem, hF, hix, intsD, hnx]
          exact fin _ _ _ hb2 (by simp [EWp, Env.look, pubV, bestV])
    | true =>
      obtain ⟨hb0, hpe, _⟩ := hinv.yes hF
      obtain ⟨b1, b2, b3⟩ := hmem _ (hsb hF)
      have hbp := less_K (u := u) (m := m) hF hpe
      have z37m := z37 m s.best (by omega) (by omega)
      have z14b := z14 hok (l := s.best) (by omega) b2
      rw [← hpe] at z14b
      simp only [go_sem, bestV, hF, if_true]
      refine z14b.callS rfl rfl rfl rfl rfl rfl ?_
      simp only [go_sem]
      refine ADrw.treeG (fun k => k == 39) tt_ok (by kernel_rfl) (fun k => if k = 0 then some .L else if k = 3 ∨ k = 8 then some .W else if k = 9 then some .R else some .S) (.ones [1, 2, 4, 5, 6, 7] (.two 0 (.ones [3, 8, 9, 10, 11, 12, 13, 14, 15, 16, 17, 18, 19, 20, 21, 22, 23, 24, 25, 26, 27, 28, 29, 30, 31] .done) 3 (.two 0 (.ones [8, 9, 10, 11, 12, 13, 14, 15, 16, 17, 18, 19, 20, 21, 22, 23, 24, 25, 26, 27, 28, 29, 30, 31] .done) 8 (.ones [0, 9, 10, 11, 12, 13, 14, 15, 16, 17, 18, 19, 20, 21, 22, 23, 24, 25, 26, 27, 28, 29, 30, 31] .done)))) (Nat.zero_le _) (fun _ h => nomatch h) rfl rfl (by kernel_rfl) ?_
      generalize hUM : (u ++ m).map (D.int .i64) = UM at *
      simp only [go_sem, hix, intsD, t1, t2, hle, hle2, hmap, List.length_map, show sized 1 [] = true from rfl]
      refine ⟨?_, ?_, ?_⟩
      all_goals
        refine z36m.callD rfl (by simp [go_sem, pubVs, pubV, dz, htk, hln, Works.d]) rfl ?_
        cases hg : goodP w (cntF (u ++ m)) with
        | false =>
          have hb2 := hup false (by rw [hbp, hg]; rfl)
          rw [if_neg (by simp)] at hb2
          simp only [go_sem, hnx]
          exact fin s _ _ hb2 (by simp [EWp, Env.look, pubV, hF, bestV])
        | true =>
          rw [hg, Bool.true_and] at hbp
          simp only [go_sem, hF]
          cases d1 : decide (penceF w m < s.pence) with
          | true =>
            have hb2 := hup true (by rw [hbp, d1]; rfl)
            rw [if_pos rfl] at hb2
            simp only [go_sem, hix, intsD, hnx]
            exact fin _ _ _ hb2 (by simp [EWp, Env.look, pubV, bestV])
          | false =>
            rw [d1, Bool.false_or] at hbp
            simp only [go_sem]
            cases d2 : decide (penceF w m = s.pence) with
            | false =>
              have hb2 := hup false (by rw [hbp, d2]; rfl)
              rw [if_neg (by simp)] at hb2
              simp only [go_sem, hnx]
              exact fin s _ _ hb2 (by simp [EWp, Env.look, pubV, hF, bestV])
            | true =>
              rw [d2, Bool.true_and] at hbp
              simp only [go_sem, hix, intsD]
              refine z37m.callS rfl rfl rfl rfl rfl rfl ?_
              cases d3 : lessI m s.best with
              | true =>
                have hb2 := hup true (by rw [hbp, d3])
                rw [if_pos rfl] at hb2
                simp only [go_sem, hix, intsD, hnx]
                exact fin _ _ _ hb2 (by simp [EWp, Env.look, pubV, bestV])
              | false =>
                have hb2 := hup false (by rw [hbp, d3])
                rw [if_neg (by simp)] at hb2
                simp only [go_sem, hnx]
                exact fin s _ _ hb2 (by simp [EWp, Env.look, pubV, hF, bestV])
  · have hie : i = all.length := by simp only [decide_eq_false_iff_not] at hd; omega
    subst hie
    rw [List.take_length]
    simp only [go_sem, pubV_bestV]

def manySp : Option (Nat × Nat) → Sp
  | none => ⟨9, -1⟩
  | some (a, b) => ⟨a, b⟩

theorem z16 {w : Works} (hok : w.Ok) {u : List Int} (hu : coatsP w u = true) {s : Int} (hsr : 0 ≤ s ∧ s < w.slips.length) : PC prog 16 [.d w.d, .d (.sl (u.map (.int .i64))), .d (.int .i64 s)] (.d (manySp (manyS w (cntF u) s (9 - u.length))).d) := by
  obtain ⟨l1, l2⟩ := hok.len
  obtain ⟨hu8, hum⟩ := coatsP_iff.1 hu
  refine PC.run (fun k => k == 11) tt_ok (fn := f16) (rs := [.cell 6 29]) rfl rfl rfl rfl rfl rfl rfl ?_
  have t1 := sized_ints u
  have hle : u.length ≤ 4294967296 := by omega
  simp only [go_sem, Works.d, t1, List.length_map, hle]
  refine ALoop.by (S := Nat) (fun k => [(9, .d (.int .i64 k)), (8, .ref 2 (u.length + k) 0 (u.length + k)), (7, .ptr 3 0), (6, .ptr 1 0), (3, .ptr 0 0), (2, .d (.int .i64 s))])
    (fun k => [wrkB w, .cells [.d (.int .i64 0), .d (.int .i64 0)], .arr 1 false ((u ++ List.replicate k s).map (.int .i64)), .cells [.d (.int .i64 (manySp (manyS w (cntF u) s k)).lo), .d (.int .i64 (manySp (manyS w (cntF u) s k)).hi)]]) (fun k => 9 - u.length - k) (fun k => u.length + k ≤ 9) 0 (Nat.zero_le _) (fun _ h => nomatch h) (by omega) ?_ ?_
  · exact ForgetTo.same' (Nat.zero_le _) (by simp [EWe, Env.look]) (by simp [wrkB, manyS, manySp])
  rintro k hk hn
  have hln : ((u ++ List.replicate k s).map (D.int .i64)).length = u.length + k := by simp
  refine AWP.run (fun k => k == 11) tt_ok (fun _ h => nomatch h) (Nat.zero_le _) rfl ?_
  simp only [go_sem, wrkB, hln]
  cases hd : decide (((u.length + k : Nat) : Int) ≤ 8) with
  | true =>
    have hk8 : u.length + k ≤ 8 := by simp only [decide_eq_true_eq] at hd; omega
    have hcu : coatsP w (u ++ List.replicate k s) = true := coatsP_iff.2 ⟨by simp; omega, fun n hn => by
      rcases List.mem_append.1 hn with hn | hn
      · exact hum n hn
      · rw [List.eq_of_mem_replicate hn]; exact hsr⟩
    have z36a := z36 hok hcu
    rw [cntF_rep] at z36a
    have htk : ((u ++ List.replicate k s).map (D.int .i64)).take (u.length + k) = (u ++ List.replicate k s).map (.int .i64) := List.take_of_length_le (by omega)
    have hst : (u ++ List.replicate (k + 1) s).map (D.int .i64) = (u ++ List.replicate k s).map (D.int .i64) ++ [.int .i64 s] := by
      rw [List.replicate_succ', ← List.append_assoc, List.map_append]; rfl
    have hnx : IntKind.i64.wrap ((k : Int) + 1) = (k : Int) + 1 := w64 (by omega) (by omega)
    have hi2 : decide (u.length + k ≤ 4294967295) = true := by simp only [decide_eq_true_eq]; omega
    have fin : ((u.length + k) + 1) = u.length + (k + 1) := by omega
    have hsp := manyS_spec (w := w) (c := cntF u) (s := s) k
    generalize (u ++ List.replicate k s).map (D.int .i64) = R at *
    simp only [go_sem]
    refine z36a.callL rfl (by simp [go_sem, pubVs, pubV, dz, htk, hln, Works.d]) rfl ?_
    cases hg : goodP w (addC (cntF u) s k) with
    | false =>
      have hm : manyS w (cntF u) s (k + 1) = manyS w (cntF u) s k := by rw [manyS, if_neg (by rw [hg]; simp)]
      simp only [go_sem, hi2, hln]
      refine ⟨k + 1, by omega, by omega, ?_⟩
      exact ForgetTo.same' (Nat.zero_le _) (by simp [EWe, Env.look, hnx, fin]) (by simp [wrkB, hst, hm])
    | true =>
      have hm : manySp (manyS w (cntF u) s (k + 1)) = ⟨min (manySp (manyS w (cntF u) s k)).lo (k : Int), (k : Int)⟩ := by
        rw [manyS, if_pos hg]
        cases hq : manyS w (cntF u) s k with
        | none =>
          have e : min (9 : Int) (k : Int) = (k : Int) := by omega
          show (⟨(k : Int), (k : Int)⟩ : Sp) = ⟨min (9 : Int) (k : Int), (k : Int)⟩
          rw [e]
        | some p =>
          obtain ⟨a, b⟩ := p
          rw [hq] at hsp
          obtain ⟨h1, _⟩ := hsp
          have e : min (a : Int) (k : Int) = (a : Int) := by omega
          show (⟨(a : Int), (k : Int)⟩ : Sp) = ⟨min (a : Int) (k : Int), (k : Int)⟩
          rw [e]
      generalize manySp (manyS w (cntF u) s k) = M at *
      simp only [go_sem, hi2, hln]
      refine ⟨k + 1, by omega, by omega, ?_⟩
      exact ForgetTo.same' (Nat.zero_le _) (by simp [EWe, Env.look, hnx, fin]) (by simp [wrkB, hst, hm])
  | false =>
    have hke : k = 9 - u.length := by simp only [decide_eq_false_iff_not] at hd; omega
    subst hke
    generalize manySp (manyS w (cntF u) s (9 - u.length)) = M at *
    simp only [go_sem, Sp.d]
end Go.Aw
end

section
set_option maxRecDepth 100000
namespace Go.Aw
open Go Go.Proofs.Tryz

/-- What is planned, and how many coats it takes, as the document says. -/
theorem z3 (w : Works) (u : List Int) (slip : Int) : PC prog 3 [.d w.d, .d (.sl (u.map (.int .i64))), .d (.int .i64 slip)] (.d (.bool true)) := by
  refine PC.run (fun _ => false) tt_ok (fn := f3) (rs := [.tmp 6]) rfl rfl rfl rfl rfl rfl rfl ?_
  simp only [go_sem, Works.d, List.length_map]
  by_cases hbig : w.slips.length > 20 ∨ u.length > 20
  · cases d1 : decide ((20 : Int) < w.slips.length) <;> cases d2 : decide ((20 : Int) < u.length)
    all_goals
      first
      | (exfalso; simp only [decide_eq_false_iff_not] at d1 d2; omega)
      | (simp only [go_sem, d1, d2]
         refine c14.call rfl rfl rfl ?_
         simp only [go_sem])
  have d1 : decide ((20 : Int) < w.slips.length) = false := by simp only [decide_eq_false_iff_not]; omega
  have d2 : decide ((20 : Int) < u.length) = false := by simp only [decide_eq_false_iff_not]; omega
  have hw : w.slips.length ≤ 4294967296 := by omega
  have hl : u.length ≤ 4294967296 := by omega
  have hsz := sized_ints u
  have hd0 : ∀ {α : Type} [DecidableEq α] (l : α), decide (l = l) = true := fun l => by simp
  have c58a := c58 w u slip hw hl
  have c55a := c55 w u hw hl
  have hC : ∀ e : Int, (checkP w = 0 → coatsP w u = true → False) → (if checkP w = 0 then 4 else checkP w) = e → coatsM w u slip = (⟨0, 0⟩, e) ∧ planP w u = ([], 0, e) := fun e h he => by
    rw [coatsM, planP]
    by_cases h1 : checkP w = 0
    · rw [if_pos h1] at he
      rw [if_pos h1, if_pos h1, if_neg (fun h2 => h h1 h2), if_neg (fun h2 => h h1 h2), he]
      exact ⟨rfl, rfl⟩
    · rw [if_neg h1] at he
      rw [if_neg h1, if_neg h1, he]
      exact ⟨rfl, rfl⟩
  simp only [go_sem, d1, d2]
  refine (c15 w hw).call rfl rfl rfl ?_
  simp only [go_sem, Works.d, hsz, show sized 1 [] = true from rfl, List.length_map, hl]
  refine c58a.call rfl rfl rfl ?_
  simp only [go_sem, Sp.d]
  refine c55a.call rfl rfl (by simp [VB, VBs, VB_lvI]) ?_
  simp only [go_sem, Works.d]
  refine (c18 w hw).call rfl rfl rfl ?_
  simp only [go_sem]
  refine (c19 w w hw hw).call rfl rfl rfl ?_
  simp only [go_sem, hd0]
  refine (c20 u u hl hl).call rfl rfl rfl ?_
  simp only [go_sem, hd0]
  by_cases hck : checkP w = 0
  · have d3 : decide (checkP w = 0) = true := by simpa using hck
    have hok := checkP_iff.1 hck
    obtain ⟨l1, l2⟩ := hok.len
    simp only [go_sem, d3]
    refine (c21 w u hw hl).call rfl rfl rfl ?_
    cases hcu : coatsP w u with
    | false =>
      obtain ⟨hM, hP⟩ := hC 4 (fun _ h => by rw [hcu] at h; cases h) (by rw [if_pos hck])
      rw [hM, hP]
      simp only [go_sem, lvI]
      refine ADrw.treeG (fun _ => false) tt_ok (by kernel_rfl) (fun k => if k = 9 then some .L else some .S) (.ones [0, 1, 2, 3, 4, 5, 6, 7, 8, 9, 10, 11, 12, 13, 14, 15, 16, 17, 18, 19, 20, 21, 22, 23, 24, 25] .done) (Nat.zero_le _) (fun _ h => nomatch h) rfl rfl (by kernel_rfl) ?_
      simp only [go_sem, hd0]
      refine (c22 0 0).callS rfl rfl rfl rfl rfl rfl ?_
      simp only [go_sem, Sp.d, hd0]
      refine c14.callS rfl rfl rfl rfl rfl rfl ?_
      simp only [go_sem]
    | true =>
      obtain ⟨hu8, hum⟩ := coatsP_iff.1 hcu
      have z13a := z13 hok hcu
      have hinv := plan_inv w u
      have hma : ∀ m ∈ listsP w.slips.length (8 - u.length) [], Asc w.slips.length (8 - u.length) m := fun m h => lists_asc.1 h
      have hP : planP w u = if (planO w u).found = true then ((planO w u).best, (planO w u).pence, 0) else ([], 0, 9) := by rw [planP, if_pos hck, if_pos hcu]
      have hM : coatsM w u slip = if within 0 ((w.slips.length : Int) - 1) [slip] = true then manyO (manyS w (cntF u) slip (9 - u.length)) else (⟨0, 0⟩, 7) := by rw [coatsM, if_pos hck, if_pos hcu]
      have w1 : IntKind.i64.wrap ((w.slips.length : Int) - 1) = (w.slips.length : Int) - 1 := w64 (by omega) (by omega)
      rw [hP]
      simp only [go_sem, d3]
      refine z13a.call rfl rfl (by simp [VB, VBs]; unfold bestV; split <;> rfl) ?_
      generalize planO w u = P at *
      have c15w := c78w slip 0 ((w.slips.length : Int) - 1)
      have bnull := fun (m n : Int) => show True from trivial
      cases hF : P.found with
      | true =>
        obtain ⟨⟨h1, h2⟩, h3, _⟩ := hinv.yes hF
        obtain ⟨a1, a2, a3⟩ := hma _ h1
        have z14a := z14 hok (l := P.best) (by omega) a2
        rw [← h3] at z14a
        have c20a := c20 P.best P.best (by omega) (by omega)
        have hlv : dz (lvI P.best) = .d (.sl (P.best.map (.int .i64))) := dz_lvI P.best
        rw [if_pos rfl]
        simp only [go_sem, bestV, hF, if_true]
        refine c20a.call (by simp only [go_sem, List.nil_append, List.append_nil, List.map_cons, List.map_nil, hlv]; try rfl) rfl rfl ?_
        simp only [go_sem, hd0]
        refine z14a.call rfl rfl rfl ?_
        simp only [go_sem, hd0, List.length_map, w1]
        refine c15w.call rfl rfl rfl ?_
        rw [hM]
        cases hin : within 0 ((w.slips.length : Int) - 1) [slip] with
        | false =>
          simp only [go_sem, if_false, Bool.false_eq_true]
          refine ADrw.treeG (fun _ => false) tt_ok (by kernel_rfl) (fun k => if k = 3 then some .L else some .S) (.ones [0, 1, 2, 3, 4, 5, 6, 7, 8, 9, 10] .done) (Nat.zero_le _) (fun _ h => nomatch h) rfl rfl (by kernel_rfl) ?_
          simp only [go_sem]
          refine (c22 0 0).callS rfl rfl rfl rfl rfl rfl ?_
          simp only [go_sem, Sp.d, hd0]
          refine c14.callS rfl rfl rfl rfl rfl rfl ?_
          simp only [go_sem]
        | true =>
          have hsr := within_one.1 hin
          have z16a := z16 hok hcu (s := slip) ⟨by omega, by omega⟩
          simp only [go_sem, if_true]
          refine z16a.call rfl rfl rfl ?_
          cases hmn : manyS w (cntF u) slip (9 - u.length) with
          | none =>
            simp only [go_sem, manySp, manyO, Sp.d, show decide ((-1 : Int) ≥ 0) = false from rfl, show decide ((0 : Int) ≤ -1) = false from rfl]
            refine ADrw.treeG (fun _ => false) tt_ok (by kernel_rfl) (fun k => if k = 3 then some .L else some .S) (.ones [0, 1, 2, 3, 4, 5, 6, 7, 8, 9, 10] .done) (Nat.zero_le _) (fun _ h => nomatch h) rfl rfl (by kernel_rfl) ?_
            simp only [go_sem]
            refine (c22 0 0).callS rfl rfl rfl rfl rfl rfl ?_
            simp only [go_sem, Sp.d, hd0]
            refine c14.callS rfl rfl rfl rfl rfl rfl ?_
            simp only [go_sem]
          | some p =>
            obtain ⟨a, b⟩ := p
            have hb0 : decide ((0 : Int) ≤ (b : Int)) = true := by simp
            simp only [go_sem, manySp, manyO, Sp.d, hb0, hd0]
            refine c14.call rfl rfl rfl ?_
            simp only [go_sem]
      | false =>
        rw [if_neg (by simp)]
        simp only [go_sem, bestV, hF, if_false, Bool.false_eq_true, show lvI [] = .slx (some true) [] from rfl, List.length_nil, List.length_map, show (((0 : Nat) : Int) != 0) = false from rfl, w1]
        refine c15w.call rfl rfl rfl ?_
        rw [hM]
        cases hin : within 0 ((w.slips.length : Int) - 1) [slip] with
        | false =>
          simp only [go_sem, if_false, Bool.false_eq_true]
          refine ADrw.treeG (fun _ => false) tt_ok (by kernel_rfl) (fun k => if k = 3 then some .L else some .S) (.ones [0, 1, 2, 3, 4, 5, 6, 7, 8, 9, 10] .done) (Nat.zero_le _) (fun _ h => nomatch h) rfl rfl (by kernel_rfl) ?_
          simp only [go_sem]
          refine (c22 0 0).callS rfl rfl rfl rfl rfl rfl ?_
          simp only [go_sem, Sp.d, hd0]
          refine c14.callS rfl rfl rfl rfl rfl rfl ?_
          simp only [go_sem]
        | true =>
          have hsr := within_one.1 hin
          have z16a := z16 hok hcu (s := slip) ⟨by omega, by omega⟩
          simp only [go_sem, if_true]
          refine z16a.call rfl rfl rfl ?_
          cases hmn : manyS w (cntF u) slip (9 - u.length) with
          | none =>
            simp only [go_sem, manySp, manyO, Sp.d, show decide ((-1 : Int) ≥ 0) = false from rfl, show decide ((0 : Int) ≤ -1) = false from rfl]
            refine ADrw.treeG (fun _ => false) tt_ok (by kernel_rfl) (fun k => if k = 3 then some .L else some .S) (.ones [0, 1, 2, 3, 4, 5, 6, 7, 8, 9, 10] .done) (Nat.zero_le _) (fun _ h => nomatch h) rfl rfl (by kernel_rfl) ?_
            simp only [go_sem]
            refine (c22 0 0).callS rfl rfl rfl rfl rfl rfl ?_
            simp only [go_sem, Sp.d, hd0]
            refine c14.callS rfl rfl rfl rfl rfl rfl ?_
            simp only [go_sem]
          | some p =>
            obtain ⟨a, b⟩ := p
            have hb0 : decide ((0 : Int) ≤ (b : Int)) = true := by simp
            simp only [go_sem, manySp, manyO, Sp.d, hb0, hd0]
            refine c14.call rfl rfl rfl ?_
            simp only [go_sem]
  · have d3 : decide (checkP w = 0) = false := by simpa using hck
    obtain ⟨hM, hP⟩ := hC (checkP w) (fun h => absurd h hck) (by rw [if_neg hck])
    rw [hM, hP]
    simp only [go_sem, d3, lvI]
    refine ADrw.treeG (fun _ => false) tt_ok (by kernel_rfl) (fun k => if k = 9 then some .L else some .S) (.ones [0, 1, 2, 3, 4, 5, 6, 7, 8, 9, 10, 11, 12, 13, 14, 15, 16, 17, 18, 19, 20, 21, 22, 23, 24, 25] .done) (Nat.zero_le _) (fun _ h => nomatch h) rfl rfl (by kernel_rfl) ?_
    simp only [go_sem, hd0]
    refine (c22 0 0).callS rfl rfl rfl rfl rfl rfl ?_
    simp only [go_sem, Sp.d, hd0]
    refine c14.callS rfl rfl rfl rfl rfl rfl ?_
    simp only [go_sem]
end Go.Aw
end
