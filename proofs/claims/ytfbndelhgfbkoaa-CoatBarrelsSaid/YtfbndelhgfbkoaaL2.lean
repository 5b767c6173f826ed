/- Bits; lists of numbers; calls of yield. Ounces by weighings. Told. All sets of so many numbers. Wrong. Truths. Looks. The reference: lists compared. What the document's examples say is so. The reference's Sum, How. Arguments of the program's types. The reference: Content, Mix. The reference: sets of weighings, which is less; the plain law. The reference: Told. The reference: Wrong. CoatTolds. Works of bytes, with a truth. The law's helpers: coats, own, ints, together, ends, in, comes. CoatTruth: the plain law. Bytes as arguments of the laws. The planner's answer: the cheapest of all ascending lists. CoatCheapest, first stages: the plan. More bytes as arguments of the laws. The plain law of the cheapest mixture. The plain law of weighings. Inside; weighs. CoatBarrels: what was weighed. CoatBarrels: what is told. CoatBarrels: what is wrong. -/
import Derived.Test.YtfbndelhgfbkoaaL1
set_option linter.unusedSimpArgs false
set_option linter.unusedVariables false

section
set_option maxRecDepth 100000
namespace Go.Aw
open Go Go.Proofs.Try

theorem xw64 {n : Nat} (h : n < 9223372036854775808) : IntKind.i64.wrap (n : Int) = n := w64 (by omega) (by omega)

theorem bv64 {n : Nat} (h : n < 2 ^ 64) : (BitVec.ofInt 64 (n : Int)).toNat = n := by
  rw [BitVec.toNat_ofInt]
  have : ((n : Int) % ((2 ^ 64 : Nat) : Int)) = n := Int.emod_eq_of_lt (by omega) (by exact_mod_cast h)
  rw [this]; simp

theorem and64 {a b : Nat} (ha : a < 2 ^ 63) (hb : b < 2 ^ 63) : IntKind.i64.wrap (((BitVec.ofInt 64 (a : Int) &&& BitVec.ofInt 64 (b : Int)).toNat : Nat) : Int) = ((a &&& b : Nat) : Int) := by
  rw [BitVec.toNat_and, bv64 (by omega), bv64 (by omega)]
  exact xw64 (Nat.lt_of_le_of_lt Nat.and_le_left ha)

theorem or64 {a b : Nat} (ha : a < 2 ^ 63) (hb : b < 2 ^ 63) : IntKind.i64.wrap (((BitVec.ofInt 64 (a : Int) ||| BitVec.ofInt 64 (b : Int)).toNat : Nat) : Int) = ((a ||| b : Nat) : Int) := by
  rw [BitVec.toNat_or, bv64 (by omega), bv64 (by omega)]
  exact xw64 (Nat.or_lt_two_pow ha hb)

theorem shr64 {a p : Nat} (hp : p < 64) : (a : Int).fdiv (2 ^ min p 64) = ((a >>> p : Nat) : Int) := by
  have e : ((2 : Int) ^ min p 64) = ((2 ^ p : Nat) : Int) := by rw [Nat.min_eq_left (by omega)]; simp
  rw [e, Nat.shiftRight_eq_div_pow, Int.fdiv_eq_ediv_of_nonneg _ (Int.natCast_nonneg _), ← Int.natCast_ediv]

theorem shl64 {p : Nat} (hp : p < 63) : IntKind.i64.wrap (1 * 2 ^ min p 64) = ((2 ^ p : Nat) : Int) := by
  have e : ((2 : Int) ^ min p 64) = ((2 ^ p : Nat) : Int) := by rw [Nat.min_eq_left (by omega)]; simp
  rw [e, Int.one_mul]
  exact xw64 (Nat.pow_lt_pow_right (by omega) hp)

theorem bit64 (a p : Nat) : (((a >>> p &&& 1 : Nat) : Int) == 1) = a.testBit p := by
  rw [Nat.testBit_eq_decide_div_mod_eq, Nat.and_one_is_mod, Nat.shiftRight_eq_div_pow]
  generalize a / 2 ^ p = q
  rw [Bool.eq_iff_iff, beq_iff_eq, decide_eq_true_eq]; omega

theorem shrN (a : Nat) {p : Nat} (hp : p < 64) : shrO .i64 (a : Int) (p : Int) = some (.int .i64 ((a >>> p : Nat) : Int)) := by
  rw [shrO_nn (Int.natCast_nonneg _), Int.toNat_natCast]
  exact congrArg _ (congrArg _ (shr64 hp))

theorem shlN {p : Nat} (hp : p < 63) : shlO .i64 1 (p : Int) = some (.int .i64 ((2 ^ p : Nat) : Int)) := by
  rw [shlO_nn (Int.natCast_nonneg _), Int.toNat_natCast]
  exact congrArg _ (congrArg _ (shl64 hp))

theorem and1N {a : Nat} (ha : a < 2 ^ 63) : andI .i64 (a : Int) 1 = ((a &&& 1 : Nat) : Int) := and64 (b := 1) ha (by omega)

theorem orN {a b : Nat} (ha : a < 2 ^ 63) (hb : b < 2 ^ 63) : orI .i64 (a : Int) (b : Int) = ((a ||| b : Nat) : Int) := or64 ha hb

theorem bitN (a p : Nat) : decide (((a >>> p &&& 1 : Nat) : Int) = 1) = a.testBit p := by
  rw [← bit64]
  rw [Bool.eq_iff_iff, beq_iff_eq, decide_eq_true_eq]

theorem shr_lt {a p : Nat} (ha : a < 2 ^ 63) : a >>> p < 2 ^ 63 := by
  rw [Nat.shiftRight_eq_div_pow]; exact Nat.lt_of_le_of_lt (Nat.div_le_self _ _) ha


def natsD (l : List Nat) : List D := l.map fun k : Nat => .int .i64 (k : Int)

section
variable {n : Nat} {Hs : Heap} (hn : Hs.length = n)
include hn
theorem hy0 (Y : Heap) : (Hs ++ Y)[n]? = Y[0]? := by rw [List.getElem?_append_right (by omega), hn, Nat.sub_self]
theorem hy1 (Y : Heap) : (Hs ++ Y)[n + 1]? = Y[1]? := by rw [List.getElem?_append_right (by omega), hn]; congr 1; omega
theorem hy2 (Y : Heap) : (Hs ++ Y)[n + 2]? = Y[2]? := by rw [List.getElem?_append_right (by omega), hn]; congr 1; omega
theorem hs0 (Y : Heap) (X : Blk) : (Hs ++ Y).set n X = Hs ++ Y.set 0 X := by rw [List.set_append_right _ _ (by omega), hn, Nat.sub_self]
theorem hs1 (Y : Heap) (X : Blk) : (Hs ++ Y).set (n + 1) X = Hs ++ Y.set 1 X := by rw [List.set_append_right _ _ (by omega), hn]; congr 2; omega
theorem hs2 (Y : Heap) (X : Blk) : (Hs ++ Y).set (n + 2) X = Hs ++ Y.set 2 X := by rw [List.set_append_right _ _ (by omega), hn]; congr 2; omega
theorem htk (Y : Heap) : (Hs ++ Y).take n = Hs := by rw [← hn]; simp
theorem hyl (Y : Heap) : (Hs ++ Y).length = n + Y.length := by simp [hn]
end

/-- A call of yield with more blocks behind. -/
theorem yield_frame {yv : V} {n : Nat} {I : List (List V) → Heap → Prop} {Q : V → Heap → Prop} (hyv : VB n yv = true) (hI : ∀ l H, I l H → H.length = n ∧ BBs n H)
    (hy : ∀ a r H, I (a :: r) H → ACallV prog yv a H (fun v H' => (v = .d (.bool true) ∧ I r H') ∨ (v = .d (.bool false) ∧ H'.length = n ∧ BBs n H' ∧ Q (.tup []) H')))
    {a : List V} {r : List (List V)} {H : Heap} (X : Heap) (ha : VBs n a = true) (h : I (a :: r) H) :
    ACallV prog yv a (H ++ X) (fun v H' => ∃ H1, H' = H1 ++ X ∧ H1.length = n ∧ BBs n H1 ∧ ((v = .d (.bool true) ∧ I r H1) ∨ (v = .d (.bool false) ∧ Q (.tup []) H1))) := by
  obtain ⟨hl, hb⟩ := hI _ _ h
  refine (ACallV.frame (fun id x hx => BB_le (by omega) (BBs_get hb id x hx)) (by rw [hl]; exact hyv) (by rw [hl]; exact ha) (fun v H' hv => ?_) (hy _ _ _ h)).mono ?_
  · rcases hv with ⟨_, k⟩ | ⟨_, k, _⟩
    · rw [(hI _ _ k).1, hl]
    · rw [k, hl]
  · rintro v H' ⟨H1, rfl, ⟨k1, k2⟩ | ⟨k1, k2, k3, k4⟩⟩
    · exact ⟨H1, rfl, (hI _ _ k2).1, (hI _ _ k2).2, .inl ⟨k1, k2⟩⟩
    · exact ⟨H1, rfl, k2, k3, .inr ⟨k1, k4⟩⟩

end Go.Aw
end

section
set_option maxRecDepth 100000
namespace Go.Aw
open Go Go.Proofs.Try

def wgh00 : Wgh := ⟨0, 1, ⟨0, 0⟩⟩

/-- The ounces of a slip by the first weighings, without some. -/
def ozF (w : Works) (l : List Wgh) (but s : Nat) : Nat → Sp
  | 0 => (w.sl s).ounces
  | i + 1 => if but.testBit i = false ∧ (l.getD i wgh00).slip = (s : Int) then ⟨max (ozF w l but s i).lo (((l.getD i wgh00).used.lo + (l.getD i wgh00).feet - 1).tdiv (l.getD i wgh00).feet), min (ozF w l but s i).hi ((l.getD i wgh00).used.hi.tdiv (l.getD i wgh00).feet)⟩ else ozF w l but s i

structure Wgh.Ok (w : Works) (a : Wgh) : Prop where
  s : 0 ≤ a.slip ∧ a.slip < w.slips.length
  f : 1 ≤ a.feet ∧ a.feet ≤ 200
  u : 0 ≤ a.used.lo ∧ a.used.lo ≤ a.used.hi ∧ a.used.hi ≤ 20000

theorem wghE_ok {w : Works} {l : List Wgh} (h : wghE w l = 0) : w.Ok ∧ l.length ≤ 6 ∧ ∀ a ∈ l, a.Ok w := by
  unfold wghE at h
  split at h
  · rename_i h1
    split at h
    · omega
    rename_i h2
    split at h
    · omega
    rename_i h3
    refine ⟨checkP_iff.1 h1, by omega, fun a ha => ?_⟩
    have h4 : badW w a = false := by
      rw [← Bool.not_eq_true]
      exact fun h => h3 (List.any_eq_true.2 ⟨a, ha, h⟩)
    simp only [badW, Bool.or_eq_false_iff, Bool.not_eq_false', Bool.and_eq_true, within_one, within_two, decide_eq_true_eq] at h4
    exact ⟨by omega, by omega, by omega⟩
  · omega

theorem tdiv_small {a c m : Int} (ha : 0 ≤ a ∧ a ≤ m) (hc : 0 < c) : 0 ≤ a.tdiv c ∧ a.tdiv c ≤ m := by
  rw [Int.tdiv_eq_ediv_of_nonneg ha.1]
  exact ⟨Int.ediv_nonneg ha.1 (by omega), Int.le_trans (Int.ediv_le_self _ ha.1) ha.2⟩

theorem ozF_bnd {w : Works} (hok : w.Ok) {l : List Wgh} (hl : ∀ a ∈ l, a.Ok w) (but s : Nat) : ∀ i, i ≤ l.length → (0 ≤ (ozF w l but s i).lo ∧ (ozF w l but s i).lo ≤ 21000) ∧ (0 ≤ (ozF w l but s i).hi ∧ (ozF w l but s i).hi ≤ 20)
  | 0, _ => by have := (hok.sl s).ounces; simp only [ozF]; omega
  | i + 1, hi => by
    have ih := ozF_bnd hok hl but s i (by omega)
    have hg : l.getD i wgh00 ∈ l := by rw [List.getD_eq_getElem?_getD, List.getElem?_eq_getElem (by omega)]; exact List.getElem_mem _
    have ha := hl _ hg
    simp only [ozF]
    generalize l.getD i wgh00 = a at ha
    split
    · have h1 := tdiv_small (a := a.used.lo + a.feet - 1) (c := a.feet) (m := 20200) (by have := ha.u; have := ha.f; omega) (by have := ha.f; omega)
      have h2 := tdiv_small (a := a.used.hi) (c := a.feet) (m := 20000) (by have := ha.u; omega) (by have := ha.f; omega)
      simp only
      omega
    · exact ih

def ozL (w : Works) (l : List Wgh) (but i : Nat) : List Sp := (List.range w.slips.length).map fun s => ozF w l but s i

def ozOk (w : Works) (l : List Wgh) (but : Nat) : Bool := (ozL w l but l.length).all fun s => decide (s.lo ≤ s.hi)

def ozR (w : Works) (l : List Wgh) (but : Nat) : List Sp := if ozOk w l but = true then ozL w l but l.length else []

theorem ozF_mono (w : Works) (l : List Wgh) (but s i : Nat) : ∀ k, (ozF w l but s i).lo ≤ (ozF w l but s (i + k)).lo ∧ (ozF w l but s (i + k)).hi ≤ (ozF w l but s i).hi
  | 0 => ⟨Int.le_refl _, Int.le_refl _⟩
  | k + 1 => by
    have ih := ozF_mono w l but s i k
    rw [← Nat.add_assoc]
    simp only [ozF]
    split
    · simp only; omega
    · exact ih

theorem ozOk_false {w : Works} {l : List Wgh} {but s i : Nat} (hs : s < w.slips.length) (hi : i ≤ l.length) (h : ¬ (ozF w l but s i).lo ≤ (ozF w l but s i).hi) : ozOk w l but = false := by
  rw [ozOk, ← Bool.not_eq_true, List.all_eq_true]
  intro hall
  have h1 := hall (ozF w l but s l.length) (List.mem_map.2 ⟨s, List.mem_range.2 hs, rfl⟩)
  have h2 := ozF_mono w l but s i (l.length - i)
  rw [show i + (l.length - i) = l.length by omega] at h2
  simp only [decide_eq_true_eq] at h1
  omega

theorem ozOk_true {w : Works} {l : List Wgh} {but : Nat} (h : ∀ s, s < w.slips.length → (ozF w l but s l.length).lo ≤ (ozF w l but s l.length).hi) : ozOk w l but = true := by
  rw [ozOk, List.all_eq_true]
  intro x hx
  obtain ⟨s, hs, rfl⟩ := List.mem_map.1 hx
  simpa using h s (List.mem_range.1 hs)

def wghB (w : Works) (l : List Wgh) (but : Int) : Blk := .cells [.d (.sl (w.slips.map Slip.d)), .d (.int .i64 w.hides), .d (.int .i64 w.drops), .d (.sl (l.map Wgh.d)), .d (.int .i64 but)]

theorem c94 {w : Works} (hok : w.Ok) {l : List Wgh} (hl : l.length ≤ 6) (hlo : ∀ a ∈ l, a.Ok w) {but : Nat} (hbut : but < 2 ^ 62) : PC prog 94 [.d (Wghs.mk w l but).d] (.tup [.d (.sl ((ozR w l but).map Sp.d)), .d (.bool (ozOk w l but))]) := by
  obtain ⟨l1, l2⟩ := hok.len
  refine PC.of_body tt_ok (fn := f94) (rs := [.tmp 2, .tmp 3]) rfl rfl rfl rfl rfl rfl ?_
  refine AWP.stepN 2 [(2, .ref 1 w.slips.length 0 w.slips.length), (1, .ptr 0 0)] [wghB w l but, .arr 2 false ((ozL w l but 0).map Sp.d)] (fun k => k == 2) tt_ok (fun _ h => nomatch h) (Nat.zero_le _) rfl ?_ ?_
  · simp only [go_sem, Wghs.d, List.length_map]
    refine ALoop.by (S := Nat) (fun i => [(14, .d (.int .i64 i)), (13, .d (.int .i64 w.slips.length)), (12, .d (.sl (w.slips.map Slip.d))), (2, .ref 1 i 0 i), (1, .ptr 0 0)])
      (fun i => [wghB w l but, .arr 2 (decide (i = 0)) ((List.range i).map fun s => (w.sl s).ounces.d)]) (fun i => w.slips.length - i) (fun i => i ≤ w.slips.length) 0 (Nat.zero_le _) (fun _ h => nomatch h) (Nat.zero_le _) ?_ ?_
    · exact ForgetTo.same' (Nat.zero_le _) (by simp [EWe, Env.look]) (by simp [wghB])
    rintro i hi hn
    refine AWP.run (fun k => k == 2) tt_ok (fun _ h => nomatch h) (Nat.zero_le _) rfl ?_
    simp only [go_sem, wghB]
    refine Br_split (fun hd => ?_) (fun hd => ?_) <;> simp only [go_sem, hd]
    · have hlt : i < w.slips.length := by simpa using hd
      have hat := Works.at hlt
      have hln : ((List.range i).map fun s => (w.sl s).ounces.d).length = i := by simp
      have hi1 : i + 1 ≤ 4294967296 := by omega
      have hst : (List.range (i + 1)).map (fun s => (w.sl s).ounces.d) = (List.range i).map (fun s => (w.sl s).ounces.d) ++ [(w.sl i).ounces.d] := by rw [List.range_succ, List.map_append]; rfl
      have hnx : IntKind.i64.wrap ((i : Int) + 1) = (i : Int) + 1 := w64 (by omega) (by omega)
      generalize ((List.range i).map fun s => (w.sl s).ounces.d) = M at *
      simp only [go_sem, hat, Slip.d, hln, hi1]
      refine ⟨i + 1, hlt, by omega, ?_⟩
      refine ForgetTo.drop (H0 := [_, _]) (Y := [_]) (Nat.zero_le _) ?_ (by simp [BBs, BB, VBs, VB, wghB]) ?_
      · rw [hst]; simp [wghB, Sp.d]
      · simp [EWp, Env.look, pubV, hnx]
    · have hne : i = w.slips.length := by simp only [decide_eq_false_iff_not] at hd; omega
      subst hne
      refine ForgetTo.same' (Nat.zero_le _) (by simp [EWe, Env.look]) ?_
      have h0 : ¬ w.slips.length = 0 := by omega
      simp [wghB, ozL, ozF, h0]
  · have hz : ∀ i, (ozL w l but i).length = w.slips.length := fun i => by simp [ozL]
    refine AWP.runS (fun k => k == 2) tt_ok (fun _ h => nomatch h) (Nat.zero_le _) rfl ?_
    simp only [go_sem, wghB, List.length_map]
    refine ALoop.by (S := Nat) (fun i => [(27, .d (.int .i64 i)), (26, .d (.int .i64 l.length)), (25, .d (.sl (l.map Wgh.d))), (2, .ref 1 w.slips.length 0 w.slips.length), (1, .ptr 0 0)])
      (fun i => [wghB w l but, .arr 2 false ((ozL w l but i).map Sp.d)]) (fun i => l.length - i) (fun i => i ≤ l.length ∧ ∀ s, s < w.slips.length → (ozF w l but s i).lo ≤ (ozF w l but s i).hi) 0 (Nat.zero_le _) (fun _ h => nomatch h) ⟨Nat.zero_le _, fun s hs => by have := (hok.sl s).ounces; simp only [ozF]; omega⟩ ?_ ?_
    · exact ForgetTo.same' (Nat.zero_le _) (by simp [EWe, Env.look]) (by simp [wghB])
    rintro i ⟨hi, hall⟩ hn
    refine AWP.run (fun k => k == 2) tt_ok (fun _ h => nomatch h) (Nat.zero_le _) rfl ?_
    simp only [go_sem, wghB]
    refine Br_split (fun hd => ?_) (fun hd => ?_) <;> simp only [go_sem, hd]
    · have hlt : i < l.length := by simpa using hd
      have hix : idx? (l.map Wgh.d) (i : Int) = some (l[i]).d := by simp [idx?, List.getElem?_eq_getElem hlt]
      have hnx : IntKind.i64.wrap ((i : Int) + 1) = (i : Int) + 1 := w64 (by omega) (by omega)
      have ha := hlo _ (List.getElem_mem hlt)
      have hgd : l.getD i wgh00 = l[i] := by simp [List.getD_eq_getElem?_getD, List.getElem?_eq_getElem hlt]
      have hbd := fun s => ozF_bnd hok hlo but s i hi
      have hstep : ∀ s, ozF w l but s (i + 1) = if but.testBit i = false ∧ (l[i]).slip = (s : Int) then ⟨max (ozF w l but s i).lo (((l[i]).used.lo + (l[i]).feet - 1).tdiv (l[i]).feet), min (ozF w l but s i).hi ((l[i]).used.hi.tdiv (l[i]).feet)⟩ else ozF w l but s i := fun s => by rw [ozF, hgd]
      generalize l[i] = a at *
      have hb63 : but < 2 ^ 63 := by omega
      simp only [go_sem, hix, Wgh.d, shrN but (show i < 64 by omega), and1N (shr_lt (p := i) hb63), bitN]
      refine Br_split (fun hb => ?_) (fun hb => ?_) <;> simp only [go_sem, hb]
      · have he : ∀ s, ozF w l but s (i + 1) = ozF w l but s i := fun s => by rw [hstep s, if_neg (by rw [hb]; simp)]
        have heL : ozL w l but (i + 1) = ozL w l but i := by simp only [ozL, he]
        refine ⟨i + 1, ⟨hlt, fun s hs => by rw [he s]; exact hall s hs⟩, by omega, ?_⟩
        refine ForgetTo.drop (H0 := [_, _]) (Y := [_]) (Nat.zero_le _) ?_ (by simp [BBs, BB, VBs, VB, wghB]) ?_
        · rw [heL]
        · simp [EWp, Env.look, pubV, hnx]
      · obtain ⟨s0, hs0⟩ : ∃ s0 : Nat, a.slip = (s0 : Int) := ⟨a.slip.toNat, by have := ha.s; omega⟩
        have hsl : s0 < w.slips.length := by have := ha.s; omega
        have hzi := hz i
        have hml : ((ozL w l but i).map Sp.d).length = w.slips.length := by simp [ozL]
        have hmg : ((ozL w l but i).map Sp.d)[s0]? = some (.agg [.int .i64 (ozF w l but s0 i).lo, .int .i64 (ozF w l but s0 i).hi]) := by simp [ozL, List.getElem?_range hsl, Sp.d]
        have h1 := tdiv_small (a := a.used.lo + a.feet - 1) (c := a.feet) (m := 20200) (by have := ha.u; have := ha.f; omega) (by have := ha.f; omega)
        have h2 := tdiv_small (a := a.used.hi) (c := a.feet) (m := 20000) (by have := ha.u; omega) (by have := ha.f; omega)
        have hfu := ha.u
        have hff := ha.f
        have hne : a.feet ≠ 0 := by omega
        have w1 : IntKind.i64.wrap (a.used.lo + a.feet) = a.used.lo + a.feet := w64 (by omega) (by omega)
        have w2 : IntKind.i64.wrap (a.used.lo + a.feet - 1) = a.used.lo + a.feet - 1 := w64 (by omega) (by omega)
        have w3 : IntKind.i64.wrap ((a.used.lo + a.feet - 1).tdiv a.feet) = (a.used.lo + a.feet - 1).tdiv a.feet := w64 (by omega) (by omega)
        have w4 : IntKind.i64.wrap (a.used.hi.tdiv a.feet) = a.used.hi.tdiv a.feet := w64 (by omega) (by omega)
        have hms : (ozL w l but (i + 1)).map Sp.d = ((ozL w l but i).map Sp.d).set s0 (.agg [.int .i64 (max (ozF w l but s0 i).lo ((a.used.lo + a.feet - 1).tdiv a.feet)), .int .i64 (min (ozF w l but s0 i).hi (a.used.hi.tdiv a.feet))]) := by
          refine List.ext_getElem (by simp [ozL]) fun q q1 q2 => ?_
          have q3 : q < w.slips.length := by simpa [ozL] using q1
          rw [List.getElem_set]
          by_cases hq : s0 = q
          · subst hq
            rw [if_pos rfl]
            simp [ozL, hstep, hb, hs0, Sp.d]
          · rw [if_neg hq]
            simp [ozL, hstep, hb, hs0, show ¬ (s0 : Int) = (q : Int) by omega]
        have hnew : ∀ s, s < w.slips.length → s ≠ s0 → ozF w l but s (i + 1) = ozF w l but s i := fun s _ hs => by
          rw [hstep s, if_neg (by rintro ⟨_, h⟩; omega)]
        have hnew0 : ozF w l but s0 (i + 1) = ⟨max (ozF w l but s0 i).lo ((a.used.lo + a.feet - 1).tdiv a.feet), min (ozF w l but s0 i).hi (a.used.hi.tdiv a.feet)⟩ := by rw [hstep s0, if_pos ⟨hb, hs0⟩]
        generalize (ozL w l but i).map Sp.d = M at *
        generalize ozF w l but s0 i = O at *
        have hq0 : (0 : Int) ≤ (s0 : Int) := by omega
        have hq1 : (s0 : Int) < w.slips.length := by omega
        have hsg : ∀ x : D, (M.set s0 x)[s0]? = some x := fun x => List.getElem?_set_self (by omega)
        simp only [go_sem, hs0, hml, hzi, hq0, hq1, Int.toNat_natCast]
        refine ADrw.treeG (fun k => k == 2) tt_ok (by kernel_rfl) (fun k => if k = 4 ∨ k = 7 ∨ k = 9 ∨ k = 13 then some .L else if k = 18 then some .W else some .S) (.ones [0, 1, 2, 3, 4, 5, 6, 7, 8, 9, 10, 11, 12, 13, 14, 15, 16, 17, 18] .done) (Nat.zero_le _) (fun _ h => nomatch h) rfl rfl (by kernel_rfl) ?_
        simp only [go_sem, hml, hmg, hq0, hq1, Int.toNat_natCast, Nat.mul_one, Nat.zero_add, w1, w2, w3, quoO_ne hne]
        refine ADrw.treeG (fun k => k == 2) tt_ok (by kernel_rfl) (fun k => if k = 4 ∨ k = 7 ∨ k = 9 then some .L else if k = 14 then some .W else some .S) (.ones [0, 1, 2, 3, 4, 5, 6, 7, 8, 9, 10, 11, 12, 13, 14] .done) (Nat.zero_le _) (fun _ h => nomatch h) rfl rfl (by kernel_rfl) ?_
        simp only [go_sem, hml, hsg, List.length_set, List.set_set, hq0, hq1, Int.toNat_natCast, Nat.mul_one, Nat.zero_add, w4, quoO_ne hne]
        refine ADrw.treeG (fun k => k == 2) tt_ok (by kernel_rfl) (fun k => if k = 3 ∨ k = 7 then some .L else some .S) (.ones [0, 1, 2, 3, 4, 5, 6, 7, 8] .done) (Nat.zero_le _) (fun _ h => nomatch h) rfl rfl (by kernel_rfl) ?_
        simp only [go_sem, hml, hsg, List.length_set, hq0, hq1, Int.toNat_natCast, Nat.mul_one, Nat.zero_add]
        refine Br_split (fun hf => ?_) (fun hf => ?_) <;> simp only [go_sem, hf]
        · have hF := ozOk_false (but := but) hsl (Nat.succ_le_of_lt hlt) (by rw [hnew0]; simp only [decide_eq_true_eq] at hf ⊢; omega)
          rw [ozR, hF]
          rfl
        · refine ⟨i + 1, ⟨hlt, fun s hs => ?_⟩, by omega, ?_⟩
          · by_cases h : s = s0
            · subst h
              rw [hnew0]
              simp only [decide_eq_false_iff_not] at hf ⊢
              omega
            · rw [hnew s hs h]; exact hall s hs
          · refine ForgetTo.drop (H0 := [_, _]) (Y := [_]) (Nat.zero_le _) ?_ (by simp [BBs, BB, VBs, VB, wghB]) ?_
            · simp [wghB, hms]
            · simp [EWp, Env.look, pubV, hnx]
    · have hne : i = l.length := by simp only [decide_eq_false_iff_not] at hd; omega
      subst hne
      have hT := ozOk_true hall
      have htk : ((ozL w l but l.length).map Sp.d).take w.slips.length = (ozL w l but l.length).map Sp.d := List.take_of_length_le (by simp [hz])
      simp only [go_sem, ozR, hT, if_true, hz, htk]
end Go.Aw
end

section
set_option maxRecDepth 100000
namespace Go.Aw
open Go Go.Proofs.Try

def toldP (w : Works) (l : List Wgh) : List Sp × Int := if wghE w l = 0 then (if ozOk w l 0 = true then (ozL w l 0 l.length, 0) else ([], 9)) else ([], wghE w l)

def toldV (w : Works) (l : List Wgh) : V := if (toldP w l).2 = 0 then .d (.sl ((toldP w l).1.map Sp.d)) else .slx (some true) []

theorem c37 (w : Works) (l : List Wgh) (hw : w.slips.length ≤ 4294967296) (hl : l.length ≤ 4294967296) : PC prog 37 [.d w.d, .d (.sl (l.map Wgh.d))] (.tup [toldV w l, .d (.int .i64 (toldP w l).2)]) := by
  refine PC.run (fun _ => false) tt_ok (fn := f37) (rs := [.tmp 4, .tmp 5]) rfl rfl rfl rfl rfl rfl rfl ?_
  simp only [go_sem, Works.d]
  refine (c93 w l hw hl).call rfl rfl rfl ?_
  simp only [go_sem, Wghs.d]
  refine Br_split (fun h1 => ?_) (fun h1 => ?_) <;> simp only [go_sem, h1]
  · have hc : ¬ wghE w l = 0 := by simpa using h1
    have hP : toldP w l = ([], wghE w l) := by rw [toldP, if_neg hc]
    rw [toldV, hP, if_neg hc]
  have hc : wghE w l = 0 := by simpa using h1
  obtain ⟨hok, hl6, hlo⟩ := wghE_ok hc
  have hP : wghP w l = ⟨w, l, 0⟩ := by rw [wghP, if_pos hc]
  rw [hP]
  refine (c94 hok hl6 hlo (but := 0) (by omega)).call rfl rfl rfl ?_
  simp only [go_sem]
  refine Br_split (fun h2 => ?_) (fun h2 => ?_) <;> simp only [go_sem, h2]
  · have h2' : ozOk w l 0 = false := by simpa using h2
    have hQ : toldP w l = ([], 9) := by rw [toldP, if_pos hc, if_neg (by rw [h2']; simp)]
    rw [toldV, hQ]
    rfl
  · have h2' : ozOk w l 0 = true := by simpa using h2
    have hQ : toldP w l = (ozL w l 0 l.length, 0) := by rw [toldP, if_pos hc, if_pos h2']
    rw [toldV, hQ, ozR, if_pos h2']
    rfl
end Go.Aw
end

section
set_option maxRecDepth 100000
namespace Go.Aw
open Go Go.Proofs.Try

/-- All sets of so many numbers from one on and below another one. -/
def setsF (below : Nat) : Nat → Nat → List (List Nat × Nat)
  | 0, _ => [([], 0)]
  | m + 1, first => (List.range (below - first)).flatMap fun j => (setsF below m (first + j + 1)).map fun p => ((first + j) :: p.1, p.2 ||| 2 ^ (first + j))

def lvN (l : List Nat) : V :=
  match l with
  | [] => .slx (some true) []
  | x :: r => .d (.sl (natsD (x :: r)))

theorem giv_lvN (H : Heap) (l : List Nat) : giv H (lvN l) = some (.sl (natsD l), H) := by cases l <;> rfl
def setI (p : List Nat × Nat) : List V := [lvN p.1, .d (.int .i64 p.2)]

def setV (first below many : Nat) : V := .fn (.func 118) [] [.pp [.int .i64 many], .pp [.int .i64 first], .pp [.int .i64 below]]

theorem c95 (first below many : Nat) : PC prog 95 [.d (.int .i64 first), .d (.int .i64 below), .d (.int .i64 many)] (setV first below many) := by
  refine PC.run (fun _ => false) tt_ok (fn := f95) (rs := [.tmp 6]) rfl rfl rfl rfl rfl rfl rfl ?_
  simp only [go_sem, setV]

theorem natsD_ints (l : List Nat) : natsD l = (l.map fun n : Nat => (n : Int)).map (.int .i64) := by simp [natsD]

theorem c119n (n : Nat) (l : List Nat) (hl : l.length ≤ 100) : PC prog 119 [.d (.sl [.sl [.int .i64 n], .sl (natsD l)])] (.d (.sl (natsD (n :: l)))) := by
  have := c119 n (l.map fun n : Nat => (n : Int)) (by simpa using hl)
  rw [natsD_ints, natsD_ints]
  exact this

theorem setsF_mem (below : Nat) : ∀ (m first : Nat), ∀ p ∈ setsF below m first, p.1.length = m ∧ p.2 < 2 ^ below
  | 0, first, p, hp => by
    simp only [setsF, List.mem_singleton] at hp
    subst hp
    exact ⟨rfl, Nat.two_pow_pos _⟩
  | m + 1, first, p, hp => by
    simp only [setsF, List.mem_flatMap, List.mem_range, List.mem_map] at hp
    obtain ⟨j, hj, q, hq, rfl⟩ := hp
    obtain ⟨h1, h2⟩ := setsF_mem below m _ q hq
    exact ⟨by simp [h1], Nat.or_lt_two_pow h2 (Nat.pow_lt_pow_right (by omega) (by omega))⟩

def nB (k : Nat) : Blk := .cells [.d (.int .i64 (k : Int))]
def gB (yv : V) (first k : Nat) : Heap := .cells [yv] :: (List.range k).map fun i => nB (first + i)
theorem gB_len (yv : V) (first k : Nat) : (gB yv first k).length = k + 1 := by simp [gB]
theorem gB_succ (yv : V) (first k : Nat) : gB yv first (k + 1) = gB yv first k ++ [nB (first + k)] := by simp [gB, List.range_succ]
theorem gB_BBs {yv : V} {m : Nat} (h : VB m yv = true) (first k : Nat) : BBs m (gB yv first k) := by
  induction k with
  | zero => simp only [gB, List.range_zero, List.map_nil, BBs, BB, VBs, h, Bool.and_true, and_true]
  | succ k ih =>
    rw [gB_succ]
    exact BBs_append ih (by simp [BBs, BB, VBs, VB, nB])

theorem c118 {below : Nat} (hb : below ≤ 60) : ∀ (m first : Nat), m ≤ 60 → Iter prog (setV first below m) ((setsF below m first).map setI) := by
  intro m
  induction m with
  | zero =>
    intro first _ yv n I Q hf hyv hI hy hend H hH
    have hHl := (hI _ _ hH).1
    have hHb := (hI _ _ hH).2
    obtain ⟨f, x, y, rfl⟩ := hf
    refine ACallV.of rfl ?_
    refine ACalls.run (fun _ => false) tt_ok (fn := f118) (rs := []) rfl rfl rfl rfl rfl rfl rfl ?_
    simp only [go_sem, hHl, hy0 hHl]
    refine (yield_frame hyv hI hy (r := []) [.cells [.fn f x y]] rfl hH).mono ?_
    rintro v H' ⟨H1, rfl, k1, k2, k3⟩
    have hq : Q (.tup []) H1 := by
      rcases k3 with ⟨_, k3⟩ | ⟨_, k3⟩
      · exact hend _ k3
      · exact k3
    simp only [go_sem, hHl, htk k1]
    exact ⟨.inr k2, hq⟩
  | succ m ih =>
    intro first hm yv n I Q hf hyv hI hy hend H hH
    have hHl := (hI _ _ hH).1
    have hHb := (hI _ _ hH).2
    obtain ⟨f, x, y, rfl⟩ := hf
    refine ACallV.of rfl ?_
    refine ACalls.run (fun _ => false) tt_ok (fn := f118) (rs := []) rfl rfl rfl rfl rfl rfl rfl ?_
    have d0 : decide (((m + 1 : Nat) : Int) = 0) = false := by simp only [decide_eq_false_iff_not]; omega
    have hml : ∀ p ∈ setsF below (m + 1) first, p.1.length = m + 1 ∧ p.2 < 2 ^ below := setsF_mem below (m + 1) first
    simp only [go_sem, hHl, hy0 hHl, hy1 hHl, hs1 hHl, hyl hHl, List.append_assoc, d0]
    refine ALoop.by (S := Nat × Heap) (fun s => [(5, .ptr (n + (s.1 + 1)) 0), (4, .ptr n 0), (3, .pp [.int .i64 below]), (1, .pp [.int .i64 ((m + 1 : Nat) : Int)])])
      (fun s => (s.2 ++ gB (.fn f x y) first s.1) ++ [nB (first + s.1)]) (fun s => below - first - s.1)
      (fun s => s.1 ≤ below - first ∧ I ((((List.range (below - first)).drop s.1).flatMap fun j => (setsF below m (first + j + 1)).map fun p => ((first + j) :: p.1, p.2 ||| 2 ^ (first + j))).map setI) s.2) (0, H) (by simp) (fun _ h => nomatch h) ⟨Nat.zero_le _, hH⟩ ?_ ?_
    · exact ForgetTo.same' (by simp) (by simp [EWe, Env.look]) (by simp [gB, nB])
    rintro ⟨k, Hc⟩ ⟨hk, hI0⟩ hn'
    dsimp only at hk hI0 hn' ⊢
    have hcl := (hI _ _ hI0).1
    have hcb := (hI _ _ hI0).2
    have gl := gB_len (.fn f x y) first k
    have hGl : ∀ H1 : Heap, H1.length = n → (H1 ++ gB (.fn f x y) first k).length = n + (k + 1) := fun H1 h => by rw [List.length_append, h, gl]
    have hGA : ∀ H1 : Heap, H1.length = n → ∀ Y, ((H1 ++ gB (.fn f x y) first k) ++ Y)[n]? = some (.cells [.fn f x y]) := fun H1 h Y => by
      rw [List.append_assoc, List.getElem?_append_right (by omega), h, Nat.sub_self]; rfl
    have hGb : ∀ H1 : Heap, H1.length = n → BBs n H1 → BBs (n + (k + 1)) (H1 ++ gB (.fn f x y) first k) := fun H1 h1 h2 =>
      BBs_append (BBs_le (by omega) h2) (gB_BBs (VB_le (by omega) _ hyv) _ _)
    have hGt : ∀ H1 : Heap, H1.length = n → ∀ Y, ((H1 ++ gB (.fn f x y) first k) ++ Y).take n = H1 := fun H1 h Y => by
      rw [List.append_assoc, ← h, List.take_left]
    refine AWP.run (fun _ => false) tt_ok (fun _ h => nomatch h) (by rw [List.length_append, hGl Hc hcl]; omega) rfl ?_
    simp only [go_sem, nB, hy0 (hGl Hc hcl)]
    refine Br_split (fun hd => ?_) (fun hd => ?_) <;> simp only [go_sem, hd, hy0 (hGl Hc hcl)]
    · have hlt : first + k < below := by simp only [decide_eq_true_eq] at hd; omega
      have w1 : IntKind.i64.wrap (((first + k : Nat) : Int) + 1) = ((first + k + 1 : Nat) : Int) := by rw [w64 (by omega) (by omega)]; omega
      have w2 : IntKind.i64.wrap (((m + 1 : Nat) : Int) - 1) = (m : Int) := by rw [w64 (by omega) (by omega)]; omega
      simp only [go_sem, w1, w2]
      refine (c95 (first + k + 1) below m).call rfl rfl rfl ?_
      simp only [go_sem]
      rw [List.drop_eq_getElem_cons (by simp; omega), List.flatMap_cons, List.map_append, List.getElem_range] at hI0
      generalize hrem : (((List.range (below - first)).drop (k + 1)).flatMap fun j => (setsF below m (first + j + 1)).map fun p => ((first + j) :: p.1, p.2 ||| 2 ^ (first + j))).map setI = rem at hI0
      have hYB : ∀ H1 : Heap, H1.length = n → BBs n H1 → BBs (n + (k + 1) + 1) ((H1 ++ gB (.fn f x y) first k) ++ [nB (first + k)]) := fun H1 h1 h2 =>
        BBs_append (BBs_le (by omega) (hGb H1 h1 h2)) (by simp [BBs, BB, VBs, VB, nB])
      have hpw : 2 ^ (first + k) < 2 ^ 62 := Nat.pow_lt_pow_right (by omega) (by omega)
      refine ARng.iterN (items := (setsF below m (first + k + 1)).map setI) (J := fun rest Hx => ∃ (H1 : Heap) (q : List (List Nat × Nat)), Hx = (H1 ++ gB (.fn f x y) first k) ++ [nB (first + k)] ∧ rest = q.map setI ∧ (∀ p ∈ q, p ∈ setsF below m (first + k + 1)) ∧ I ((q.map fun p => setI ((first + k) :: p.1, p.2 ||| 2 ^ (first + k))) ++ rem) H1)
        (by simp; omega) (fun _ h => nomatch h) rfl (ih (first + k + 1) (by omega)) rfl (by simp [VBs, VB, setV, hcl, gl]) ?_ ?_ ?_ ?_ ?_
      · rintro rest Hx ⟨H1, q, rfl, _, _, h1⟩
        obtain ⟨k1, k2⟩ := hI _ _ h1
        simp only [hyl (hGl H1 k1), hyl (hGl Hc hcl), List.length_cons, List.length_nil]
        exact ⟨trivial, hYB H1 k1 k2⟩
      · exact ⟨Hc, _, rfl, rfl, fun _ h => h, by rw [List.map_map] at hI0; exact hI0⟩
      · rintro Hx ⟨H1, q, rfl, hq, _, h1⟩
        obtain ⟨k1, k2⟩ := hI _ _ h1
        obtain rfl : q = [] := by simpa using hq.symm
        rw [List.map_nil, List.nil_append] at h1
        have hgl1 := hGl H1 k1
        have hbb1 := hYB H1 k1 k2
        have hs2 : (H1 ++ gB (.fn f x y) first (k + 1)) ++ [nB (first + (k + 1))] = (H1 ++ gB (.fn f x y) first k) ++ [nB (first + k), nB (first + (k + 1))] := by rw [gB_succ]; simp
        have w3 : IntKind.i64.wrap (((first + k : Nat) : Int) + 1) = ((first + (k + 1) : Nat) : Int) := w1
        obtain ⟨G1, hG1⟩ : ∃ G, G = H1 ++ gB (.fn f x y) first k := ⟨_, rfl⟩
        rw [← hG1] at hgl1 hbb1 hs2 ⊢
        simp only [go_sem, nB, hy0 hgl1, hy1 hgl1, hs1 hgl1, hyl hgl1, List.append_assoc, w3]
        refine ⟨(k + 1, H1), ⟨by dsimp only; omega, by dsimp only; rw [hrem]; exact h1⟩, by dsimp only; omega, ?_⟩
        dsimp only
        simp only [nB, List.append_assoc] at hs2
        rw [hs2]
        exact ForgetTo.same' (by simp [hgl1]; omega) (by simp [EWe, Env.look]; omega) (by simp [nB])
      · intro xs hxs
        obtain ⟨p, _, rfl⟩ := List.mem_map.1 hxs
        rfl
      · rintro L L' xs rest' Hx hbL hxs ⟨H1, q, rfl, hq, hqm, h1⟩
        obtain ⟨p, q', rfl⟩ : ∃ p q', q = p :: q' := by cases q with
          | nil => cases hq
          | cons p r => exact ⟨p, r, rfl⟩
        obtain ⟨rfl, rfl⟩ : xs = setI p ∧ rest' = q'.map setI := by simpa using hq
        obtain ⟨k1, k2⟩ := hI _ _ h1
        have hLc : (Hc ++ gB (.fn f x y) first k ++ [Blk.cells [.d (.int .i64 ((first + k : Nat) : Int))]]).length = n + (k + 1) + 1 := by rw [List.length_append, hGl Hc hcl]; rfl
        have hgl1 := hGl H1 k1
        have hgA := hGA H1 k1
        obtain ⟨G1, hG1⟩ : ∃ G, G = H1 ++ gB (.fn f x y) first k := ⟨_, rfl⟩
        have hYB1 := hYB H1 k1 k2
        rw [← hG1] at hgl1 hgA hYB1 ⊢
        rw [hLc] at hbL ⊢
        refine AWP.run (fun _ => false) tt_ok (fun _ h => by cases h; simp) (by simp [hgl1]) rfl ?_
        simp only [go_sem, setI, nB, hyl hgl1, hy0 hgl1, hy1 hgl1, hs1 hgl1, List.append_assoc]
        refine AWP.run (fun _ => false) tt_ok (fun _ h => by cases h; simp) (by simp [hgl1]) rfl ?_
        simp only [go_sem]
        refine ADrw.treeG (fun _ => false) tt_ok (by kernel_rfl) (fun k => if k = 10 then none else if k = 0 ∨ k = 1 ∨ k = 7 then some .L else some .S) (.ones [0, 1, 2, 3, 4, 5, 6, 7, 8, 9] (.only 10 (.one 11 .done))) (by simp [hgl1]) (fun _ h => by cases h; simp) rfl rfl (by kernel_rfl) ?_
        simp only [go_sem, giv_lvN, hgA, hyl hgl1, hy0 hgl1, hy1 hgl1, hs1 hgl1, List.append_assoc]
        have hpm := hqm p List.mem_cons_self
        obtain ⟨hpl, hpb⟩ := setsF_mem below m _ p hpm
        have hp62 : p.2 < 2 ^ 62 := Nat.lt_of_lt_of_le hpb (Nat.pow_le_pow_right (by omega) (by omega))
        have hor : orI .i64 (p.2 : Nat) ((2 ^ (first + k) : Nat) : Int) = ((p.2 ||| 2 ^ (first + k) : Nat) : Int) := orN (by omega) (by omega)
        refine (c119n (first + k) p.1 (by omega)).callS rfl rfl rfl rfl rfl rfl ?_
        simp only [go_sem, giv_lvN, hgA, hyl hgl1, hy0 hgl1, hy1 hgl1, hs1 hgl1, List.append_assoc, shlN (show first + k < 63 by omega), hor]
        rw [List.map_cons, List.cons_append] at h1
        rw [hG1, List.append_assoc]
        refine (yield_frame hyv hI hy (r := (q'.map fun p => setI ((first + k) :: p.1, p.2 ||| 2 ^ (first + k))) ++ rem) (gB (.fn f x y) first k ++ [nB (first + k), L']) rfl h1).mono ?_
        rintro v H' ⟨H2, rfl, m1, m2, hv⟩
        have hgl2 := hGl H2 m1
        have hYB2 := hYB H2 m1 m2
        have hq2 := hGt H2 m1
        obtain ⟨G2, hG2⟩ : ∃ G, G = H2 ++ gB (.fn f x y) first k := ⟨_, rfl⟩
        rw [← List.append_assoc, ← hG2]
        rw [← hG2] at hgl2 hYB2 hq2
        have ht2 : (G2 ++ [nB (first + k), L']).take (n + (k + 1) + 1) = G2 ++ [nB (first + k)] := by
          rw [← hgl2, List.take_append, List.take_of_length_le (by omega)]; simp
        rcases hv with ⟨rfl, m3⟩ | ⟨rfl, m3⟩
        · simp only [go_sem, hy1 hgl2, ht2]
          exact ⟨hYB2, H2, q', by rw [hG2, List.append_assoc]; rfl, rfl, fun q hq => hqm q (List.mem_cons_of_mem _ hq), m3⟩
        · simp only [go_sem, hy1 hgl2, ht2]
          rw [hHl, hq2]
          exact ⟨hYB2, .inr m2, m3⟩
    · have hke : k = below - first := by simp only [decide_eq_false_iff_not] at hd; omega
      rw [List.drop_eq_nil_of_le (by simp; omega)] at hI0
      simp only [go_sem, hHl, hGt Hc hcl]
      exact ⟨.inr hcb, hend _ hI0⟩
end Go.Aw
end

section
set_option maxRecDepth 100000
namespace Go.Aw
open Go Go.Proofs.Try

theorem setsF_all (below : Nat) : ∀ (m first : Nat), first + m ≤ below → ∃ p ∈ setsF below m first, ∀ i, first ≤ i → i < first + m → p.2.testBit i = true
  | 0, first, _ => ⟨([], 0), by simp [setsF], fun i h1 h2 => by omega⟩
  | m + 1, first, h => by
    obtain ⟨p, hp, hb⟩ := setsF_all below m (first + 1) (by omega)
    refine ⟨(first :: p.1, p.2 ||| 2 ^ first), ?_, fun i h1 h2 => ?_⟩
    · simp only [setsF, List.mem_flatMap, List.mem_range, List.mem_map]
      exact ⟨0, by omega, p, by simpa using hp, by simp⟩
    · by_cases hi : i = first
      · subst hi
        simp [Nat.testBit_or, Nat.testBit_two_pow]
      · rw [Nat.testBit_or, hb i (by omega) (by omega), Bool.true_or]

theorem ozF_none {w : Works} {l : List Wgh} {but : Nat} (s : Nat) : ∀ i, (∀ k, k < i → but.testBit k = true) → ozF w l but s i = (w.sl s).ounces
  | 0, _ => rfl
  | i + 1, h => by
    rw [ozF, if_neg (by rw [h i (by omega)]; simp)]
    exact ozF_none s i fun k hk => h k (by omega)

theorem ozOk_none {w : Works} (hok : w.Ok) {l : List Wgh} {but : Nat} (h : ∀ k, k < l.length → but.testBit k = true) : ozOk w l but = true :=
  ozOk_true fun s _ => by rw [ozF_none s _ h]; exact (hok.sl s).ounces.2.1

def wrongF (w : Works) (l : List Wgh) : Option (List Nat × Nat) := ((List.range (l.length + 1)).flatMap fun m => setsF l.length m 0).find? fun p => ozOk w l p.2

def wrongP (w : Works) (l : List Wgh) : List Nat × Int := if wghE w l = 0 then (if ozOk w l 0 = true then ([], 6) else (match wrongF w l with | none => ([], 0) | some p => (p.1, 0))) else ([], wghE w l)

def wrongV (w : Works) (l : List Wgh) : V := if (wrongP w l).2 = 0 then .d (.sl (natsD (wrongP w l).1)) else .slx (some true) []

/-- The heap of Wrong. -/
def hG (w : Works) (l : List Wgh) (but : Nat) (v : V) (e : Int) : Heap := [wrkB w, .cells [v], .cells [.d (.int .i64 e)], wghB w l but]

theorem c38 (w : Works) (l : List Wgh) (hw : w.slips.length ≤ 4294967296) (hl : l.length ≤ 4294967296) : PC prog 38 [.d w.d, .d (.sl (l.map Wgh.d))] (.tup [wrongV w l, .d (.int .i64 (wrongP w l).2)]) := by
  refine PC.run (fun _ => false) tt_ok (fn := f38) (rs := [.cell 4 25, .cell 5 28]) rfl rfl rfl rfl rfl rfl rfl ?_
  simp only [go_sem, Works.d]
  refine (c93 w l hw hl).call rfl rfl rfl ?_
  simp only [go_sem, Works.d, Wghs.d]
  refine Br_split (fun h1 => ?_) (fun h1 => ?_) <;> simp only [go_sem, h1]
  · have hc : ¬ wghE w l = 0 := by simpa using h1
    have hP : wrongP w l = ([], wghE w l) := by rw [wrongP, if_neg hc]
    rw [wrongV, hP, if_neg hc]
  have hc : wghE w l = 0 := by simpa using h1
  obtain ⟨hok, hl6, hlo⟩ := wghE_ok hc
  have hP : wghP w l = ⟨w, l, 0⟩ := by rw [wghP, if_pos hc]
  rw [hP]
  refine (c94 hok hl6 hlo (but := 0) (by omega)).call rfl rfl rfl ?_
  simp only [go_sem]
  refine Br_split (fun h2 => ?_) (fun h2 => ?_) <;> simp only [go_sem, h2]
  · have hQ : wrongP w l = ([], 6) := by rw [wrongP, if_pos hc, if_pos h2]
    rw [wrongV, hQ]
    rfl
  have h2' : ¬ ozOk w l 0 = true := by rw [h2]; simp
  have hQ : wrongP w l = (match wrongF w l with | none => ([], 0) | some p => (p.1, 0)) := by rw [wrongP, if_pos hc, if_neg h2']
  have hpos : 0 < l.length := by
    rcases Nat.eq_zero_or_pos l.length with h | h
    · exact absurd (ozOk_none hok (but := 0) fun k hk => by omega) h2'
    · exact h
  refine ALoop.by (S := Nat × Nat) (fun s => [(10, .d (.int .i64 s.1)), (6, .ptr 3 0), (5, .ptr 2 0), (4, .ptr 1 0), (1, .d (.sl (l.map Wgh.d)))])
    (fun s => hG w l s.2 (.slx (some true) []) 0) (fun s => l.length + 1 - s.1)
    (fun s => (1 ≤ s.1 ∧ s.1 ≤ l.length) ∧ wrongF w l = (((List.range (l.length + 1)).drop s.1).flatMap fun m => setsF l.length m 0).find? fun p => ozOk w l p.2) (1, 0) (by simp) (fun _ h => nomatch h) ⟨⟨by simp, hpos⟩, ?_⟩ ?_ ?_
  · rw [wrongF, List.range_succ_eq_map]
    simp [setsF, h2]
  · exact ForgetTo.same' (by simp) (by simp [EWe, Env.look]) (by simp [hG, wrkB, wghB])
  rintro ⟨many, but⟩ ⟨⟨hm1, hm2⟩, hfst⟩ hn'
  dsimp only at hm1 hm2 hfst hn' ⊢
  refine AWP.run (fun _ => false) tt_ok (fun _ h => nomatch h) (by simp) rfl ?_
  simp only [go_sem, hG, List.length_map]
  refine (c95 0 l.length many).call rfl rfl rfl ?_
  simp only [go_sem]
  rw [List.drop_eq_getElem_cons (by simp; omega), List.flatMap_cons, List.find?_append, List.getElem_range] at hfst
  refine ARng.iterN (items := (setsF l.length many 0).map setI) (J := fun rest Hx => ∃ (but : Nat) (pre : List (List Nat × Nat)), Hx = hG w l but (.slx (some true) []) 0 ∧ rest = pre.map setI ∧ (∀ p ∈ pre, p ∈ setsF l.length many 0) ∧ (setsF l.length many 0).find? (fun p => ozOk w l p.2) = pre.find? (fun p => ozOk w l p.2))
    (by simp) (fun _ h => nomatch h) rfl (c118 (by omega) many 0 (by omega)) rfl (by simp [VBs, VB, setV]) ?_ ?_ ?_ ?_ ?_
  · rintro rest Hx ⟨b1, pre, rfl, _, _, _⟩
    exact ⟨rfl, by simp [hG, BBs, BB, VBs, VB, wrkB, wghB]⟩
  · exact ⟨but, _, by simp [hG], rfl, fun _ h => h, rfl⟩
  · rintro Hx ⟨b1, pre, rfl, hp, _, hf1⟩
    obtain rfl : pre = [] := by simpa using hp.symm
    simp only [go_sem]
    have hml : many + 1 ≤ l.length := by
      rcases Nat.lt_or_ge many l.length with h | h
      · exact h
      · have he : many = l.length := by omega
        subst he
        obtain ⟨p, hp1, hp2⟩ := setsF_all l.length l.length 0 (by omega)
        have := List.find?_eq_none.1 hf1 p hp1
        exact absurd (ozOk_none (w := w) (l := l) (but := p.2) hok fun k hk => hp2 k (by omega) (by omega)) (by simpa using this)
    refine ⟨(many + 1, b1), ⟨⟨by simp, hml⟩, ?_⟩, by dsimp only; omega, ?_⟩
    · rw [hfst, hf1, List.find?_nil, Option.none_or, List.range_succ]
    · exact ForgetTo.same' (Nat.zero_le _) (by simp [EWe, Env.look]; rw [w64 (by omega) (by omega)]) rfl
  · intro xs hxs
    obtain ⟨p, _, rfl⟩ := List.mem_map.1 hxs
    rfl
  · rintro L L' xs rest Hx hbL hxs ⟨b1, pre, rfl, hp, hpm, hf1⟩
    obtain ⟨p, rest', rfl⟩ : ∃ p rest', pre = p :: rest' := by cases pre with
      | nil => cases hp
      | cons p r => exact ⟨p, r, rfl⟩
    obtain ⟨rfl, rfl⟩ : xs = setI p ∧ rest = rest'.map setI := by simpa using hp
    refine AWP.run (fun _ => false) tt_ok (fun _ h => by cases h; simp) (by simp [hG]) rfl ?_
    simp only [go_sem, setI, hG]
    refine AWP.run (fun _ => false) tt_ok (fun _ h => by cases h; simp) (by simp) rfl ?_
    simp only [go_sem, wghB]
    have hpl := setsF_mem l.length many 0 p (hpm p List.mem_cons_self)
    have hp62 : p.2 < 2 ^ 62 := Nat.lt_of_lt_of_le hpl.2 (Nat.pow_le_pow_right (by omega) (by omega))
    refine (c94 hok hl6 hlo (but := p.2) hp62).call rfl rfl rfl ?_
    simp only [go_sem]
    refine Br_split (fun h3 => ?_) (fun h3 => ?_) <;> simp only [go_sem, h3]
    · rw [List.find?_cons_of_pos (by exact h3)] at hf1
      rw [hf1] at hfst
      have hlv : lvN p.1 = .d (.sl (natsD p.1)) := by
        obtain ⟨x, r, hx⟩ : ∃ x r, p.1 = x :: r := List.exists_cons_of_ne_nil fun e => by have := hpl.1; rw [e] at this; simp at this; omega
        simp [hx, lvN]
      have hW : wrongP w l = (p.1, 0) := by rw [hQ, hfst]; rfl
      simp only [go_sem, hlv]
      refine ⟨by simp [BB, VBs, VB, wrkB], ?_⟩
      rw [wrongV, hW]
      rfl
    · rw [List.find?_cons_of_neg (by rw [h3]; simp)] at hf1
      exact ⟨by simp [BB, VBs, VB, wrkB], p.2, rest', rfl, rfl, fun q hq => hpm q (List.mem_cons_of_mem _ hq), hf1⟩
end Go.Aw
end

section
set_option maxRecDepth 100000
namespace Go.Aw
open Go Go.Proofs.Try

/-- All truths that begin with some. -/
def trL (w : Works) : Nat → List Int → List (List Int)
  | 0, l => [l]
  | r + 1, l => (List.range ((w.sl l.length).thick.hi - (w.sl l.length).thick.lo + 1).toNat).flatMap fun (k : Nat) => trL w r (l ++ [(w.sl l.length).thick.lo + (k : Int)])

def lF (l : List Int) (k : Int) : Int := l.getD k.toNat 0

def thrI (l : List Int) : List V := [.d (cntD (lF l))]

theorem lF_splice (l : List Int) (a b : Int) {q : Nat} (hq : q = l.length) (h : q < 4) (c : List Int) (hc : c = l ∨ c = l ++ [a]) :
    List.take q [V.d (.int .i64 (lF c 0)), .d (.int .i64 (lF c 1)), .d (.int .i64 (lF c 2)), .d (.int .i64 (lF c 3))] ++ V.d (.int .i64 b) :: List.drop q [V.d (.int .i64 (lF c 1)), .d (.int .i64 (lF c 2)), .d (.int .i64 (lF c 3))] =
    [V.d (.int .i64 (lF (l ++ [b]) 0)), .d (.int .i64 (lF (l ++ [b]) 1)), .d (.int .i64 (lF (l ++ [b]) 2)), .d (.int .i64 (lF (l ++ [b]) 3))] := by
  have key : ∀ k : Nat, k ≠ q → lF c (k : Int) = lF (l ++ [b]) (k : Int) := fun k hk => by
    simp only [lF, Int.toNat_natCast, List.getD_eq_getElem?_getD]
    congr 1
    rcases hc with hc | hc <;> rw [hc]
    · rcases Nat.lt_or_ge k l.length with h1 | h1
      · rw [List.getElem?_append_left h1]
      · rw [List.getElem?_eq_none h1, List.getElem?_eq_none (by simp; omega)]
    · rcases Nat.lt_or_ge k l.length with h1 | h1
      · rw [List.getElem?_append_left h1, List.getElem?_append_left h1]
      · rw [List.getElem?_eq_none (by simp; omega), List.getElem?_eq_none (by simp; omega)]
  have kq : lF (l ++ [b]) (q : Int) = b := by
    subst hq
    simp [lF]
  have h4 : q = 0 ∨ q = 1 ∨ q = 2 ∨ q = 3 := by omega
  rcases h4 with h4 | h4 | h4 | h4 <;> rw [h4] at kq key ⊢
  · have k1 := key 1 (by omega); have k2 := key 2 (by omega); have k3 := key 3 (by omega)
    simp at k1 k2 k3 kq
    simp [k1, k2, k3, kq]
  · have k1 := key 0 (by omega); have k2 := key 2 (by omega); have k3 := key 3 (by omega)
    simp at k1 k2 k3 kq
    simp [k1, k2, k3, kq]
  · have k1 := key 0 (by omega); have k2 := key 1 (by omega); have k3 := key 3 (by omega)
    simp at k1 k2 k3 kq
    simp [k1, k2, k3, kq]
  · have k1 := key 0 (by omega); have k2 := key 1 (by omega); have k3 := key 2 (by omega)
    simp at k1 k2 k3 kq
    simp [k1, k2, k3, kq]

theorem hy3 {n : Nat} {Hs : Heap} (hn : Hs.length = n) (Y : Heap) : (Hs ++ Y)[n + 3]? = Y[3]? := by rw [List.getElem?_append_right (by omega), hn]; congr 1; omega
theorem hs3 {n : Nat} {Hs : Heap} (hn : Hs.length = n) (Y : Heap) (X : Blk) : (Hs ++ Y).set (n + 3) X = Hs ++ Y.set 3 X := by rw [List.set_append_right _ _ (by omega), hn]; congr 2; omega

section
variable {yv : V} {n : Nat} {I : List (List V) → Heap → Prop} {Q : V → Heap → Prop} {w : Works}

def onW (n : Nat) : V := .fn (.func 121) [] [.ptr n 0, .ptr (n + 1) 0, .ptr (n + 2) 0]

def SPost (w : Works) (yv : V) (n : Nat) (I : List (List V) → Heap → Prop) (Q : V → Heap → Prop) (rest : List (List V)) (v : V) (H' : Heap) : Prop :=
  ∃ H1, H' = H1 ++ [wrkB w, .cells [yv], .cells [onW n]] ∧ H1.length = n ∧ BBs n H1 ∧ ((v = .d (.bool true) ∧ I rest H1) ∨ (v = .d (.bool false) ∧ Q (.tup []) H1))

theorem c121 (hok : w.Ok) (hf : ∃ f x y, yv = .fn f x y) (hyv : VB n yv = true) (hI : ∀ l H, I l H → H.length = n ∧ BBs n H)
    (hy : ∀ a r H, I (a :: r) H → ACallV prog yv a H (fun v H' => (v = .d (.bool true) ∧ I r H') ∨ (v = .d (.bool false) ∧ H'.length = n ∧ BBs n H' ∧ Q (.tup []) H'))) :
    ∀ (r : Nat) (l : List Int) (rest : List (List V)) (H : Heap), l.length + r = w.slips.length → I ((trL w r l).map thrI ++ rest) H →
      ACalls prog 121 [.d (cntD (lF l)), .d (.int .i64 l.length), .ptr n 0, .ptr (n + 1) 0, .ptr (n + 2) 0] (H ++ [wrkB w, .cells [yv], .cells [onW n]]) (SPost w yv n I Q rest) := by
  obtain ⟨f, x, y, rfl⟩ := hf
  obtain ⟨l1, l2⟩ := hok.len
  intro r
  induction r with
  | zero =>
    intro l rest H hl hi
    have hHl := (hI _ _ hi).1
    have hHb := (hI _ _ hi).2
    have d1 : decide ((l.length : Int) = w.slips.length) = true := by simp only [decide_eq_true_eq]; omega
    refine ACalls.run (fun _ => false) tt_ok (fn := f121) (rs := [.tmp 7]) rfl rfl rfl rfl rfl rfl rfl ?_
    have hYB : ∀ H1 : Heap, H1.length = n → BBs n H1 → BBs (n + 3) (H1 ++ [wrkB w, .cells [.fn f x y], .cells [onW n]]) := fun H1 h1 h2 =>
      BBs_append (BBs_le (by omega) h2) ⟨by simp [BB, VBs, VB, wrkB], by simp only [BB, VBs, Bool.and_true]; exact VB_le (by omega) _ hyv, by simp [BB, VBs, VB, onW], trivial⟩
    have ht : ∀ H1 : Heap, H1.length = n → ∀ a b c d : Blk, (H1 ++ [a, b, c, d]).take (n + 3) = H1 ++ [a, b, c] := fun H1 h1 a b c d => by
      rw [← h1, List.take_append, List.take_of_length_le (by omega)]; simp
    simp only [go_sem, cntD, wrkB, hyl hHl, hy0 hHl, hy1 hHl, hy2 hHl, hy3 hHl, List.append_assoc, List.length_map, d1]
    refine (yield_frame hyv hI hy (r := rest) [wrkB w, .cells [.fn f x y], .cells [onW n], cntB (lF l)] rfl hi).mono ?_
    rintro v H' ⟨H1, rfl, k1, k2, k3⟩
    rcases k3 with ⟨rfl, k3⟩ | ⟨rfl, k3⟩
    · simp only [go_sem, ht H1 k1]
      exact ⟨.inr (hYB H1 k1 k2), H1, rfl, k1, k2, .inl ⟨rfl, k3⟩⟩
    · simp only [go_sem, ht H1 k1]
      exact ⟨.inr (hYB H1 k1 k2), H1, rfl, k1, k2, .inr ⟨rfl, k3⟩⟩
  | succ r ih =>
    intro l rest H hl hi
    have hHl := (hI _ _ hi).1
    have hHb := (hI _ _ hi).2
    have hlt : l.length < w.slips.length := by omega
    have d1 : decide ((l.length : Int) = w.slips.length) = false := by simp only [decide_eq_false_iff_not]; omega
    have hat := Works.at hlt
    have hth := (hok.sl l.length).thick
    refine ACalls.run (fun _ => false) tt_ok (fn := f121) (rs := [.tmp 7]) rfl rfl rfl rfl rfl rfl rfl ?_
    have hYB : ∀ H1 : Heap, H1.length = n → BBs n H1 → BBs (n + 3) (H1 ++ [wrkB w, .cells [.fn f x y], .cells [onW n]]) := fun H1 h1 h2 =>
      BBs_append (BBs_le (by omega) h2) ⟨by simp [BB, VBs, VB, wrkB], by simp only [BB, VBs, Bool.and_true]; exact VB_le (by omega) _ hyv, by simp [BB, VBs, VB, onW], trivial⟩
    have ht : ∀ H1 : Heap, H1.length = n → ∀ a b c d : Blk, (H1 ++ [a, b, c, d]).take (n + 3) = H1 ++ [a, b, c] := fun H1 h1 a b c d => by
      rw [← h1, List.take_append, List.take_of_length_le (by omega)]; simp
    simp only [go_sem, cntD, wrkB, hyl hHl, hy0 hHl, hy1 hHl, hy2 hHl, hy3 hHl, List.append_assoc, List.length_map, d1, hat, Slip.d]
    simp only [trL] at hi
    obtain ⟨lo, hlo⟩ : ∃ lo, lo = (w.sl l.length).thick.lo := ⟨_, rfl⟩
    obtain ⟨hh, hhi⟩ : ∃ hh, hh = (w.sl l.length).thick.hi := ⟨_, rfl⟩
    rw [← hlo, ← hhi] at hth hi
    refine ALoop.by (S := Nat × Heap) (fun s => [(8, .d (.int .i64 (lo + s.1))), (5, .ptr (n + 3) 0), (4, .ptr (n + 2) 0), (3, .ptr (n + 1) 0), (2, .ptr n 0), (1, .d (.int .i64 l.length))])
      (fun s => s.2 ++ [wrkB w, .cells [.fn f x y], .cells [onW n], cntB (lF (if s.1 = 0 then l else l ++ [lo + s.1 - 1]))]) (fun s => (hh - lo + 1).toNat - s.1)
      (fun s => s.1 ≤ (hh - lo + 1).toNat ∧ I ((((List.range (hh - lo + 1).toNat).drop s.1).flatMap fun (k : Nat) => trL w r (l ++ [lo + (k : Int)])).map thrI ++ rest) s.2) (0, H) (by simp [hHl]) (fun _ h => nomatch h) ⟨Nat.zero_le _, hi⟩ ?_ ?_
    · exact ForgetTo.same' (by simp [hHl]) (by simp [EWe, Env.look, hlo]) (by simp [wrkB, cntB])
    rintro ⟨k, Hc⟩ ⟨hk, hI0⟩ hn2
    dsimp only at hk hI0 hn2 ⊢
    have hcl := (hI _ _ hI0).1
    have hcb := (hI _ _ hI0).2
    refine AWP.run (fun _ => false) tt_ok (fun _ h => nomatch h) (by simp [hcl]) rfl ?_
    simp only [go_sem, cntB, wrkB, hyl hcl, hy0 hcl, hy1 hcl, hy2 hcl, hy3 hcl, List.append_assoc, List.length_map, hat, Slip.d]
    rw [← hhi]
    refine Br_split (fun hd => ?_) (fun hd => ?_) <;> simp only [go_sem, hd]
    · have hkl : k < (hh - lo + 1).toNat := by simp only [decide_eq_true_eq] at hd; omega
      have c0 : (0 : Int) ≤ (l.length : Int) := by omega
      have c1 : (l.length : Int) < 4 := by omega
      have hsp := lF_splice l (lo + k - 1) (lo + k) rfl (by omega) (if k = 0 then l else l ++ [lo + (k : Int) - 1]) (by split <;> simp)
      have hq3 : l.length ≤ 3 := by omega
      have w1 : IntKind.i64.wrap ((l.length : Int) + 1) = ((l.length + 1 : Nat) : Int) := by rw [w64 (by omega) (by omega)]; omega
      have w2 : IntKind.i64.wrap (lo + (k : Int) + 1) = lo + ((k + 1 : Nat) : Int) := by rw [w64 (by omega) (by omega)]; omega
      generalize (if k = 0 then l else l ++ [lo + (k : Int) - 1]) = cc at *
      simp only [go_sem, c0, c1, Int.toNat_natCast, Nat.mul_one, Nat.zero_add, hq3, hsp, hyl hcl, hy0 hcl, hy1 hcl, hy2 hcl, hy3 hcl, hs3 hcl, List.append_assoc]
      rw [w1]
      rw [List.drop_eq_getElem_cons (by simpa using hkl), List.flatMap_cons, List.map_append, List.append_assoc, List.getElem_range] at hI0
      generalize hrem : (((List.range (hh - lo + 1).toNat).drop (k + 1)).flatMap fun (k : Nat) => trL w r (l ++ [lo + (k : Int)])).map thrI ++ rest = rem at hI0
      have hc := ih (l ++ [lo + (k : Int)]) rem Hc (by simp; omega) hI0
      have hlen1 : (l ++ [lo + (k : Int)]).length = l.length + 1 := by simp
      rw [hlen1] at hc
      have hBl : (Hc ++ [wrkB w, .cells [.fn f x y], .cells [onW n]]).length = n + 3 := by simp [hcl]
      have hfr := ACallV.frame (X := [cntB (lF (l ++ [lo + (k : Int)]))]) (f := onW n) (vs := [.d (cntD (lF (l ++ [lo + (k : Int)]))), .d (.int .i64 ((l.length + 1 : Nat) : Int))])
        (fun id b hb => by rw [hBl]; exact BBs_get (hYB Hc hcl hcb) id b hb) (by rw [hBl]; simp [VB, VBs, onW]) (by simp [VBs, VB]) (fun v H' ⟨H1, e1, e2, _⟩ => by rw [e1, hBl]; simp [e2]) (ACallV.of (x := []) rfl hc)
      rw [List.append_assoc] at hfr
      refine hfr.mono ?_
      rintro v H' ⟨H1, rfl, H2, rfl, k1, k2, k3⟩
      rcases k3 with ⟨rfl, k3⟩ | ⟨rfl, k3⟩
      · simp only [go_sem]
        refine ⟨(k + 1, H2), ⟨hkl, by dsimp only; rw [hrem]; exact k3⟩, by dsimp only; omega, ?_⟩
        dsimp only
        have hif : (if k + 1 = 0 then l else l ++ [lo + ((k + 1 : Nat) : Int) - 1]) = l ++ [lo + (k : Int)] := by
          rw [if_neg (by omega), show lo + ((k + 1 : Nat) : Int) - 1 = lo + (k : Int) by omega]
        rw [hif]
        exact ForgetTo.same' (by simp [k1]) (by simp [EWe, Env.look, w2]) (by simp [wrkB, cntB])
      · simp only [go_sem, List.append_assoc, List.cons_append, List.nil_append]
        rw [ht H2 k1]
        exact ⟨.inr (hYB H2 k1 k2), H2, rfl, k1, k2, .inr ⟨rfl, k3⟩⟩
    · have hke : k = (hh - lo + 1).toNat := by simp only [decide_eq_false_iff_not] at hd; omega
      subst hke
      rw [List.drop_eq_nil_of_le (by simp)] at hI0
      rw [ht Hc hcl]
      exact ⟨.inr (hYB Hc hcl hcb), Hc, rfl, hcl, hcb, .inl ⟨rfl, hI0⟩⟩
end

theorem c101 {w : Works} (hok : w.Ok) : Iter prog (.fn (.func 101) [.d w.d] []) ((trL w w.slips.length []).map thrI) := by
  intro yv n I Q hf hyv hI hy hend H hH
  have hHl := (hI _ _ hH).1
  have hHb := (hI _ _ hH).2
  have hf' := hf
  obtain ⟨f, x, y, rfl⟩ := hf'
  refine ACallV.of rfl ?_
  refine ACalls.run (fun _ => false) tt_ok (fn := f101) (rs := []) rfl rfl rfl rfl rfl rfl rfl ?_
  simp only [go_sem, Works.d, hyl hHl, hy0 hHl, hy1 hHl, hy2 hHl, hs2 hHl, List.append_assoc]
  rw [hHl]
  have hc := c121 hok hf hyv hI hy w.slips.length [] [] H (by simp) (by rw [List.append_nil]; exact hH)
  refine ACallV.of rfl (ACalls.dz (ACalls.mono hc ?_))
  rintro v H' ⟨H1, rfl, k1, k2, k3⟩
  have hq : Q (.tup []) H1 := by
    rcases k3 with ⟨_, k3⟩ | ⟨_, k3⟩
    · exact hend _ k3
    · exact k3
  simp only [go_sem, htk k1]
  exact ⟨.inr k2, hq⟩
end Go.Aw
end

section
set_option maxRecDepth 100000
namespace Go.Aw
open Go Go.Proofs.Try

structure Look where
  coats : List Int
  how : Int
deriving DecidableEq

def Look.d (a : Look) : D := .agg [.sl (a.coats.map (.int .i64)), .int .i64 a.how]

theorem enc_look : Enc 2 (Tt 83) Look.d := fun x => ⟨rfl, rfl⟩

def badLook (w : Works) (a : Look) : Bool := !coatsP w a.coats || decide (a.how < 1) || decide (3 < a.how)

theorem c99 {w : Works} (hw : w.slips.length ≤ 4294967296) {a : Look} (ha : a.coats.length ≤ 4294967296) {i : Nat} {H : Heap} {Q : V → Heap → Prop} (h0 : H[i]? = some (wrkB w)) (hbb : BBs H.length H) (h : Q (.d (.bool (badLook w a))) H) :
    ACalls prog 99 [.d a.d, .ptr i 0] H Q := by
  have hi := lt_of_getElem? h0
  simp only [wrkB] at h0
  have h0' : ∀ Y : Heap, (H ++ Y)[i]? = some (.cells [.d (.sl (w.slips.map Slip.d)), .d (.int .i64 w.hides), .d (.int .i64 w.drops)]) := fun Y => by rw [List.getElem?_append_left hi]; exact h0
  refine ACalls.run (fun _ => false) tt_ok (fn := f99) (rs := [.tmp 3]) rfl rfl rfl rfl rfl rfl rfl ?_
  have ht : ∀ Y : Blk, (H ++ [Y]).take H.length = H := fun Y => by rw [List.take_append_of_le_length (Nat.le_refl _), List.take_length]
  simp only [go_sem, Look.d, ap0, h0']
  refine (c71 w hw a.coats ha).call rfl rfl rfl ?_
  cases h1 : coatsP w a.coats with
  | false =>
    have hb : badLook w a = true := by rw [badLook, h1]; rfl
    simp only [go_sem]
    rw [hb] at h
    rw [ht]
    exact ⟨.inr hbb, h⟩
  | true =>
  have hb : badLook w a = (decide (a.how < 1) || decide (3 < a.how)) := by rw [badLook, h1]; rfl
  rw [hb] at h
  simp only [go_sem, ap0]
  cases h2 : decide (a.how < 1) with
  | true =>
    rw [h2] at h
    simp only [go_sem]
    rw [ht]
    exact ⟨.inr hbb, h⟩
  | false =>
    rw [h2] at h
    simp only [go_sem, ap0]
    rw [ht]
    exact ⟨.inr hbb, by simpa using h⟩

def lookE (w : Works) (l : List Look) : Int := if checkP w = 0 then (if l.length > 6 then 5 else if l.any (badLook w) = true then 2 else 0) else checkP w

theorem lookE_ok {w : Works} {l : List Look} (h : lookE w l = 0) : w.Ok ∧ l.length ≤ 6 ∧ ∀ a ∈ l, coatsP w a.coats = true := by
  unfold lookE at h
  split at h
  · rename_i h1
    split at h
    · omega
    rename_i h2
    split at h
    · omega
    rename_i h3
    refine ⟨checkP_iff.1 h1, by omega, fun a ha => ?_⟩
    have h4 : badLook w a = false := by
      rw [← Bool.not_eq_true]
      exact fun h => h3 (List.any_eq_true.2 ⟨a, ha, h⟩)
    simp only [badLook, Bool.or_eq_false_iff, Bool.not_eq_false'] at h4
    exact h4.1.1
  · omega

/-- How thick coats are in a truth. -/
def dotT (coats t : List Int) (n : Nat) : Int := ((List.range n).map fun s : Nat => cntF coats s * lF t s).sum

def fitsT (w : Works) (l : List Look) (t : List Int) : Bool := l.all fun a => decide (howF w (dotT a.coats t w.slips.length) = a.how)

def baseT (w : Works) (acc : List Sp) (t : List Int) : List Sp := if acc = [] then (List.range w.slips.length).map fun s : Nat => ⟨lF t s, lF t s⟩ else acc

def widT (w : Works) (base : List Sp) (t : List Int) (n : Nat) : List Sp := (List.range w.slips.length).map fun s : Nat => if s < n then ⟨min (base.getD s ⟨0, 0⟩).lo (lF t s), max (base.getD s ⟨0, 0⟩).hi (lF t s)⟩ else base.getD s ⟨0, 0⟩

def lookS (w : Works) (l : List Look) (acc : List Sp) (t : List Int) : List Sp := if fitsT w l t = true then widT w (baseT w acc t) t w.slips.length else acc

def lookL (w : Works) (l : List Look) : List Sp := (trL w w.slips.length []).foldl (lookS w l) []

def lookP (w : Works) (l : List Look) : List Sp × Int := if lookE w l = 0 then (if lookL w l = [] then ([], 9) else (lookL w l, 0)) else ([], lookE w l)

def lookV (w : Works) (l : List Look) : V := if (lookP w l).2 = 0 then .d (.sl ((lookP w l).1.map Sp.d)) else .slx (some true) []

def looksB (l : List Look) : Blk := .cells [.d (.sl (l.map Look.d))]
def coatsD (l : List Look) : List D := l.map fun a => cntD (cntF a.coats)

/-- The heap of Looks. -/
def hL (w : Works) (l : List Look) (acc : List Sp) : Heap := [wrkB w, looksB l, .cells [.ref 6 acc.length 0 acc.length], wrkB w, .cells [.ref 5 l.length 0 l.length], .arr 4 (decide (l.length = 0)) (coatsD l), .arr 2 (decide (acc.length = 0)) (acc.map Sp.d)]

theorem hL_BBs (w : Works) (l : List Look) (acc : List Sp) : BBs 7 (hL w l acc) := by simp [hL, BBs, BB, VBs, VB, wrkB, looksB]

theorem widT_len (w : Works) (base : List Sp) (t : List Int) (n : Nat) : (widT w base t n).length = w.slips.length := by simp [widT]

theorem widT_zero {w : Works} {base : List Sp} (h : base.length = w.slips.length) (t : List Int) : widT w base t 0 = base := by
  refine List.ext_getElem (by simp [widT, h]) fun i h1 h2 => ?_
  simp [widT, List.getD_eq_getElem?_getD, List.getElem?_eq_getElem h2]

theorem widT_succ {w : Works} (base : List Sp) (t : List Int) {s : Nat} (hs : s < w.slips.length) : widT w base t (s + 1) = (widT w base t s).set s ⟨min (base.getD s ⟨0, 0⟩).lo (lF t s), max (base.getD s ⟨0, 0⟩).hi (lF t s)⟩ := by
  refine List.ext_getElem (by simp [widT]) fun i h1 h2 => ?_
  rw [List.getElem_set]
  by_cases h : s = i
  · subst h
    rw [if_pos rfl]
    simp [widT]
  · rw [if_neg h]
    simp only [widT, List.getElem_map, List.getElem_range]
    by_cases h3 : i < s
    · rw [if_pos h3, if_pos (by omega)]
    · rw [if_neg h3, if_neg (by omega)]

theorem dotT_succ (c t : List Int) (n : Nat) : dotT c t (n + 1) = dotT c t n + cntF c n * lF t n := by
  simp [dotT, List.range_succ]

theorem trL_mem {w : Works} : ∀ (r : Nat) (l t : List Int), t ∈ trL w r l → t.length = l.length + r ∧ (∀ k, k < l.length → t[k]? = l[k]?) ∧ ∀ k, l.length ≤ k → k < l.length + r → (w.sl k).thick.lo ≤ lF t k ∧ lF t k ≤ (w.sl k).thick.hi
  | 0, l, t, h => by
    simp only [trL, List.mem_singleton] at h
    subst h
    exact ⟨rfl, fun _ _ => rfl, fun k h1 h2 => by omega⟩
  | r + 1, l, t, h => by
    simp only [trL, List.mem_flatMap, List.mem_range] at h
    obtain ⟨k, hk, ht⟩ := h
    obtain ⟨h1, h2, h3⟩ := trL_mem r _ t ht
    simp only [List.length_append, List.length_cons, List.length_nil] at h1 h2 h3
    refine ⟨by omega, fun j hj => ?_, fun j hj1 hj2 => ?_⟩
    · rw [h2 j (by omega), List.getElem?_append_left hj]
    · by_cases hjl : j = l.length
      · subst hjl
        have := h2 l.length (by omega)
        simp only [List.getElem?_append_right (Nat.le_refl _), Nat.sub_self, List.getElem?_cons_zero] at this
        simp only [lF, Int.toNat_natCast, List.getD_eq_getElem?_getD, this, Option.getD_some]
        omega
      · exact h3 j (by omega) (by omega)

theorem trL_bnd {w : Works} (hok : w.Ok) {t : List Int} (h : t ∈ trL w w.slips.length []) : t.length = w.slips.length ∧ ∀ k : Nat, 0 ≤ lF t k ∧ lF t k ≤ 60 := by
  obtain ⟨h1, _, h3⟩ := trL_mem _ _ _ h
  simp only [List.length_nil, Nat.zero_add] at h1 h3
  refine ⟨h1, fun k => ?_⟩
  rcases Nat.lt_or_ge k w.slips.length with hk | hk
  · have := h3 k (Nat.zero_le _) hk
    have := (hok.sl k).thick
    omega
  · simp only [lF, Int.toNat_natCast, List.getD_eq_getElem?_getD]
    rw [List.getElem?_eq_none (by omega)]
    simp

theorem cnt60 {c t : List Int} (hc : c.length ≤ 8) {n : Nat} (ht : ∀ k : Nat, 0 ≤ lF t k ∧ lF t k ≤ 60) : 0 ≤ cntF c n * lF t n ∧ cntF c n * lF t n ≤ 480 := by
  have h1 := cntF_le c n
  have h2 := ht n
  have h3 := Int.mul_le_mul (show cntF c n ≤ 8 by omega) h2.2 h2.1 (by omega)
  exact ⟨Int.mul_nonneg h1.1 h2.1, by omega⟩

theorem dotT_bnd {c t : List Int} (hc : c.length ≤ 8) (ht : ∀ k : Nat, 0 ≤ lF t k ∧ lF t k ≤ 60) : ∀ n, 0 ≤ dotT c t n ∧ dotT c t n ≤ 480 * n
  | 0 => by simp [dotT]
  | n + 1 => by
    have ih := dotT_bnd hc ht n
    have := cnt60 hc (n := n) ht
    rw [dotT_succ]
    omega

theorem c43 (w : Works) (l : List Look) (hw : w.slips.length ≤ 4294967296) (hl : l.length ≤ 4294967296) (hj : ∀ a ∈ l, a.coats.length ≤ 4294967296) : PC prog 43 [.d w.d, .d (.sl (l.map Look.d))] (.tup [lookV w l, .d (.int .i64 (lookP w l).2)]) := by
  refine PC.run (fun k => false) tt_ok (fn := f43) (rs := [.cell 4 46, .tmp 5]) rfl rfl rfl rfl rfl rfl rfl ?_
  simp only [go_sem, Works.d]
  refine (c70 w hw).call rfl rfl rfl ?_
  simp only [go_sem, Works.d]
  have bad : ∀ e : Int, lookE w l = e → e ≠ 0 → lookV w l = .slx (some true) [] ∧ (lookP w l).2 = e := fun e h h0 => by
    have hP : lookP w l = ([], e) := by rw [lookP, if_neg (by rw [h]; exact h0), h]
    rw [lookV, hP, if_neg h0]
    exact ⟨rfl, rfl⟩
  refine Br_split (fun h1 => ?_) (fun h1 => ?_) <;> simp only [go_sem, h1]
  · have hc : ¬ checkP w = 0 := by simpa using h1
    obtain ⟨b1, b2⟩ := bad (checkP w) (by rw [lookE, if_neg hc]) hc
    rw [b1, b2]
  have hc : checkP w = 0 := by simpa using h1
  have hok := checkP_iff.1 hc
  obtain ⟨l1, l2⟩ := hok.len
  simp only [go_sem, List.length_map]
  refine Br_split (fun h2 => ?_) (fun h2 => ?_) <;> simp only [go_sem, h2]
  · have h2' : l.length > 6 := by simp only [decide_eq_true_eq] at h2; omega
    obtain ⟨b1, b2⟩ := bad 5 (by rw [lookE, if_pos hc, if_pos h2']) (by omega)
    rw [b1, b2]
  have h2' : ¬ l.length > 6 := by simp only [decide_eq_false_iff_not] at h2; omega
  refine ACallV.of rfl (c100 enc_look l (by omega) 99 [] [.ptr 3 0] (badLook w) (fun x hx Q h => ACallV.of rfl (c99 hw (hj x hx) rfl (by simp [BBs, BB, VBs, VB]) h)) ?_)
  simp only [go_sem]
  refine Br_split (fun h3 => ?_) (fun h3 => ?_) <;> simp only [go_sem, h3]
  · obtain ⟨b1, b2⟩ := bad 2 (by rw [lookE, if_pos hc, if_neg h2', if_pos h3]) (by omega)
    rw [b1, b2]
  have hE : lookE w l = 0 := by rw [lookE, if_pos hc, if_neg h2', if_neg (by rw [h3]; simp)]
  obtain ⟨_, hl6, hlo⟩ := lookE_ok hE
  clear bad
  change AWP _ _ _ _ _ _ _ _
  refine AWP.nilrow 4 0 4 rfl rfl (Nat.zero_le _) ?_
  refine ALoop.by (S := Nat) (fun i => [(38, .d (.int .i64 i)), (37, .d (.int .i64 l.length)), (36, .d (.sl (l.map Look.d))), (8, .ptr 4 0), (6, .ptr 3 0), (4, .ptr 2 0), (3, .ptr 1 0)])
    (fun i => [wrkB w, looksB l, .cells [.slx (some true) []], wrkB w, .cells [.ref 5 i 0 i], .arr 4 (decide (i = 0)) (coatsD (l.take i))]) (fun i => l.length - i) (fun i => i ≤ l.length) 0 (Nat.zero_le _) (fun _ h => nomatch h) (Nat.zero_le _) ?_ ?_
  · exact ForgetTo.same' (Nat.zero_le _) (by simp [EWe, Env.look]) (by simp [wrkB, looksB, coatsD])
  rintro i hi hn
  refine AWP.run (fun k => false) tt_ok (fun _ h => nomatch h) (Nat.zero_le _) rfl ?_
  simp only [go_sem, wrkB]
  refine Br_split (fun hd => ?_) (fun hd => ?_) <;> simp only [go_sem, hd]
  · have hlt : i < l.length := by simpa using hd
    have hix : idx? (l.map Look.d) (i : Int) = some (l[i]).d := by simp [idx?, List.getElem?_eq_getElem hlt]
    have hcp := hlo _ (List.getElem_mem hlt)
    obtain ⟨hl8, hlm⟩ := coatsP_iff.1 hcp
    have hst : coatsD (l.take (i + 1)) = coatsD (l.take i) ++ [cntD (cntF l[i].coats)] := by rw [List.take_succ_eq_append_getElem hlt, coatsD, List.map_append]; rfl
    have hnx : IntKind.i64.wrap ((i : Int) + 1) = (i : Int) + 1 := w64 (by omega) (by omega)
    have hi1 : i + 1 ≤ 4294967296 := by omega
    have hlT : (coatsD (l.take i)).length = i := by simp [coatsD]; omega
    generalize coatsD (l.take i) = A at *
    generalize l[i] = a at *
    simp only [go_sem, hix, Look.d]
    refine ADrw.treeG (fun k => false) tt_ok (by kernel_rfl) (fun k => if k = 0 ∨ k = 2 then some .L else if k = 5 ∨ k = 6 then some .W else some .S) (.ones [0, 1, 2, 3, 4, 5, 6] .done) (Nat.zero_le _) (fun _ h => nomatch h) rfl rfl (by kernel_rfl) ?_
    simp only [go_sem]
    refine (c72 a.coats (by omega) (fun n hn => by have := hlm n hn; omega)).callS rfl rfl rfl rfl rfl rfl ?_
    simp only [go_sem, hlT, hi1, cntD]
    refine ⟨i + 1, hlt, by omega, ?_⟩
    refine ForgetTo.drop (H0 := [_, _, _, _, _, _]) (Y := [_]) (Nat.zero_le _) ?_ (by simp [BBs, BB, VBs, VB, wrkB, looksB]) ?_
    · simp [wrkB, hst, cntD]
    · simp [EWp, Env.look, pubV, hnx]
  · have hie : i = l.length := by simp only [decide_eq_false_iff_not] at hd; omega
    subst hie
    simp only [go_sem]
    change AWP _ _ _ _ _ _ _ _
    refine AWP.nilrow 2 0 2 rfl rfl (Nat.zero_le _) ?_
    refine ARng.iterN (items := (trL w w.slips.length []).map thrI) (J := fun rest Hx => ∃ (acc : List Sp) (q : List (List Int)), Hx = hL w l acc ∧ rest = q.map thrI ∧ (∀ t ∈ q, t ∈ trL w w.slips.length []) ∧ (acc.length = 0 ∨ acc.length = w.slips.length) ∧ q.foldl (lookS w l) acc = lookL w l)
      (by simp) (fun _ h => nomatch h) rfl (c101 hok) rfl (by simp [VBs, VB]) ?_ ?_ ?_ ?_ ?_
    · rintro rest Hx ⟨acc, q, rfl, _, _, _, _⟩
      exact ⟨by simp [hL], hL_BBs w l acc⟩
    · exact ⟨[], _, by simp [hL, wrkB, looksB], rfl, fun _ h => h, .inl rfl, rfl⟩
    · rintro Hx ⟨acc, q, rfl, hq, _, hacc, hfo⟩
      obtain rfl : q = [] := by simpa using hq.symm
      simp only [List.foldl_nil] at hfo
      simp only [go_sem, hL, wrkB]
      refine Br_split (fun h4 => ?_) (fun h4 => ?_) <;> simp only [go_sem, h4]
      · have ha : acc = [] := List.length_eq_zero_iff.1 (by simpa using h4)
        have hP : lookP w l = ([], 9) := by rw [lookP, if_pos hE, if_pos (by rw [← hfo]; exact ha)]
        rw [lookV, hP]
        rfl
      · have ha : ¬ acc = [] := fun h => by rw [h] at h4; simp at h4
        have hP : lookP w l = (acc, 0) := by rw [lookP, if_pos hE, if_neg (by rw [← hfo]; exact ha), ← hfo]
        rw [lookV, hP]
        have : (acc.map Sp.d).take acc.length = acc.map Sp.d := List.take_of_length_le (by simp)
        rw [this]
        rfl
    · intro xs hxs
      obtain ⟨p, _, rfl⟩ := List.mem_map.1 hxs
      rfl
    · rintro L L' xs rest Hx hbL hxs ⟨acc, q, rfl, hq, hqm, hacc, hfo⟩
      obtain ⟨t, q', rfl⟩ : ∃ t q', q = t :: q' := by cases q with
        | nil => cases hq
        | cons p r => exact ⟨p, r, rfl⟩
      obtain ⟨rfl, rfl⟩ : xs = thrI t ∧ rest = q'.map thrI := by simpa using hq
      refine AWP.run (fun _ => false) tt_ok (fun _ h => by cases h; simp) (by simp [hL]) rfl ?_
      simp only [go_sem, thrI, cntD, hL, wrkB]
      refine AWP.run (fun _ => false) tt_ok (fun _ h => by cases h; simp) (by simp) rfl ?_
      simp only [go_sem]
      have htm := trL_bnd hok (hqm t List.mem_cons_self)
      obtain ⟨htl, htb⟩ := htm
      have hcdl : (coatsD l).length = l.length := by simp [coatsD]
      have hTB : BBs 9 (hL w l acc ++ [L', cntB (lF t)]) := by
        refine BBs_append (BBs_le (by omega) (hL_BBs w l acc)) ⟨BB_le (by simp [hL]) hbL, by simp [BB, VBs, VB, cntB], trivial⟩
      simp only [List.foldl_cons] at hfo
      have FIN : ∀ acc', lookS w l acc t = acc' → BB 7 L' → (acc'.length = 0 ∨ acc'.length = w.slips.length) → ∃ (acc : List Sp) (q : List (List Int)), hL w l acc' = hL w l acc ∧ q'.map thrI = q.map thrI ∧ (∀ t ∈ q, t ∈ trL w w.slips.length []) ∧ (acc.length = 0 ∨ acc.length = w.slips.length) ∧ q.foldl (lookS w l) acc = lookL w l := fun acc' h _ hl' =>
        ⟨acc', q', rfl, rfl, fun t ht => hqm t (List.mem_cons_of_mem _ ht), hl', by rw [← h]; exact hfo⟩
      simp only [go_sem, hcdl]
      refine ALoop.by (S := Nat) (fun i => [(54, .d (.int .i64 i)), (53, .d (.int .i64 l.length)), (52, .ref 5 l.length 0 l.length), (11, .ptr 8 0), (6, .ptr 3 0), (4, .ptr 2 0), (3, .ptr 1 0)])
        (fun i => hL w l acc ++ [L', cntB (lF t)]) (fun i => l.length - i) (fun i => i ≤ l.length ∧ ∀ a ∈ l.take i, howF w (dotT a.coats t w.slips.length) = a.how) 0 (by simp) (fun _ h => by cases h; simp) ⟨Nat.zero_le _, fun a ha => by simp at ha⟩ ?_ ?_
      · exact ForgetTo.same' (by simp) (by simp [EWe, Env.look]) (by simp [hL, cntB, wrkB])
      rintro i ⟨hi, hfit⟩ hn
      refine AWP.run (fun _ => false) tt_ok (fun _ h => by cases h; simp) (by simp [hL]) rfl ?_
      simp only [go_sem, hL, cntB, wrkB, List.cons_append, List.nil_append]
      refine Br_split (fun hd => ?_) (fun hd => ?_) <;> simp only [go_sem, hd]
      · have hlt : i < l.length := by simpa using hd
        have hcg : (coatsD l)[i]? = some (cntD (cntF l[i].coats)) := by simp [coatsD, List.getElem?_eq_getElem hlt]
        have hq0 : (0 : Int) ≤ (i : Int) := by omega
        have hq1 : (i : Int) < l.length := by omega
        have hix : idx? (l.map Look.d) (i : Int) = some (l[i]).d := by simp [idx?, List.getElem?_eq_getElem hlt]
        have hnx : IntKind.i64.wrap ((i : Int) + 1) = (i : Int) + 1 := w64 (by omega) (by omega)
        have hst : l.take (i + 1) = l.take i ++ [l[i]] := List.take_succ_eq_append_getElem hlt
        have hcp := hlo _ (List.getElem_mem hlt)
        have hmem := List.getElem_mem hlt
        obtain ⟨hl8, hlm⟩ := coatsP_iff.1 hcp
        generalize l[i] = a at *
        have hdb := dotT_bnd hl8 htb
        simp only [cntD] at hcg
        simp only [go_sem, hcdl, hq0, hq1, hcg, Int.toNat_natCast, List.length_map]
        refine ALoop.by (S := Nat) (fun s => [(63, .d (.int .i64 s)), (62, .d (.int .i64 w.slips.length)), (54, .d (.int .i64 i)), (53, .d (.int .i64 l.length)), (52, .ref 5 l.length 0 l.length), (14, .d (.int .i64 (dotT a.coats t s))), (13, .ptr 9 0), (12, .d (.int .i64 i)), (11, .ptr 8 0), (6, .ptr 3 0), (4, .ptr 2 0), (3, .ptr 1 0)])
          (fun s => hL w l acc ++ [L', cntB (lF t), cntB (cntF a.coats)]) (fun s => w.slips.length - s) (fun s => s ≤ w.slips.length) 0 (by simp) (fun _ h => by cases h; simp) (Nat.zero_le _) ?_ ?_
        · exact ForgetTo.same' (by simp) (by simp [EWe, Env.look, dotT]) (by simp [hL, cntB, wrkB])
        rintro s hs hns
        refine AWP.run (fun _ => false) tt_ok (fun _ h => by cases h; simp) (by simp [hL]) rfl ?_
        simp only [go_sem, hL, cntB, wrkB, List.cons_append, List.nil_append]
        refine Br_split (fun he => ?_) (fun he => ?_) <;> simp only [go_sem, he]
        · have hsl : s < w.slips.length := by simpa using he
          have hs0 : (0 : Int) ≤ (s : Int) := by omega
          have hs4 : (s : Int) < 4 := by omega
          have hh1 := cnt_head (cntF a.coats) (i := s) (by omega)
          have hh2 := cnt_head (lF t) (i := s) (by omega)
          have hm := cnt60 (c := a.coats) (n := s) hl8 htb
          have hd1 := hdb s
          have w1 : IntKind.i64.wrap (cntF a.coats s * lF t s) = cntF a.coats s * lF t s := w64 (by omega) (by omega)
          have w2 : IntKind.i64.wrap (dotT a.coats t s + cntF a.coats s * lF t s) = dotT a.coats t (s + 1) := by rw [dotT_succ]; exact w64 (by omega) (by omega)
          have w3 : IntKind.i64.wrap ((s : Int) + 1) = (s : Int) + 1 := w64 (by omega) (by omega)
          refine ADrw.treeG (fun k => false) tt_ok (by kernel_rfl) (fun k => if k = 3 ∨ k = 6 then some .L else some .S) (.ones [0, 1, 2, 3, 4, 5, 6, 7, 8, 9] .done) (by simp) (fun _ h => by cases h; simp) rfl rfl (by kernel_rfl) ?_
          simp only [go_sem, hs0, hs4, Int.toNat_natCast, Nat.mul_one, Nat.zero_add, hh1, hh2, w1, w2]
          exact ⟨s + 1, hsl, by omega, ForgetTo.same' (by simp) (by simp [EWe, Env.look, w3]) (by simp [hL, cntB, wrkB])⟩
        · have hse : s = w.slips.length := by simp only [decide_eq_false_iff_not] at he; omega
          subst hse
          simp only [go_sem]
          refine ADrw.treeG (fun k => false) tt_ok (by kernel_rfl) (fun k => if k = 0 ∨ k = 3 ∨ k = 7 then some .L else some .S) (.ones [0, 1, 2, 3, 4, 5, 6, 7, 8] .done) (by simp) (fun _ h => by cases h; simp) rfl rfl (by kernel_rfl) ?_
          simp only [go_sem]
          refine (c74 w (dotT a.coats t w.slips.length)).callS rfl rfl rfl rfl rfl rfl ?_
          simp only [go_sem, looksB, hix, Look.d]
          refine Br_split (fun hf => ?_) (fun hf => ?_) <;> simp only [go_sem, hf]
          · have hne : ¬ howF w (dotT a.coats t w.slips.length) = a.how := by simpa using hf
            have hF : fitsT w l t = false := by
              rw [fitsT, ← Bool.not_eq_true, List.all_eq_true]
              intro h
              exact hne (by simpa using h a hmem)
            have hS : lookS w l acc t = acc := by rw [lookS, if_neg (by rw [hF]; simp)]
            rw [hS] at hfo
            exact ⟨acc, q', rfl, rfl, fun t ht => hqm t (List.mem_cons_of_mem _ ht), hacc, hfo⟩
          · have heq : howF w (dotT a.coats t w.slips.length) = a.how := by simpa using hf
            refine ⟨i + 1, ⟨hlt, fun b hb => ?_⟩, by omega, ?_⟩
            · rw [hst] at hb
              rcases List.mem_append.1 hb with hb | hb
              · exact hfit b hb
              · simp only [List.mem_singleton] at hb; subst hb; exact heq
            · refine ForgetTo.drop (H0 := [_, _, _, _, _, _, _, _, _]) (Y := [_]) (by simp) ?_ (by simpa [hL, cntB, looksB, wrkB] using hTB) ?_
              · simp [hL, cntB, wrkB, looksB]
              · simp [EWp, Env.look, pubV, hnx]
      · have hie : i = l.length := by simp only [decide_eq_false_iff_not] at hd; omega
        subst hie
        rw [List.take_length] at hfit
        have hF : fitsT w l t = true := by
          rw [fitsT, List.all_eq_true]
          intro a ha
          simpa using hfit a ha
        have hS : lookS w l acc t = widT w (baseT w acc t) t w.slips.length := by rw [lookS, if_pos hF]
        rw [hS] at hfo
        clear FIN hS
        refine Br_split (fun hb => ?_) (fun hb => ?_) <;> simp only [go_sem, hb]
        have hpre : ∀ s, ((List.range s).map fun k : Nat => (⟨lF t k, lF t k⟩ : Sp)).length = s := fun s => by simp
        case' refine_2.refine_2.refine_2.refine_2.refine_2.refine_5.refine_2.refine_2.refine_1 =>
          obtain rfl : acc = [] := List.length_eq_zero_iff.1 (by simpa using hb)
          have hbase : baseT w [] t = (List.range w.slips.length).map fun k : Nat => (⟨lF t k, lF t k⟩ : Sp) := rfl
          simp only [go_sem, List.length_map]
          refine ALoop.by (S := Nat) (fun s => [(92, .d (.int .i64 s)), (91, .d (.int .i64 w.slips.length)), (11, .ptr 8 0), (6, .ptr 3 0), (4, .ptr 2 0)])
            (fun s => hL w l ((List.range s).map fun k : Nat => (⟨lF t k, lF t k⟩ : Sp)) ++ [L', cntB (lF t)]) (fun s => w.slips.length - s) (fun s => s ≤ w.slips.length) 0 (by simp) (fun _ h => by cases h; simp) (Nat.zero_le _) ?_ ?_
          · exact ForgetTo.same' (by simp) (by simp [EWe, Env.look]) (by simp [hL, cntB, wrkB])
          rintro s hs hns
          refine AWP.run (fun k => false) tt_ok (fun _ h => by cases h; simp) (by simp [hL]) rfl ?_
          have hpl := hpre s
          have hpst : (List.range (s + 1)).map (fun k : Nat => (⟨lF t k, lF t k⟩ : Sp)) = (List.range s).map (fun k : Nat => (⟨lF t k, lF t k⟩ : Sp)) ++ [⟨lF t s, lF t s⟩] := by simp [List.range_succ]
          generalize hgp : (List.range s).map (fun k : Nat => (⟨lF t k, lF t k⟩ : Sp)) = P at *
          simp only [go_sem, hL, cntB, wrkB, List.cons_append, List.nil_append, hpl]
          refine Br_split (fun he => ?_) (fun he => ?_) <;> simp only [go_sem, he]
          · have hsl : s < w.slips.length := by simpa using he
            have hs0 : (0 : Int) ≤ (s : Int) := by omega
            have hs4 : (s : Int) < 4 := by omega
            have hh2 := cnt_head (lF t) (i := s) (by omega)
            have w3 : IntKind.i64.wrap ((s : Int) + 1) = (s : Int) + 1 := w64 (by omega) (by omega)
            have hs1 : s + 1 ≤ 4294967296 := by omega
            refine ADrw.treeG (fun k => false) tt_ok (by kernel_rfl) (fun k => if k = 0 ∨ k = 3 ∨ k = 6 then some .L else if k = 9 ∨ k = 10 then some .W else some .S) (.ones [0, 1, 2, 3, 4, 5, 6, 7, 8, 9, 10] .done) (by simp) (fun _ h => by cases h; simp) rfl rfl (by kernel_rfl) ?_
            simp only [go_sem, hs0, hs4, Int.toNat_natCast, Nat.mul_one, Nat.zero_add, hh2, List.length_map, hpl, hs1]
            refine ⟨s + 1, hsl, by omega, ?_⟩
            refine ForgetTo.same' (by simp) (by simp [EWe, Env.look, w3]) ?_
            rw [hpst]
            simp [hL, cntB, wrkB, hpl, Sp.d]
          have hse : s = w.slips.length := by simp only [decide_eq_false_iff_not] at he; omega
          subst hse
          rw [hgp] at hbase
          obtain ⟨base, hB⟩ : ∃ base, base = baseT w [] t := ⟨_, rfl⟩
          rw [← hB] at hbase hfo
          have hbl : base.length = w.slips.length := by rw [hbase]; exact hpl
        case' refine_2.refine_2.refine_2.refine_2.refine_2.refine_5.refine_2.refine_2.refine_2 =>
          have hbase : baseT w acc t = acc := by rw [baseT, if_neg (fun h => by rw [h] at hb; simp at hb)]
          have hpl : acc.length = w.slips.length := by
            rcases hacc with h | h
            · rw [h] at hb; simp at hb
            · exact h
          obtain ⟨base, hB⟩ : ∃ base, base = baseT w acc t := ⟨_, rfl⟩
          rw [← hB] at hbase hfo
          have hbl : base.length = w.slips.length := by rw [hbase]; exact hpl
        all_goals
          have hw0 := widT_zero hbl t
          have hwl := widT_len w base t
          have hsne : w.slips ≠ [] := by intro h; simp [h] at l1
          simp only [go_sem, List.length_map]
          refine ALoop.by (S := Nat) (fun s => [(110, .d (.int .i64 s)), (109, .d (.int .i64 w.slips.length)), (11, .ptr 8 0), (4, .ptr 2 0)])
            (fun s => hL w l (widT w base t s) ++ [L', cntB (lF t)]) (fun s => w.slips.length - s) (fun s => s ≤ w.slips.length) 0 (by simp) (fun _ h => by cases h; simp) (Nat.zero_le _) ?_ ?_
          · exact ForgetTo.same' (by simp) (by simp [EWe, Env.look]) (by rw [hw0]; simp [hL, cntB, wrkB, hbase, hpl, hsne])
          rintro s hs hns
          refine AWP.run (fun k => false) tt_ok (fun _ h => by cases h; simp) (by simp [hL]) rfl ?_
          simp only [go_sem, hL, cntB, wrkB, List.cons_append, List.nil_append, hwl]
          refine Br_split (fun he => ?_) (fun he => ?_) <;> simp only [go_sem, he]
          · have hsl : s < w.slips.length := by simpa using he
            have hs0 : (0 : Int) ≤ (s : Int) := by omega
            have hs4 : (s : Int) < 4 := by omega
            have hsn : (s : Int) < w.slips.length := by omega
            have hh2 := cnt_head (lF t) (i := s) (by omega)
            have w3 : IntKind.i64.wrap ((s : Int) + 1) = (s : Int) + 1 := w64 (by omega) (by omega)
            have hst := widT_succ base t hsl
            have hgt : ((widT w base t s).map Sp.d)[s]? = some (.agg [.int .i64 (base.getD s ⟨0, 0⟩).lo, .int .i64 (base.getD s ⟨0, 0⟩).hi]) := by
              simp [widT, List.getElem?_range hsl, Sp.d]
            refine ADrw.treeG (fun k => false) tt_ok (by kernel_rfl) (fun k => if k = 0 ∨ k = 2 ∨ k = 4 ∨ k = 6 ∨ k = 9 ∨ k = 11 ∨ k = 13 ∨ k = 15 ∨ k = 18 ∨ k = 21 then some .L else if k = 22 then some .W else some .S) (.ones [0, 1, 2, 3, 4, 5, 6, 7, 8, 9, 10, 11, 12, 13, 14, 15, 16, 17, 18, 19, 20, 21, 22] .done) (by simp) (fun _ h => by cases h; simp) rfl rfl (by kernel_rfl) ?_
            simp only [go_sem, hs0, hs4, hsn, Int.toNat_natCast, Nat.mul_one, Nat.zero_add, hh2, List.length_map, hwl, hgt]
            refine ⟨s + 1, hsl, by omega, ?_⟩
            refine ForgetTo.same' (by simp) (by simp [EWe, Env.look, w3]) ?_
            rw [hst]
            simp [hL, cntB, wrkB, Sp.d, hwl]
          · have hse : s = w.slips.length := by simp only [decide_eq_false_iff_not] at he; omega
            subst hse
            refine ⟨by simp [looksB, BB, VBs, VB], widT w base t w.slips.length, q', ?_, rfl, fun t ht => hqm t (List.mem_cons_of_mem _ ht), .inr (hwl _), hfo⟩
            simp only [hwl]
end Go.Aw
end

section
set_option maxRecDepth 100000
namespace Go.Aw
open Go Go.Proofs.Try

theorem take_succ_eq {α : Type} {a b : List α} {i : Nat} (ha : i < a.length) (hb : i < b.length) (h : a.take i = b.take i) : a.take (i + 1) = b.take (i + 1) ↔ a[i] = b[i] := by
  rw [List.take_succ_eq_append_getElem ha, h, List.take_succ_eq_append_getElem hb]
  simp only [List.append_cancel_left_eq, List.cons.injEq, and_true]

theorem c20 (a b : List Int) (ha : a.length ≤ 4294967296) (hb : b.length ≤ 4294967296) : PC prog 20 [.d (.sl (a.map (.int .i64))), .d (.sl (b.map (.int .i64)))] (.d (.bool (decide (a = b)))) := by
  refine PC.run (fun _ => false) tt_ok (fn := f20) (rs := [.tmp 4]) rfl rfl rfl rfl rfl rfl rfl ?_
  simp only [go_sem]
  refine Br_split (fun hc => ?_) (fun hc => ?_) <;> simp only [go_sem, hc]
  · have : a ≠ b := fun e => by subst e; simp at hc
    simp [this]
  · have hlen : a.length = b.length := by simp at hc; omega
    refine ALoop.by (S := Nat) (fun i => [(5, .d (.int .i64 i)), (0, .d (.sl (a.map (.int .i64)))), (1, .d (.sl (b.map (.int .i64))))]) (fun i => []) (fun i => a.length - i) (fun i => i ≤ a.length ∧ a.take i = b.take i) 0 (by simp) (fun _ h => nomatch h) ⟨Nat.zero_le _, rfl⟩ ?_ ?_
    · simp [ForgetTo, EW, VW, BBq, BBs, BB, VBs, VB, Env.look, pubV]
    · rintro i ⟨hi, hx⟩ hn
      refine AWP.run (fun _ => false) tt_ok (fun _ h => nomatch h) (by simp) rfl ?_
      simp only [go_sem]
      refine Br_split (fun hd => ?_) (fun hd => ?_) <;> simp only [go_sem, hd]
      · have hlt : i < a.length := by simpa using hd
        have hlt' : i < b.length := by omega
        have hs := take_succ_eq hlt hlt' hx
        have hne : a[i] ≠ b[i] → a ≠ b := fun h e => h (by subst e; rfl)
        refine ADrw.treeG (fun _ => false) tt_ok (by kernel_rfl) (fun k => .some .S) (.ones [0, 1, 2, 3, 4, 5, 6, 7, 8] .done) (by simp) (fun _ h => nomatch h) rfl rfl (by kernel_rfl) ?_
        simp only [go_sem, idx_nat, List.getElem?_map, List.getElem?_eq_getElem hlt, List.getElem?_eq_getElem hlt', Sp.d]
        generalize a[i] = x at hs hne
        generalize b[i] = y at hs hne
        refine Br_split (fun he => ?_) (fun he => ?_) <;> simp only [go_sem, he]
        · have hxy : x ≠ y := fun e => by subst e; simp at he
          simp [hne hxy]
        · have heq : x = y := by first | (simpa using he) | (cases x; cases y; simpa using he)
          refine ⟨i + 1, ⟨hlt, hs.2 heq⟩, by omega, ?_⟩
          simp [ForgetTo, EW, VW, BBq, BBs, BB, VBs, VB, Env.look, pubV, w64 (n := (i : Int) + 1) (by omega) (by omega)]
      · have hlt : ¬ i < a.length := by simpa using hd
        rw [List.take_of_length_le (by omega), List.take_of_length_le (by omega)] at hx
        simp [hx]

theorem c24 (a b : List Int) (ha : a.length ≤ 4294967296) (hb : b.length ≤ 4294967296) : PC prog 24 [.d (.sl (a.map (.int .i64))), .d (.sl (b.map (.int .i64)))] (.d (.bool (decide (a = b)))) := by
  refine PC.run (fun _ => false) tt_ok (fn := f24) (rs := [.tmp 4]) rfl rfl rfl rfl rfl rfl rfl ?_
  simp only [go_sem]
  refine Br_split (fun hc => ?_) (fun hc => ?_) <;> simp only [go_sem, hc]
  · have : a ≠ b := fun e => by subst e; simp at hc
    simp [this]
  · have hlen : a.length = b.length := by simp at hc; omega
    refine ALoop.by (S := Nat) (fun i => [(5, .d (.int .i64 i)), (0, .d (.sl (a.map (.int .i64)))), (1, .d (.sl (b.map (.int .i64))))]) (fun i => []) (fun i => a.length - i) (fun i => i ≤ a.length ∧ a.take i = b.take i) 0 (by simp) (fun _ h => nomatch h) ⟨Nat.zero_le _, rfl⟩ ?_ ?_
    · simp [ForgetTo, EW, VW, BBq, BBs, BB, VBs, VB, Env.look, pubV]
    · rintro i ⟨hi, hx⟩ hn
      refine AWP.run (fun _ => false) tt_ok (fun _ h => nomatch h) (by simp) rfl ?_
      simp only [go_sem]
      refine Br_split (fun hd => ?_) (fun hd => ?_) <;> simp only [go_sem, hd]
      · have hlt : i < a.length := by simpa using hd
        have hlt' : i < b.length := by omega
        have hs := take_succ_eq hlt hlt' hx
        have hne : a[i] ≠ b[i] → a ≠ b := fun h e => h (by subst e; rfl)
        refine ADrw.treeG (fun _ => false) tt_ok (by kernel_rfl) (fun k => .some .S) (.ones [0, 1, 2, 3, 4, 5, 6, 7, 8] .done) (by simp) (fun _ h => nomatch h) rfl rfl (by kernel_rfl) ?_
        simp only [go_sem, idx_nat, List.getElem?_map, List.getElem?_eq_getElem hlt, List.getElem?_eq_getElem hlt', Sp.d]
        generalize a[i] = x at hs hne
        generalize b[i] = y at hs hne
        refine Br_split (fun he => ?_) (fun he => ?_) <;> simp only [go_sem, he]
        · have hxy : x ≠ y := fun e => by subst e; simp at he
          simp [hne hxy]
        · have heq : x = y := by first | (simpa using he) | (cases x; cases y; simpa using he)
          refine ⟨i + 1, ⟨hlt, hs.2 heq⟩, by omega, ?_⟩
          simp [ForgetTo, EW, VW, BBq, BBs, BB, VBs, VB, Env.look, pubV, w64 (n := (i : Int) + 1) (by omega) (by omega)]
      · have hlt : ¬ i < a.length := by simpa using hd
        rw [List.take_of_length_le (by omega), List.take_of_length_le (by omega)] at hx
        simp [hx]

theorem c30 (a b : List Sp) (ha : a.length ≤ 4294967296) (hb : b.length ≤ 4294967296) : PC prog 30 [.d (.sl (a.map Sp.d)), .d (.sl (b.map Sp.d))] (.d (.bool (decide (a = b)))) := by
  refine PC.run (fun _ => false) tt_ok (fn := f30) (rs := [.tmp 4]) rfl rfl rfl rfl rfl rfl rfl ?_
  simp only [go_sem]
  refine Br_split (fun hc => ?_) (fun hc => ?_) <;> simp only [go_sem, hc]
  · have : a ≠ b := fun e => by subst e; simp at hc
    simp [this]
  · have hlen : a.length = b.length := by simp at hc; omega
    refine ALoop.by (S := Nat) (fun i => [(5, .d (.int .i64 i)), (0, .d (.sl (a.map Sp.d))), (1, .d (.sl (b.map Sp.d)))]) (fun i => []) (fun i => a.length - i) (fun i => i ≤ a.length ∧ a.take i = b.take i) 0 (by simp) (fun _ h => nomatch h) ⟨Nat.zero_le _, rfl⟩ ?_ ?_
    · simp [ForgetTo, EW, VW, BBq, BBs, BB, VBs, VB, Env.look, pubV]
    · rintro i ⟨hi, hx⟩ hn
      refine AWP.run (fun _ => false) tt_ok (fun _ h => nomatch h) (by simp) rfl ?_
      simp only [go_sem]
      refine Br_split (fun hd => ?_) (fun hd => ?_) <;> simp only [go_sem, hd]
      · have hlt : i < a.length := by simpa using hd
        have hlt' : i < b.length := by omega
        have hs := take_succ_eq hlt hlt' hx
        have hne : a[i] ≠ b[i] → a ≠ b := fun h e => h (by subst e; rfl)
        refine ADrw.treeG (fun _ => false) tt_ok (by kernel_rfl) (fun k => .some .S) (.ones [0, 1, 2, 3, 4, 5, 6, 7, 8] .done) (by simp) (fun _ h => nomatch h) rfl rfl (by kernel_rfl) ?_
        simp only [go_sem, idx_nat, List.getElem?_map, List.getElem?_eq_getElem hlt, List.getElem?_eq_getElem hlt', Sp.d]
        generalize a[i] = x at hs hne
        generalize b[i] = y at hs hne
        refine Br_split (fun he => ?_) (fun he => ?_) <;> simp only [go_sem, he]
        · have hxy : x ≠ y := fun e => by subst e; simp at he
          simp [hne hxy]
        · have heq : x = y := by first | (simpa using he) | (cases x; cases y; simpa using he)
          refine ⟨i + 1, ⟨hlt, hs.2 heq⟩, by omega, ?_⟩
          simp [ForgetTo, EW, VW, BBq, BBs, BB, VBs, VB, Env.look, pubV, w64 (n := (i : Int) + 1) (by omega) (by omega)]
      · have hlt : ¬ i < a.length := by simpa using hd
        rw [List.take_of_length_le (by omega), List.take_of_length_le (by omega)] at hx
        simp [hx]
theorem c22 (a b : Int) : PC prog 22 [.d (.int .i64 a), .d (.int .i64 b)] (.d (Sp.mk a b).d) := by
  refine PC.run (fun _ => false) tt_ok (fn := f22) (rs := [.cell 4 31]) rfl rfl rfl rfl rfl rfl rfl ?_
  simp only [go_sem, Sp.d]

def exW : Works := ⟨[⟨⟨10, 12⟩, ⟨2, 3⟩, 5⟩, ⟨⟨20, 25⟩, ⟨4, 4⟩, 9⟩, ⟨⟨5, 6⟩, ⟨1, 2⟩, 2⟩], 40, 60⟩
def exJ : List Job := [⟨10, [0, 0, 1]⟩, ⟨5, [2]⟩]

theorem c64 : PC prog 64 [] (.d exW.d) := by
  refine PC.run (fun _ => false) tt_ok (fn := f64) (rs := [.cell 0 24]) rfl rfl rfl rfl rfl rfl rfl ?_
  simp only [go_sem]
  refine (c22 10 12).call rfl rfl rfl ?_
  simp only [go_sem]
  refine (c22 2 3).call rfl rfl rfl ?_
  simp only [go_sem, Sp.d]
  refine (c22 20 25).call rfl rfl rfl ?_
  simp only [go_sem, Sp.d]
  refine (c22 4 4).call rfl rfl rfl ?_
  simp only [go_sem, Sp.d]
  refine (c22 5 6).call rfl rfl rfl ?_
  simp only [go_sem, Sp.d]
  refine (c22 1 2).call rfl rfl rfl ?_
  simp only [go_sem, Sp.d]
  rfl

theorem c65 : PC prog 65 [] (.d (.sl (exJ.map Job.d))) := by
  refine PC.run (fun k => k == 5) tt_ok (fn := f65) (rs := [.tmp 0]) rfl rfl rfl rfl rfl rfl rfl ?_
  simp only [go_sem]
  rfl

theorem ex_thick : thickP exW [1, 1, 0] = (⟨50, 62⟩, [2, 3], 0) := by decide +kernel
theorem ex_coats : coatsM exW [1] 2 = (⟨4, 5⟩, 0) := by decide +kernel
theorem ex_plan : planP exW [1] = ([2, 2, 2, 2], 8, 0) := by decide +kernel
theorem ex_jobs : jobsE exW exJ = 0 := by decide +kernel
theorem ex_uses : usesL exW exJ = [⟨40, 60⟩, ⟨40, 40⟩, ⟨5, 10⟩] := by decide +kernel
theorem ex_done : doneP exW exJ [50, 40, 20] = (0, 2, 0) := by decide +kernel
theorem ex_mix : mixP [⟨80, 5, 6⟩, ⟨0, 60, 1⟩, ⟨0, 0, 0⟩] ⟨10, 40, ⟨5, 10⟩⟩ = ([5, 1, 4], 31, 0) := by decide +kernel
theorem ex_told : toldP exW [⟨0, 20, ⟨45, 65⟩⟩] = ([⟨3, 3⟩, ⟨4, 4⟩, ⟨1, 2⟩], 0) := by decide +kernel
theorem ex_wrong : wrongP exW [⟨1, 10, ⟨50, 60⟩⟩] = ([0], 0) := by decide +kernel
theorem ex_looks : lookP exW [⟨[1, 1, 0], 3⟩] = ([⟨11, 12⟩, ⟨25, 25⟩, ⟨5, 6⟩], 0) := by decide +kernel
end Go.Aw
end

section
set_option maxRecDepth 100000
namespace Go.Aw
open Go Go.Proofs.Try

theorem c14 : PC prog 14 [] (.d (.bool true)) := by
  refine PC.run (fun _ => false) tt_ok (fn := f14) (rs := [.tmp 0]) rfl rfl rfl rfl rfl rfl rfl ?_
  simp only [go_sem]
  refine c64.call rfl rfl rfl ?_
  simp only [go_sem]
  refine (c17 exW [1, 1, 0] (by simp [exW]) (by simp)).call rfl rfl rfl ?_
  rw [ex_thick]
  simp only [go_sem, Sp.d]
  refine c64.call rfl rfl rfl ?_
  simp only [go_sem]
  refine (c58 exW [1] 2 (by simp [exW]) (by simp)).call rfl rfl rfl ?_
  rw [ex_coats]
  simp only [go_sem, Sp.d]
  refine c64.call rfl rfl rfl ?_
  simp only [go_sem]
  refine (c55 exW [1] (by simp [exW]) (by simp)).call rfl rfl rfl ?_
  rw [ex_plan]
  simp only [go_sem, lvI]
  refine c64.call rfl rfl rfl ?_
  simp only [go_sem]
  refine c65.call rfl rfl rfl ?_
  simp only [go_sem]
  refine (c26 exW exJ (by simp [exW]) (by simp [exJ]) (by simp [exJ])).call rfl rfl (by rw [usesV, if_pos ex_jobs, ex_uses]; rfl) ?_
  rw [usesV, if_pos ex_jobs, ex_uses, ex_jobs]
  simp only [go_sem]
  refine c64.call rfl rfl rfl ?_
  simp only [go_sem]
  refine c65.call rfl rfl rfl ?_
  simp only [go_sem]
  refine (c27 exW exJ [50, 40, 20] (by simp [exW]) (by simp [exJ]) (by simp [exJ]) (by simp)).call rfl rfl rfl ?_
  rw [ex_done]
  simp only [go_sem]
  refine (c22 5 10).call rfl rfl rfl ?_
  simp only [go_sem, Sp.d]
  refine (c34 [⟨80, 5, 6⟩, ⟨0, 60, 1⟩, ⟨0, 0, 0⟩] ⟨10, 40, ⟨5, 10⟩⟩ (by simp)).call rfl rfl rfl ?_
  rw [ex_mix]
  simp only [go_sem, lvI]
  refine c64.call rfl rfl rfl ?_
  simp only [go_sem]
  refine (c22 45 65).call rfl rfl rfl ?_
  simp only [go_sem, Sp.d]
  refine (c37 exW [⟨0, 20, ⟨45, 65⟩⟩] (by simp [exW]) (by simp)).call rfl rfl (by rw [toldV, ex_told]; rfl) ?_
  rw [toldV, ex_told]
  simp only [go_sem]
  refine c64.call rfl rfl rfl ?_
  simp only [go_sem]
  refine (c22 50 60).call rfl rfl rfl ?_
  simp only [go_sem, Sp.d]
  refine (c38 exW [⟨1, 10, ⟨50, 60⟩⟩] (by simp [exW]) (by simp)).call rfl rfl (by rw [wrongV, ex_wrong]; rfl) ?_
  rw [wrongV, ex_wrong]
  simp only [go_sem]
  refine c64.call rfl rfl rfl ?_
  simp only [go_sem]
  refine (c43 exW [⟨[1, 1, 0], 3⟩] (by simp [exW]) (by simp) (by simp)).call rfl rfl (by rw [lookV, ex_looks]; rfl) ?_
  rw [lookV, ex_looks]
  simp only [go_sem]
  have hd0 : ∀ {α : Type} [DecidableEq α] (l : List α), decide (l = l) = true := fun l => by simp
  refine ADrw.treeG (fun _ => false) tt_ok (by kernel_rfl) (fun k => if k = 0 ∨ k = 10 then some .L else some .S) (.ones [0, 1, 2, 3, 4, 5, 6, 7, 8, 9, 10, 11, 12, 13, 14, 15, 16, 17, 18, 19, 20, 21, 22, 23, 24, 25, 26, 27, 28, 29, 30, 31, 32, 33, 34, 35, 36, 37, 38, 39, 40] .done) (by simp) (fun _ h => nomatch h) rfl rfl (by kernel_rfl) ?_
  simp only [go_sem]
  refine (c22 50 62).callS rfl rfl rfl rfl rfl rfl ?_
  simp only [go_sem, Sp.d, hd0]
  refine (c24 [2, 3] [2, 3] (by simp) (by simp)).callS rfl rfl rfl rfl rfl rfl ?_
  simp only [go_sem, Sp.d, hd0]
  refine (c22 4 5).callS rfl rfl rfl rfl rfl rfl ?_
  simp only [go_sem, Sp.d, hd0]
  refine (c20 [2, 2, 2, 2] [2, 2, 2, 2] (by simp) (by simp)).callS rfl rfl rfl rfl rfl rfl ?_
  simp only [go_sem, Sp.d, hd0]
  refine (c22 40 60).callS rfl rfl rfl rfl rfl rfl ?_
  simp only [go_sem, Sp.d, hd0]
  refine (c22 40 40).callS rfl rfl rfl rfl rfl rfl ?_
  simp only [go_sem, Sp.d, hd0]
  refine (c22 5 10).callS rfl rfl rfl rfl rfl rfl ?_
  simp only [go_sem, Sp.d, hd0]
  refine (c30 [⟨40, 60⟩, ⟨40, 40⟩, ⟨5, 10⟩] [⟨40, 60⟩, ⟨40, 40⟩, ⟨5, 10⟩] (by simp) (by simp)).callS rfl rfl rfl rfl rfl rfl ?_
  simp only [go_sem, Sp.d, hd0]
  refine (c20 [5, 1, 4] [5, 1, 4] (by simp) (by simp)).call rfl rfl rfl ?_
  simp only [go_sem, Sp.d, hd0]
  refine (c22 3 3).call rfl rfl rfl ?_
  simp only [go_sem, Sp.d, hd0]
  refine (c22 4 4).call rfl rfl rfl ?_
  simp only [go_sem, Sp.d, hd0]
  refine (c22 1 2).call rfl rfl rfl ?_
  simp only [go_sem, Sp.d, hd0]
  refine (c30 [⟨3, 3⟩, ⟨4, 4⟩, ⟨1, 2⟩] [⟨3, 3⟩, ⟨4, 4⟩, ⟨1, 2⟩] (by simp) (by simp)).call rfl rfl rfl ?_
  simp only [go_sem, Sp.d, hd0]
  refine (c20 [0] [0] (by simp) (by simp)).call rfl rfl rfl ?_
  simp only [go_sem, Sp.d, hd0]
  refine (c22 11 12).call rfl rfl rfl ?_
  simp only [go_sem, Sp.d, hd0]
  refine (c22 25 25).call rfl rfl rfl ?_
  simp only [go_sem, Sp.d, hd0]
  refine (c22 5 6).call rfl rfl rfl ?_
  simp only [go_sem, Sp.d, hd0]
  refine (c30 [⟨11, 12⟩, ⟨25, 25⟩, ⟨5, 6⟩] [⟨11, 12⟩, ⟨25, 25⟩, ⟨5, 6⟩] (by simp) (by simp)).call rfl rfl rfl ?_
  simp only [go_sem, Sp.d, hd0]
end Go.Aw
end

section
set_option maxRecDepth 100000
namespace Go.Aw
open Go Go.Proofs.Try

theorem lF_idx {t : List Int} {c : Int} (h : 0 ≤ c ∧ c < t.length) : idx? (t.map (D.int .i64)) c = some (.int .i64 (lF t c)) := by
  obtain ⟨k, rfl⟩ : ∃ k : Nat, c = k := ⟨c.toNat, by omega⟩
  have hk : k < t.length := by omega
  simp [idx?, lF, List.getElem?_eq_getElem hk, List.getD_eq_getElem?_getD]

end Go.Aw
end

section
set_option maxRecDepth 100000
namespace Go.Aw
open Go Go.Proofs

theorem has_list {α : Type} {enc : α → D} {p : D → Prop} (he : ∀ y, p y → ∃ s, y = enc s) : ∀ l : List D, (∀ y ∈ l, p y) → ∃ ss : List α, l = ss.map enc
  | [], _ => ⟨[], rfl⟩
  | y :: r, h => by
    obtain ⟨s, rfl⟩ := he y (h y (by simp))
    obtain ⟨ss, rfl⟩ := has_list he r fun z hz => h z (List.mem_cons_of_mem _ hz)
    exact ⟨s :: ss, rfl⟩

end Go.Aw
end

section
set_option maxRecDepth 100000
namespace Go.Aw
open Go Go.Proofs.Try

/-- A mixture. -/
structure Cont where
  f : Int
  c : Int
  p : Int

def contF (l : List Stuff) (o : List Int) : Nat → Cont
  | 0 => ⟨0, 0, 0⟩
  | i + 1 => ⟨(contF l o i).f + lF o i * (l.getD i ⟨0, 0, 0⟩).frit, (contF l o i).c + lF o i * (l.getD i ⟨0, 0, 0⟩).clay, (contF l o i).p + lF o i * (l.getD i ⟨0, 0, 0⟩).pence⟩

end Go.Aw
end

section
set_option maxRecDepth 100000
namespace Go.Aw
open Go Go.Proofs.Try

def bitsL (set : Nat) : List Nat := (List.range 6).filter fun i => set.testBit i

def lessL : List Nat → List Nat → Bool
  | x :: r, y :: s => if x ≠ y then decide (x < y) else lessL r s
  | _, _ => false

def lessN (a b : List Nat) : Bool := if a.length ≠ b.length then decide (a.length < b.length) else lessL a b

theorem lessL_trans : ∀ {a b c : List Nat}, lessL a b = true → lessL b c = true → a.length = b.length → b.length = c.length → lessL a c = true
  | [], b, c, h, _, _, _ => by simp [lessL] at h
  | x :: r, [], c, h, _, _, _ => by simp [lessL] at h
  | x :: r, y :: s, [], _, h, _, _ => by simp [lessL] at h
  | x :: r, y :: s, z :: t, h1, h2, h3, h4 => by
    simp only [lessL] at h1 h2 ⊢
    simp only [List.length_cons] at h3 h4
    by_cases e1 : x = y
    · subst e1
      simp only [ne_eq, not_true_eq_false, if_false] at h1
      by_cases e2 : x = z
      · subst e2
        simp only [ne_eq, not_true_eq_false, if_false] at h2 ⊢
        exact lessL_trans h1 h2 (by omega) (by omega)
      · simp only [ne_eq, e2, not_false_eq_true, if_true] at h2 ⊢
        exact h2
    · simp only [ne_eq, e1, not_false_eq_true, if_true, decide_eq_true_eq] at h1
      by_cases e2 : y = z
      · subst e2
        simp only [ne_eq, e1, not_false_eq_true, if_true, decide_eq_true_eq]
        exact h1
      · simp only [ne_eq, e2, not_false_eq_true, if_true, decide_eq_true_eq] at h2
        rw [if_pos (show x ≠ z by omega)]
        exact decide_eq_true (by omega)

theorem lessN_trans {a b c : List Nat} (h1 : lessN a b = true) (h2 : lessN b c = true) : lessN a c = true := by
  unfold lessN at *
  by_cases e1 : a.length = b.length
  · by_cases e2 : b.length = c.length
    · rw [if_neg (by omega)] at h1 h2
      rw [if_neg (by omega)]
      exact lessL_trans h1 h2 e1 e2
    · rw [if_pos e2, decide_eq_true_eq] at h2
      rw [if_pos (by omega), decide_eq_true_eq]
      omega
  · rw [if_pos e1, decide_eq_true_eq] at h1
    by_cases e2 : b.length = c.length
    · rw [if_pos (by omega), decide_eq_true_eq]; omega
    · rw [if_pos e2, decide_eq_true_eq] at h2
      rw [if_pos (by omega), decide_eq_true_eq]
      omega

theorem lessL_irr : ∀ a : List Nat, lessL a a = false
  | [] => rfl
  | x :: r => by simp [lessL, lessL_irr r]

theorem lessN_irr (a : List Nat) : lessN a a = false := by simp [lessN, lessL_irr]

def wrongStep (ok : Nat → Bool) (s : Bool × List Nat) (set : Nat) : Bool × List Nat :=
  if s.1 = true ∧ lessN (bitsL set) s.2 = false then s else if ok set = true then (true, bitsL set) else s

def wrongR (ok : Nat → Bool) (k : Nat) : Bool × List Nat := (List.range k).foldl (wrongStep ok) (false, [])

theorem wrongR_succ (ok : Nat → Bool) (k : Nat) : wrongR ok (k + 1) = wrongStep ok (wrongR ok k) k := by
  rw [wrongR, List.range_succ, List.foldl_append]; rfl

theorem wrongR_spec (ok : Nat → Bool) : ∀ k, (wrongR ok k = (false, []) ∧ ∀ x, x < k → ok x = false) ∨ ((wrongR ok k).1 = true ∧ (∃ x, x < k ∧ ok x = true ∧ (wrongR ok k).2 = bitsL x) ∧ ∀ y, y < k → ok y = true → lessN (bitsL y) (wrongR ok k).2 = false)
  | 0 => .inl ⟨rfl, fun x h => absurd h (Nat.not_lt_zero x)⟩
  | k + 1 => by
    rw [wrongR_succ]
    rcases wrongR_spec ok k with ⟨e, h⟩ | ⟨h1, ⟨x, hx, hox, he⟩, h3⟩
    · rw [e]
      by_cases ho : ok k = true
      · right
        rw [wrongStep, if_neg (by simp), if_pos ho]
        refine ⟨rfl, ⟨k, by omega, ho, rfl⟩, fun y hy hoy => ?_⟩
        by_cases hyk : y = k
        · subst hyk; exact lessN_irr _
        · rw [h y (by omega)] at hoy; cases hoy
      · left
        rw [wrongStep, if_neg (by simp), if_neg ho]
        refine ⟨rfl, fun x hx => ?_⟩
        by_cases hyk : x = k
        · subst hyk; simpa using ho
        · exact h x (by omega)
    · right
      generalize wrongR ok k = s at *
      by_cases hl : lessN (bitsL k) s.2 = false
      · rw [wrongStep, if_pos ⟨h1, hl⟩]
        refine ⟨h1, ⟨x, by omega, hox, he⟩, fun y hy hoy => ?_⟩
        by_cases hyk : y = k
        · subst hyk; exact hl
        · exact h3 y (by omega) hoy
      · rw [wrongStep, if_neg (fun h => hl h.2)]
        by_cases ho : ok k = true
        · rw [if_pos ho]
          refine ⟨rfl, ⟨k, by omega, ho, rfl⟩, fun y hy hoy => ?_⟩
          by_cases hyk : y = k
          · subst hyk; exact lessN_irr _
          · have := h3 y (by omega) hoy
            cases hlt : lessN (bitsL y) (bitsL k) with
            | false => rfl
            | true => rw [lessN_trans hlt (by simpa using hl)] at this; cases this
        · rw [if_neg ho]
          refine ⟨h1, ⟨x, by omega, hox, he⟩, fun y hy hoy => ?_⟩
          by_cases hyk : y = k
          · subst hyk; exact absurd hoy ho
          · exact h3 y (by omega) hoy

def allSets (n : Nat) : List (List Nat × Nat) := (List.range (n + 1)).flatMap fun m => setsF n m 0

theorem sets_facts : ∀ n, n < 7 → ((allSets n).all fun p => decide (p.1 = bitsL p.2) && decide (p.2 < 2 ^ n)) = true ∧ ((List.range (2 ^ n)).all fun s => (allSets n).any fun p => p.2 == s) = true ∧ (allSets n).Pairwise (fun p q => lessN p.1 q.1 = true) := by
  decide +kernel

theorem wrong_eq (ok : Nat → Bool) {n : Nat} (hn : n ≤ 6) : wrongR ok (2 ^ n) = match (allSets n).find? fun p => ok p.2 with | none => (false, []) | some p => (true, p.1) := by
  obtain ⟨f1, f2, f3⟩ := sets_facts n (by omega)
  have g1 : ∀ p ∈ allSets n, p.1 = bitsL p.2 ∧ p.2 < 2 ^ n := fun p hp => by
    have := List.all_eq_true.1 f1 p hp
    simpa using this
  have g2 : ∀ s, s < 2 ^ n → ∃ p ∈ allSets n, p.2 = s := fun s hs => by
    have := List.all_eq_true.1 f2 s (List.mem_range.2 hs)
    obtain ⟨p, hp, e⟩ := List.any_eq_true.1 this
    exact ⟨p, hp, by simpa using e⟩
  rcases wrongR_spec ok (2 ^ n) with ⟨e, h⟩ | ⟨h1, ⟨x, hx, hox, he⟩, h3⟩
  · have hno : (allSets n).find? (fun p => ok p.2) = none := List.find?_eq_none.2 fun p hp => by
      rw [h p.2 (g1 p hp).2]; simp
    rw [hno, e]
  · obtain ⟨q, hq, hqx⟩ := g2 x hx
    cases hf : (allSets n).find? (fun p => ok p.2) with
    | none =>
      have := List.find?_eq_none.1 hf q hq
      rw [hqx] at this
      exact absurd hox this
    | some p =>
      obtain ⟨hp1, l1, l2, hL, hbef⟩ := List.find?_eq_some_iff_append.1 hf
      have hpm : p ∈ allSets n := by rw [hL]; simp
      have hmin := h3 p.2 (g1 p hpm).2 hp1
      rw [← (g1 p hpm).1] at hmin
      have hm : (wrongR ok (2 ^ n)).2 = q.1 := by rw [he, (g1 q hq).1, hqx]
      have hpq : q = p := by
        rw [hL] at hq f3
        rcases List.mem_append.1 hq with hq | hq
        · have := hbef q hq
          rw [hqx, hox] at this
          cases this
        · rcases List.mem_cons.1 hq with hq | hq
          · exact hq
          · have := (List.pairwise_cons.1 (List.pairwise_append.1 f3).2.1).1 q hq
            rw [hm, this] at hmin
            cases hmin
      have e1 : wrongR ok (2 ^ n) = ((wrongR ok (2 ^ n)).1, (wrongR ok (2 ^ n)).2) := rfl
      rw [e1, h1, hm, hpq]

end Go.Aw
end

section
set_option maxRecDepth 100000
namespace Go.Aw
open Go Go.Proofs.Try

theorem ceil_le {u f o : Int} (hu : 0 ≤ u) (hf : 1 ≤ f) : (u + f - 1).tdiv f ≤ o ↔ u ≤ o * f := by
  rw [Int.tdiv_eq_ediv_of_nonneg (by omega)]
  have h := Int.ediv_lt_iff_lt_mul (a := u + f - 1) (b := o + 1) (c := f) (by omega)
  rw [Int.add_mul, Int.one_mul] at h
  omega

theorem le_floor {u f o : Int} (hu : 0 ≤ u) (hf : 1 ≤ f) : o ≤ u.tdiv f ↔ o * f ≤ u := by
  rw [Int.tdiv_eq_ediv_of_nonneg hu]
  exact Int.le_ediv_iff_mul_le (by omega)

end Go.Aw
end

section
set_option maxRecDepth 100000
namespace Go.Aw
open Go Go.Proofs.Try

theorem bitsL_len (i : Nat) : (bitsL i).length ≤ 6 := by
  have := List.length_filter_le (fun j => i.testBit j) (List.range 6)
  simpa [bitsL] using this

end Go.Aw
end

section
set_option maxRecDepth 100000
namespace Go.Aw
open Go Go.Proofs.Try

/-- What is said to be wrong, if anything must be. -/
theorem wrong_told {w : Works} (hok : w.Ok) {l : List Wgh} (hl : l.length ≤ 6) (h0 : ozOk w l 0 = false) : ∃ p, wrongF w l = some p ∧ p.1.length ≤ 6 ∧ wrongR (ozOk w l) (2 ^ l.length) = (true, p.1) := by
  have hq := wrong_eq (ozOk w l) hl
  obtain ⟨f1, f2, f3⟩ := sets_facts l.length (by omega)
  have hF : wrongF w l = (allSets l.length).find? fun p => ozOk w l p.2 := rfl
  rw [← hF] at hq
  cases hf : wrongF w l with
  | none =>
    obtain ⟨p, hp, e⟩ := List.any_eq_true.1 (List.all_eq_true.1 f2 (2 ^ l.length - 1) (List.mem_range.2 (by have := Nat.two_pow_pos l.length; omega)))
    have h1 := List.find?_eq_none.1 (hF ▸ hf) p hp
    rw [beq_iff_eq] at e
    rw [e] at h1
    refine absurd (ozOk_none hok fun k hk => ?_) h1
    rw [Nat.testBit_two_pow_sub_one]; simpa using hk
  | some p =>
    rw [hf] at hq
    have hpm := List.mem_of_find?_eq_some (hF ▸ hf)
    have h1 := List.all_eq_true.1 f1 p hpm
    simp only [Bool.and_eq_true, decide_eq_true_eq] at h1
    exact ⟨p, rfl, by rw [h1.1]; exact bitsL_len _, hq⟩

end Go.Aw
end

section
set_option maxRecDepth 100000
namespace Go.Aw
open Go Go.Proofs.Try

/-- A byte. -/
def Byte (n : Int) : Prop := 0 ≤ n ∧ n < 256

theorem byte_conv {n : Int} (h : Byte n) : IntKind.i64.wrap n = n := by simp only [Byte] at h; exact w64 (by omega) (by omega)

/-- Five bytes. -/
structure B5 where
  a : Int
  b : Int
  c : Int
  e : Int
  f : Int
deriving DecidableEq

def B5.d (s : B5) : D := .agg [.int .u8 s.a, .int .u8 s.b, .int .u8 s.c, .int .u8 s.e, .int .u8 s.f]

structure B5.Ok (s : B5) : Prop where
  a : Byte s.a
  b : Byte s.b
  c : Byte s.c
  e : Byte s.e
  f : Byte s.f

structure Shop where
  slips : List B5
  p : Int
  q : Int

def Shop.d (x : Shop) : D := .agg [.sl (x.slips.map B5.d), .int .u8 x.p, .int .u8 x.q]

structure Shop.Ok (x : Shop) : Prop where
  s : ∀ v ∈ x.slips, v.Ok
  p : Byte x.p
  q : Byte x.q

def v0 : B5 := ⟨20, 3, 40, 18, 4⟩

theorem v0_ok : v0.Ok := by constructor <;> simp [Byte, v0]

/-- How many slips there are; the bytes of each. -/
def Shop.n (x : Shop) : Nat := max 1 (min x.slips.length 4)
def Shop.v (x : Shop) (i : Nat) : B5 := x.slips.getD i v0

theorem Shop.v_ok {x : Shop} (hx : x.Ok) (i : Nat) : (x.v i).Ok := by
  rw [Shop.v, List.getD_eq_getElem?_getD]
  cases h : x.slips[i]? with
  | none => exact v0_ok
  | some v => exact hx.s _ (List.mem_of_getElem? h)

def slipOf (v : B5) : Slip := ⟨⟨max 1 (1 + v.a % 40 - v.c % 5), 1 + v.a % 40 + v.c / 5 % 5⟩, ⟨max 0 (v.b % 16 - v.e % 4), v.b % 16 + v.e / 4 % 4⟩, v.f % 30⟩

def Shop.hides (x : Shop) : Int := 1 + x.p % 90
def Shop.w (x : Shop) : Works := ⟨(List.range x.n).map fun i => slipOf (x.v i), x.hides, x.hides + x.q % 60⟩
def Shop.thick (x : Shop) : List Int := (List.range x.n).map fun i => 1 + (x.v i).a % 40
def Shop.ounces (x : Shop) : List Int := (List.range x.n).map fun i => (x.v i).b % 16

theorem slipOf_ok {v : B5} (hv : v.Ok) : (slipOf v).Ok := by
  have k1 := hv.a
  have k2 := hv.b
  have k3 := hv.c
  have k4 := hv.e
  have k5 := hv.f
  simp only [Byte] at k1 k2 k3 k4 k5
  exact ⟨by simp only [slipOf]; omega, by simp only [slipOf]; omega, by simp only [slipOf]; omega⟩

theorem Shop.w_len (x : Shop) : x.w.slips.length = x.n := by simp [Shop.w]
theorem Shop.n_bnd (x : Shop) : 1 ≤ x.n ∧ x.n ≤ 4 := by simp only [Shop.n]; omega

theorem c47 {x : Shop} (hx : x.Ok) : PC prog 47 [.d x.d] (.tup [.d x.w.d, .d (.sl (x.thick.map (.int .i64))), .d (.sl (x.ounces.map (.int .i64)))]) := by
  refine PC.run (fun k => k == 18 || k == 28 || k == 29) tt_ok (fn := f47) (rs := [.cell 2 24, .tmp 3, .tmp 4]) rfl rfl rfl rfl rfl rfl rfl ?_
  have h1 := hx.p
  have h2 := hx.q
  have e1 := byte_conv h1
  have e2 := byte_conv h2
  simp only [Byte] at h1 h2
  have m1 : x.p.tmod 90 = x.p % 90 := Int.tmod_eq_emod_of_nonneg h1.1
  have m2 : x.q.tmod 60 = x.q % 60 := Int.tmod_eq_emod_of_nonneg h2.1
  have z90 : (90 : Int) ≠ 0 := by omega
  have z60 : (60 : Int) ≠ 0 := by omega
  have hhi : x.hides = 1 + x.p % 90 := rfl
  have w1 : IntKind.i64.wrap (1 + x.p % 90) = x.hides := w64 (by omega) (by omega)
  have w2 : IntKind.i64.wrap (x.hides + x.q % 60) = x.hides + x.q % 60 := w64 (by omega) (by omega)
  have hn4 := x.n_bnd
  have hnd : x.n = max 1 (min x.slips.length 4) := rfl
  simp only [go_sem, Shop.d, e1, e2, m1, m2, remO_ne z90, remO_ne z60, w1, w2, Bool.or_true, Bool.true_or, Bool.or_false, Bool.false_or]
  change AWP _ _ _ _ _ _ _ _
  refine AWP.nilrow 2 0 5 rfl rfl (Nat.zero_le _) ?_
  refine ALoop.by (S := Nat) (fun i => [(8, .d (.int .i64 i)), (7, .ref 4 i 0 i), (6, .ref 3 i 0 i), (5, .ptr 2 0), (2, .ptr 1 0), (1, .ptr 0 0)])
    (fun i => [.cells [.d (.sl (x.slips.map B5.d)), .d (.int .u8 x.p), .d (.int .u8 x.q)], .cells [.d (.sl []), .d (.int .i64 0), .d (.int .i64 0)],
      .cells [.ref 5 i 0 i, .d (.int .i64 x.hides), .d (.int .i64 (x.hides + x.q % 60))], .arr 1 false (((List.range i).map fun k => 1 + (x.v k).a % 40).map (.int .i64)), .arr 1 false (((List.range i).map fun k => (x.v k).b % 16).map (.int .i64)), .arr 5 (decide (i = 0)) (((List.range i).map fun k => slipOf (x.v k)).map Slip.d)])
    (fun i => 4 - i) (fun i => i ≤ x.n) 0 (Nat.zero_le _) (fun _ h => nomatch h) (Nat.zero_le _) ?_ ?_
  · exact ForgetTo.same' (Nat.zero_le _) (by simp [EWe, Env.look]) (by simp)
  rintro i hi hn
  have hwd : i = x.n → x.w.d = .agg [.sl (((List.range i).map fun k => slipOf (x.v k)).map Slip.d), .int .i64 x.hides, .int .i64 (x.hides + x.q % 60)] ∧ x.thick = ((List.range i).map fun k => 1 + (x.v k).a % 40) ∧ x.ounces = ((List.range i).map fun k => (x.v k).b % 16) := fun h => by subst h; exact ⟨rfl, rfl, rfl⟩
  refine AWP.run (fun k => k == 18 || k == 28 || k == 29) tt_ok (fun _ h => nomatch h) (Nat.zero_le _) rfl ?_
  simp only [go_sem, Bool.or_true, Bool.true_or, Bool.or_false, Bool.false_or, List.length_map]
  by_cases hin : i < x.n
  · have hv := x.v_ok hx i
    have hst1 : ((List.range (i + 1)).map fun k => 1 + (x.v k).a % 40) = ((List.range i).map fun k => 1 + (x.v k).a % 40) ++ [1 + (x.v i).a % 40] := by rw [List.range_succ, List.map_append]; rfl
    have hst2 : ((List.range (i + 1)).map fun k => (x.v k).b % 16) = ((List.range i).map fun k => (x.v k).b % 16) ++ [(x.v i).b % 16] := by rw [List.range_succ, List.map_append]; rfl
    have hst3 : ((List.range (i + 1)).map fun k => slipOf (x.v k)) = ((List.range i).map fun k => slipOf (x.v k)) ++ [slipOf (x.v i)] := by rw [List.range_succ, List.map_append]; rfl
    have hix : i < x.slips.length → idx? (x.slips.map B5.d) (i : Int) = some (x.v i).d := fun h => by simp [idx?, List.getElem?_eq_getElem h, Shop.v, List.getD_eq_getElem?_getD]
    have hnil : x.slips.length ≤ i → x.v i = v0 := fun h => by rw [Shop.v, List.getD_eq_getElem?_getD, List.getElem?_eq_none h]; rfl
    have hnx : IntKind.i64.wrap ((i : Int) + 1) = (i : Int) + 1 := w64 (by omega) (by omega)
    have l1 : (((List.range i).map fun k => 1 + (x.v k).a % 40).map (D.int .i64)).length = i := by simp
    have l2 : (((List.range i).map fun k => (x.v k).b % 16).map (D.int .i64)).length = i := by simp
    have l3 : (((List.range i).map fun k => slipOf (x.v k)).map Slip.d).length = i := by simp
    have hi1 : i + 1 ≤ 4294967296 := by omega
    have hi2 : decide (i ≤ 4294967295) = true := by simp only [decide_eq_true_eq]; omega
    generalize ((List.range i).map fun k => 1 + (x.v k).a % 40) = M1 at *
    generalize ((List.range i).map fun k => (x.v k).b % 16) = M2 at *
    generalize ((List.range i).map fun k => slipOf (x.v k)) = M3 at *
    generalize x.v i = v at *
    have b1 := hv.a
    have b2 := hv.b
    have b3 := hv.c
    have b4 := hv.e
    have b5 := hv.f
    have f1 := byte_conv b1
    have f2 := byte_conv b2
    have f3 := byte_conv b3
    have f4 := byte_conv b4
    have f5 := byte_conv b5
    simp only [Byte] at b1 b2 b3 b4 b5
    have z40 : (40 : Int) ≠ 0 := by omega
    have z16 : (16 : Int) ≠ 0 := by omega
    have z5 : (5 : Int) ≠ 0 := by omega
    have z4 : (4 : Int) ≠ 0 := by omega
    have z30 : (30 : Int) ≠ 0 := by omega
    have n1 : v.a.tmod 40 = v.a % 40 := Int.tmod_eq_emod_of_nonneg b1.1
    have n2 : v.b.tmod 16 = v.b % 16 := Int.tmod_eq_emod_of_nonneg b2.1
    have n3 : v.c.tmod 5 = v.c % 5 := Int.tmod_eq_emod_of_nonneg b3.1
    have n4 : v.c.tdiv 5 = v.c / 5 := Int.tdiv_eq_ediv_of_nonneg b3.1
    have n5 : (v.c / 5).tmod 5 = v.c / 5 % 5 := Int.tmod_eq_emod_of_nonneg (by omega)
    have n6 : v.e.tmod 4 = v.e % 4 := Int.tmod_eq_emod_of_nonneg b4.1
    have n7 : v.e.tdiv 4 = v.e / 4 := Int.tdiv_eq_ediv_of_nonneg b4.1
    have n8 : (v.e / 4).tmod 4 = v.e / 4 % 4 := Int.tmod_eq_emod_of_nonneg (by omega)
    have n9 : v.f.tmod 30 = v.f % 30 := Int.tmod_eq_emod_of_nonneg b5.1
    have v1 : IntKind.i64.wrap (1 + v.a % 40) = 1 + v.a % 40 := w64 (by omega) (by omega)
    have v2 : IntKind.i64.wrap (v.c / 5) = v.c / 5 := w64 (by omega) (by omega)
    have v3 : IntKind.i64.wrap (v.e / 4) = v.e / 4 := w64 (by omega) (by omega)
    have v4 : IntKind.i64.wrap (1 + v.a % 40 - v.c % 5) = 1 + v.a % 40 - v.c % 5 := w64 (by omega) (by omega)
    have v5 : IntKind.i64.wrap (1 + v.a % 40 + v.c / 5 % 5) = 1 + v.a % 40 + v.c / 5 % 5 := w64 (by omega) (by omega)
    have v6 : IntKind.i64.wrap (v.b % 16 - v.e % 4) = v.b % 16 - v.e % 4 := w64 (by omega) (by omega)
    have v7 : IntKind.i64.wrap (v.b % 16 + v.e / 4 % 4) = v.b % 16 + v.e / 4 % 4 := w64 (by omega) (by omega)
    have tail : (i = 0 ∧ x.slips.length = 0) ∨ (i = 0 ∧ 0 < x.slips.length) ∨ (i ≠ 0 ∧ i < x.slips.length ∧ i < 4) := by omega
    rcases tail with ⟨r1, r2⟩ | ⟨r1, r2⟩ | ⟨r1, r2, r3⟩
    case' inl =>
      have d1 : decide ((i : Int) = 0) = true := by simp only [decide_eq_true_eq]; omega
      have d2 : decide ((i : Int) < x.slips.length) = false := by simp only [decide_eq_false_iff_not]; omega
      have hv0 := hnil (by omega)
      simp only [go_sem, Bool.or_true, Bool.true_or, Bool.or_false, Bool.false_or, d1, d2, List.length_map]
      have hB : Blk.cells [.d (.int .u8 20), .d (.int .u8 3), .d (.int .u8 40), .d (.int .u8 18), .d (.int .u8 4)] = Blk.cells [.d (.int .u8 v.a), .d (.int .u8 v.b), .d (.int .u8 v.c), .d (.int .u8 v.e), .d (.int .u8 v.f)] := by rw [hv0]; rfl
      rw [hB]
    case' inr.inl =>
      have d1 : decide ((i : Int) = 0) = true := by simp only [decide_eq_true_eq]; omega
      have d2 : decide ((i : Int) < x.slips.length) = true := by simp only [decide_eq_true_eq]; omega
      have hvx := hix (by omega)
      simp only [go_sem, Bool.or_true, Bool.true_or, Bool.or_false, Bool.false_or, d1, d2, List.length_map, hvx, B5.d]
    case' inr.inr =>
      have d1 : decide ((i : Int) = 0) = false := by simp only [decide_eq_false_iff_not]; omega
      have d2 : decide ((i : Int) < x.slips.length) = true := by simp only [decide_eq_true_eq]; omega
      have d3 : decide ((i : Int) < 4) = true := by simp only [decide_eq_true_eq]; omega
      have hvx := hix (by omega)
      simp only [go_sem, Bool.or_true, Bool.true_or, Bool.or_false, Bool.false_or, d1, d2, d3, List.length_map, hvx, B5.d]
    all_goals
      refine ADrw.treeG (fun k => k == 18 || k == 28 || k == 29) tt_ok (by kernel_rfl) (fun k => if k = 1 ∨ k = 6 then some .L else some .S) (.ones [0, 1, 2, 3, 4, 5, 6, 7, 8, 9, 10] .done) (Nat.zero_le _) (fun _ h => nomatch h) rfl rfl (by kernel_rfl) ?_
      simp only [go_sem, Bool.or_true, Bool.true_or, Bool.or_false, Bool.false_or, f1, f2, n1, n2, v1, remO_ne z40, remO_ne z16, l1, l2, hi1, hi2]
      refine ADrw.treeG (fun k => k == 18 || k == 28 || k == 29) tt_ok (by kernel_rfl) (fun k => if k = 1 ∨ k = 4 ∨ k = 11 ∨ k = 19 ∨ k = 26 ∨ k = 33 then some .L else if k = 38 ∨ k = 40 then some .W else some .S) (.ones [0, 1, 2, 3, 4, 5, 6, 7, 8, 9, 10, 11, 12, 13, 14, 15, 16, 17, 18, 19, 20, 21, 22, 23, 24, 25, 26, 27, 28, 29, 30, 31, 32, 33, 34, 35, 36, 37, 38, 39, 40] .done) (Nat.zero_le _) (fun _ h => nomatch h) rfl rfl (by kernel_rfl) ?_
      simp only [go_sem, Bool.or_true, Bool.true_or, Bool.or_false, Bool.false_or, f3, n3, n4, n5, v2, v4, v5, remO_ne z5, quoO_ne z5]
      refine (c22 (max 1 (1 + v.a % 40 - v.c % 5)) (1 + v.a % 40 + v.c / 5 % 5)).callS rfl rfl rfl rfl rfl rfl ?_
      simp only [go_sem, Bool.or_true, Bool.true_or, Bool.or_false, Bool.false_or, f4, n6, n7, n8, v3, v6, v7, remO_ne z4, quoO_ne z4]
      refine (c22 (max 0 (v.b % 16 - v.e % 4)) (v.b % 16 + v.e / 4 % 4)).callS rfl rfl rfl rfl rfl rfl ?_
      simp only [go_sem, Bool.or_true, Bool.true_or, Bool.or_false, Bool.false_or, f5, n9, remO_ne z30, Sp.d, l3, hi1, hi2, List.length_map]
      refine ⟨i + 1, by omega, by omega, ?_⟩
      refine ForgetTo.drop (H0 := [_, _, _, _, _, _]) (Y := [_]) (Nat.zero_le _) ?_ (by simp [BBs, BB, VBs, VB]) ?_
      · rw [hst1, hst2, hst3]; simp [slipOf, Slip.d, Sp.d]
      · simp [EWp, Env.look, pubV, hnx]
  · have hie : i = x.n := by omega
    obtain ⟨p1, p2, p3⟩ := hwd hie
    rw [p1, p2, p3]
    have hle : (((List.range i).map fun k => 1 + (x.v k).a % 40).map (D.int .i64)).take i = ((List.range i).map fun k => 1 + (x.v k).a % 40).map (D.int .i64) := List.take_of_length_le (by simp)
    have hle2 : (((List.range i).map fun k => (x.v k).b % 16).map (D.int .i64)).take i = ((List.range i).map fun k => (x.v k).b % 16).map (D.int .i64) := List.take_of_length_le (by simp)
    have hle3 : (((List.range i).map fun k => slipOf (x.v k)).map Slip.d).take i = ((List.range i).map fun k => slipOf (x.v k)).map Slip.d := List.take_of_length_le (by simp)
    have hl1 : ((List.range i).map fun k => 1 + (x.v k).a % 40).length = i := by simp
    have hl2 : ((List.range i).map fun k => (x.v k).b % 16).length = i := by simp
    have hl3 : ((List.range i).map fun k => slipOf (x.v k)).length = i := by simp
    generalize ((List.range i).map fun k => 1 + (x.v k).a % 40) = M1 at *
    generalize ((List.range i).map fun k => (x.v k).b % 16) = M2 at *
    generalize ((List.range i).map fun k => slipOf (x.v k)) = M3 at *
    have d1 : decide ((i : Int) = 0) = false := by simp only [decide_eq_false_iff_not]; omega
    by_cases h4 : i < x.slips.length
    · have d2 : decide ((i : Int) < x.slips.length) = true := by simp only [decide_eq_true_eq]; omega
      have d3 : decide ((i : Int) < 4) = false := by simp only [decide_eq_false_iff_not]; omega
      simp only [go_sem, Bool.or_true, Bool.true_or, Bool.or_false, Bool.false_or, d1, d2, d3, List.length_map, hle, hle2, hle3, hl1, hl2, hl3]
    · have d2 : decide ((i : Int) < x.slips.length) = false := by simp only [decide_eq_false_iff_not]; omega
      simp only [go_sem, Bool.or_true, Bool.true_or, Bool.or_false, Bool.false_or, d1, d2, List.length_map, hle, hle2, hle3, hl1, hl2, hl3]
end Go.Aw
end

section
set_option maxRecDepth 100000
namespace Go.Aw
open Go Go.Proofs.Try

theorem Shop.w_ok {x : Shop} (hx : x.Ok) : x.w.Ok := by
  have h1 := hx.p
  have h2 := hx.q
  simp only [Byte] at h1 h2
  refine ⟨by rw [x.w_len]; exact x.n_bnd, by simp only [Shop.w, Shop.hides]; omega, fun s hs => ?_⟩
  obtain ⟨i, _, rfl⟩ := List.mem_map.1 hs
  exact slipOf_ok (x.v_ok hx i)

theorem Shop.sl_eq (x : Shop) {i : Nat} (h : i < x.n) : x.w.sl i = slipOf (x.v i) := by
  simp [Works.sl, Shop.w, List.getD_eq_getElem?_getD, List.getElem?_range h]

theorem Shop.ounces_len (x : Shop) : x.ounces.length = x.n := by simp [Shop.ounces]

theorem c49 (w : Works) (hw : w.slips.length ≤ 4294967296) : PC prog 49 [.d w.d] (.d w.d) := by
  refine PC.run (fun _ => false) tt_ok (fn := f49) (rs := [.cell 2 24]) rfl rfl rfl rfl rfl rfl rfl ?_
  have hsz : sized 5 (w.slips.map Slip.d) = true := by simp [sized, Slip.d, dcells]
  have hs0 : sized 5 [] = true := rfl
  simp only [go_sem, Works.d, hsz, hs0, List.length_map, hw]

def inB (n : Int) (s : Sp) : Bool := decide (s.lo ≤ n) && decide (n ≤ s.hi)

theorem c53 (n : Int) (s : Sp) : PC prog 53 [.d (.int .i64 n), .d s.d] (.d (.bool (inB n s))) := by
  refine PC.run (fun _ => false) tt_ok (fn := f53) (rs := [.tmp 4]) rfl rfl rfl rfl rfl rfl rfl ?_
  simp only [go_sem, Sp.d]
  have hge : decide (n ≥ s.lo) = decide (s.lo ≤ n) := rfl
  cases h1 : decide (s.lo ≤ n) <;> simp only [go_sem, h1, inB]

end Go.Aw
end

section
set_option maxRecDepth 100000
namespace Go.Aw
open Go Go.Proofs.Try

def EWq (n : Nat) (H : Heap) (E : Env) : Env → Prop
  | [] => True
  | (k, v) :: r => pubV n H (E.look k) = some v ∧ EWq n H E r

theorem EWq_ew {n : Nat} {H : Heap} {E : Env} : ∀ {E' : Env}, EWq n H E E' → EW n H E E'
  | [], _ => trivial
  | (_, _) :: _, h => ⟨.inr (.inr (.inl h.1)), EWq_ew h.2⟩

/-- The newest blocks are dropped; rows among them turn into data. -/
theorem ForgetTo.dropR {n0 : Nat} {E E' : Env} {H0 Y H' : Heap} (hn : n0 ≤ H'.length) (hH : H0 = H') (hbb : BBs H'.length H') (he : EWq H'.length (H0 ++ Y) E E') : ForgetTo n0 E (H0 ++ Y) E' H' := by
  subst hH
  exact ⟨hn, by simp, .inr (by rw [List.take_left]; exact hbb), List.take_left, EWq_ew he⟩

def shopB (x : Shop) : Blk := .cells [.d (.sl (x.slips.map B5.d)), .d (.int .u8 x.p), .d (.int .u8 x.q)]

end Go.Aw
end

section
set_option maxRecDepth 100000
namespace Go.Aw
open Go Go.Proofs

theorem has_u8 {f : Nat} {y : D} (h : HasT Try.prog (f + 1) 5 y) : ∃ n, y = .int .u8 n ∧ Byte n := by
  unfold HasT at h
  rw [Try.underlying5] at h
  obtain ⟨n, rfl, h⟩ := h
  refine ⟨n, rfl, ?_⟩
  simp [Lit.wf, IntKind.min, IntKind.max, IntKind.bits, IntKind.signed] at h
  simp only [Byte]; omega

theorem has_b5 {f : Nat} {y : D} (h : HasT Try.prog (f + 3) 183 y) : ∃ s : B5, y = s.d ∧ s.Ok := by
  unfold HasT at h
  rw [Try.underlying183] at h
  obtain ⟨l, rfl, h⟩ := h
  simp only [HasN] at h
  obtain ⟨y1, r1, rfl, h1, y2, r2, rfl, h2, y3, r3, rfl, h3, y4, r4, rfl, h4, y5, r5, rfl, h5, rfl⟩ := h
  obtain ⟨n1, rfl, b1⟩ := has_u8 h1
  obtain ⟨n2, rfl, b2⟩ := has_u8 h2
  obtain ⟨n3, rfl, b3⟩ := has_u8 h3
  obtain ⟨n4, rfl, b4⟩ := has_u8 h4
  obtain ⟨n5, rfl, b5⟩ := has_u8 h5
  exact ⟨⟨n1, n2, n3, n4, n5⟩, rfl, ⟨b1, b2, b3, b4, b5⟩⟩

theorem has_b5s {f : Nat} {y : D} (h : HasT Try.prog (f + 4) 90 y) : ∃ l : List B5, y = .sl (l.map B5.d) ∧ ∀ p ∈ l, p.Ok := by
  unfold HasT at h
  rw [Try.underlying90] at h
  obtain ⟨l, rfl, _, hl⟩ := h
  obtain ⟨ss, rfl⟩ := has_list (enc := fun n : {n : B5 // n.Ok} => n.1.d) (fun y hy => by obtain ⟨n, rfl, hn⟩ := has_b5 hy; exact ⟨⟨n, hn⟩, rfl⟩) l hl
  refine ⟨ss.map Subtype.val, by simp, fun n hn => ?_⟩
  obtain ⟨x, _, rfl⟩ := List.mem_map.1 hn
  exact x.2

theorem has_b2 {f : Nat} {y : D} (h : HasT Try.prog (f + 3) 91 y) : ∃ a b : Int, y = .agg [.int .u8 a, .int .u8 b] ∧ Byte a ∧ Byte b := by
  unfold HasT at h
  rw [Try.underlying91] at h
  obtain ⟨l, rfl, h⟩ := h
  simp only [HasN] at h
  obtain ⟨y1, r1, rfl, h1, y2, r2, rfl, h2, rfl⟩ := h
  obtain ⟨n1, rfl, b1⟩ := has_u8 h1
  obtain ⟨n2, rfl, b2⟩ := has_u8 h2
  exact ⟨n1, n2, rfl, b1, b2⟩

theorem has_shop {f : Nat} {y : D} (h : HasT Try.prog (f + 5) 93 y) : ∃ x : Shop, y = x.d ∧ x.Ok := by
  unfold HasT at h
  rw [Try.underlying93] at h
  obtain ⟨l, rfl, h⟩ := h
  simp only [HasFs] at h
  obtain ⟨y1, r1, rfl, h1, y2, r2, rfl, h2, rfl⟩ := h
  obtain ⟨s, rfl, hs⟩ := has_b5s h1
  obtain ⟨a, b, rfl, ha, hb⟩ := has_b2 h2
  exact ⟨⟨s, a, b⟩, rfl, ⟨hs, ha, hb⟩⟩
end Go.Aw
end

section
set_option maxRecDepth 100000
namespace Go.Aw
open Go Go.Proofs.Try

def penceF (w : Works) (l : List Int) : Int := (l.map fun c => (w.sl c.toNat).pence).sum

/-- Ascending lists of so many slips at most. -/
structure Asc (N k : Nat) (m : List Int) : Prop where
  len : m.length ≤ k
  mem : ∀ x ∈ m, 0 ≤ x ∧ x < (N : Int)
  asc : m.Pairwise (· ≤ ·)

def lexI : List Int → List Int → Bool
  | x :: r, y :: s => if x ≠ y then decide (x < y) else lexI r s
  | _, _ => false

/-- Is a list cheaper, or as cheap and shorter, or as long and smaller? -/
def betterK (w : Works) (a b : List Int) : Bool := decide (penceF w a < penceF w b) || (decide (penceF w a = penceF w b) && (decide (a.length < b.length) || (decide (a.length = b.length) && lexI a b)))

structure PlanInv (w : Works) (u : List Int) (L : List (List Int)) (s : PlanS) : Prop where
  no : s.found = false → s.best = [] ∧ s.pence = 0 ∧ ∀ m ∈ L, goodP w (cntF (u ++ m)) = false
  yes : s.found = true → (s.best ∈ L ∧ goodP w (cntF (u ++ s.best)) = true) ∧ s.pence = penceF w s.best ∧ ∀ m ∈ L, goodP w (cntF (u ++ m)) = true → betterK w m s.best = false

end Go.Aw
end

section
set_option maxRecDepth 100000
namespace Go.Aw
open Go Go.Proofs.Try

/-- What is in a slot; a list that may be nil is just that. -/
def EWi (E : Env) : Env → Prop
  | [] => True
  | (k, v) :: r => (E.look k = v ∨ ∃ l : List Int, E.look k = lvI l ∧ v = .d (.sl (l.map (.int .i64)))) ∧ EWi E r

theorem EWi_ew {n : Nat} {H : Heap} (hH : H.length ≤ n) {E : Env} : ∀ {E' : Env}, EWi E E' → EW n H E E'
  | [], _ => trivial
  | (_, _) :: _, h => ⟨by
      rcases h.1 with h1 | ⟨l, h1, h2⟩
      · exact .inr (.inl ⟨h1, hH⟩)
      · subst h2
        rw [h1]
        cases l with
        | nil => exact .inr (.inr (.inr ⟨some true, [], rfl, .inr rfl⟩))
        | cons x r => exact .inr (.inl ⟨rfl, hH⟩), EWi_ew hH h.2⟩

theorem ForgetTo.sameI {n0 : Nat} {E E' : Env} {H H' : Heap} (hn : n0 ≤ H.length) (he : EWi E E') (hH : H = H') : ForgetTo n0 E H E' H' := by
  subst hH
  exact ⟨hn, Nat.le_refl _, .inl (Nat.le_refl _), List.take_length, EWi_ew (Nat.le_refl _) he⟩

/-- What a plan is. -/
structure PlanOk (w : Works) (u plan : List Int) (pence e : Int) : Prop where
  no : e ≠ 0 → (e = 9 ∧ plan = [] ∧ pence = 0) ∧ ∀ m, Asc w.slips.length (8 - u.length) m → goodP w (cntF (u ++ m)) = false
  yes : e = 0 → (goodP w (cntF (u ++ plan)) = true ∧ pence = penceF w plan) ∧ ∀ m, Asc w.slips.length (8 - u.length) m → goodP w (cntF (u ++ m)) = true → betterK w m plan = false
  asc : Asc w.slips.length (8 - u.length) plan

end Go.Aw
end

section
set_option maxRecDepth 100000
namespace Go.Aw
open Go Go.Proofs

structure B4 where
  a : Int
  b : Int
  c : Int
  e : Int
deriving DecidableEq

def B4.d (s : B4) : D := .agg [.int .u8 s.a, .int .u8 s.b, .int .u8 s.c, .int .u8 s.e]

structure B4.Ok (s : B4) : Prop where
  a : Byte s.a
  b : Byte s.b
  c : Byte s.c
  e : Byte s.e

structure B3 where
  a : Int
  b : Int
  c : Int
deriving DecidableEq

def B3.d (s : B3) : D := .agg [.int .u8 s.a, .int .u8 s.b, .int .u8 s.c]

structure B3.Ok (s : B3) : Prop where
  a : Byte s.a
  b : Byte s.b
  c : Byte s.c

theorem has_b4 {f : Nat} {y : D} (h : HasT Try.prog (f + 3) 115 y) : ∃ s : B4, y = s.d ∧ s.Ok := by
  unfold HasT at h
  rw [Try.underlying115] at h
  obtain ⟨l, rfl, h⟩ := h
  simp only [HasN] at h
  obtain ⟨y1, r1, rfl, h1, y2, r2, rfl, h2, y3, r3, rfl, h3, y4, r4, rfl, h4, rfl⟩ := h
  obtain ⟨n1, rfl, b1⟩ := has_u8 h1
  obtain ⟨n2, rfl, b2⟩ := has_u8 h2
  obtain ⟨n3, rfl, b3⟩ := has_u8 h3
  obtain ⟨n4, rfl, b4⟩ := has_u8 h4
  exact ⟨⟨n1, n2, n3, n4⟩, rfl, ⟨b1, b2, b3, b4⟩⟩

theorem has_b4s {f : Nat} {y : D} (h : HasT Try.prog (f + 4) 112 y) : ∃ l : List B4, y = .sl (l.map B4.d) ∧ ∀ p ∈ l, p.Ok := by
  unfold HasT at h
  rw [Try.underlying112] at h
  obtain ⟨l, rfl, _, hl⟩ := h
  obtain ⟨ss, rfl⟩ := has_list (enc := fun n : {n : B4 // n.Ok} => n.1.d) (fun y hy => by obtain ⟨n, rfl, hn⟩ := has_b4 hy; exact ⟨⟨n, hn⟩, rfl⟩) l hl
  refine ⟨ss.map Subtype.val, by simp, fun n hn => ?_⟩
  obtain ⟨x, _, rfl⟩ := List.mem_map.1 hn
  exact x.2

/-- Four numbers of two bytes. -/
structure W4 where
  a : Int
  b : Int
  c : Int
  e : Int

def W4.d (s : W4) : D := .agg [.int .u16 s.a, .int .u16 s.b, .int .u16 s.c, .int .u16 s.e]

structure W4.Ok (s : W4) : Prop where
  a : 0 ≤ s.a ∧ s.a < 65536
  b : 0 ≤ s.b ∧ s.b < 65536
  c : 0 ≤ s.c ∧ s.c < 65536
  e : 0 ≤ s.e ∧ s.e < 65536

end Go.Aw
end

section
set_option maxRecDepth 100000
namespace Go.Aw
open Go Go.Proofs.Try

/-- Is a mixture as wanted? -/
def goodM (l : List Stuff) (w : Want) (t : List Int) : Bool := mixW w (contF l t l.length).f (contF l t l.length).c

structure MixInv (l : List Stuff) (w : Want) (L : List (List Int)) (s : PlanS) : Prop where
  no : s.found = false → s.best = [] ∧ s.pence = 0 ∧ ∀ t ∈ L, goodM l w t = false
  yes : s.found = true → (s.best ∈ L ∧ goodM l w s.best = true) ∧ s.pence = (contF l s.best l.length).p ∧ ∀ t ∈ L, goodM l w t = true → s.pence ≤ (contF l t l.length).p ∧ ((contF l t l.length).p = s.pence → lexI t s.best = false)

/-- A list of ounces, one of each kind of stuff, together as many as are wanted. -/
structure OzOk (n : Nat) (w : Want) (t : List Int) : Prop where
  len : t.length = n
  pos : ∀ x ∈ t, 0 ≤ x
  sum : t.sum = w.ounces

/-- What the program answers about stuff that is as it must be. -/
structure MixOk (l : List Stuff) (w : Want) (best : List Int) (pence e : Int) : Prop where
  no : e ≠ 0 → (e = 9 ∧ best = [] ∧ pence = 0) ∧ ∀ t, OzOk l.length w t → goodM l w t = false
  yes : e = 0 → (OzOk l.length w best ∧ goodM l w best = true) ∧ pence = (contF l best l.length).p ∧ ∀ t, OzOk l.length w t → goodM l w t = true → pence ≤ (contF l t l.length).p ∧ ((contF l t l.length).p = pence → lexI t best = false)

end Go.Aw
end

section
set_option maxRecDepth 100000
namespace Go.Aw
open Go Go.Proofs.Try

def manyN (q : Nat → Bool) (n : Nat) : Nat := ((List.range n).filter q).length

theorem many_succ (q : Nat → Bool) (n : Nat) : manyN q (n + 1) = manyN q n + (if q n = true then 1 else 0) := by
  simp only [manyN, List.range_succ, List.filter_append, List.length_append, List.filter_cons, List.filter_nil]
  split <;> rfl

def maskN (q : Nat → Bool) : Nat → Nat
  | 0 => 0
  | i + 1 => maskN q i ||| (if q i = true then 2 ^ i else 0)

theorem maskN_test (q : Nat → Bool) : ∀ i j, (maskN q i).testBit j = (decide (j < i) && q j)
  | 0, j => by simp [maskN]
  | i + 1, j => by
    rw [maskN, Nat.testBit_or, maskN_test q i j]
    by_cases hj : j = i
    · subst hj
      cases hq : q j <;> simp [Nat.testBit_two_pow]
    · have e : decide (j < i + 1) = decide (j < i) := by simp; omega
      rw [e]
      split
      · rw [Nat.testBit_two_pow]
        simp [show ¬ i = j from fun h => hj h.symm]
      · simp

theorem maskN_lt (q : Nat → Bool) : ∀ i, maskN q i < 2 ^ i
  | 0 => by simp [maskN]
  | i + 1 => by
    rw [maskN]
    have h := maskN_lt q i
    refine Nat.or_lt_two_pow (by rw [Nat.pow_succ]; omega) ?_
    split
    · exact Nat.pow_lt_pow_succ (by omega)
    · exact Nat.two_pow_pos _

theorem maskN_len (q : Nat → Bool) {n : Nat} (hn : n ≤ 6) : (bitsL (maskN q n)).length = manyN q n := by
  have e : bitsL (maskN q n) = (List.range 6).filter fun j => decide (j < n) && q j := by
    rw [bitsL]
    exact List.filter_congr fun j _ => maskN_test q n j
  rw [e, manyN]
  have h5 : n = 0 ∨ n = 1 ∨ n = 2 ∨ n = 3 ∨ n = 4 ∨ n = 5 ∨ n = 6 := by omega
  rcases h5 with rfl | rfl | rfl | rfl | rfl | rfl | rfl <;> simp [List.range_succ, List.filter_append, List.filter_cons]

def outQ (but : List Nat) (skip : Int) (i : Nat) : Nat → Bool
  | 0 => false
  | k + 1 => outQ but skip i k || (decide (but.getD k 0 = i) && decide ((k : Int) ≠ skip))

theorem out_bits : ∀ s, s < 64 → ∀ j, j < 6 → outQ (bitsL s) (-1) j (bitsL s).length = s.testBit j := by decide +kernel
theorem out_less : ∀ n, n < 7 → ∀ s, s < 2 ^ n → ∀ k, k < (bitsL s).length → ∃ w, w < 2 ^ n ∧ (bitsL w).length < (bitsL s).length ∧ ∀ j, j < 6 → outQ (bitsL s) k j (bitsL s).length = w.testBit j := by decide +kernel
theorem bits_left : ∀ n, n < 7 → ∀ s, s < 2 ^ n → ((List.range n).filter fun j => !s.testBit j).length + (bitsL s).length = n := by decide +kernel
theorem bits_none : ∀ s, s < 64 → bitsL s = [] → s = 0 := by decide +kernel

/-- Do so many ounces agree with a weighing? -/
def inq (q : Int) (a : Wgh) : Prop := a.used.lo ≤ q * a.feet ∧ q * a.feet ≤ a.used.hi

theorem oz_mem {w : Works} {l : List Wgh} (hl : ∀ a ∈ l, a.Ok w) (but s : Nat) (q : Int) : ∀ i, i ≤ l.length → (((ozF w l but s i).lo ≤ q ∧ q ≤ (ozF w l but s i).hi) ↔ ((w.sl s).ounces.lo ≤ q ∧ q ≤ (w.sl s).ounces.hi) ∧ ∀ j, j < i → but.testBit j = false → (l.getD j wgh00).slip = (s : Int) → inq q (l.getD j wgh00))
  | 0, _ => by
    simp only [ozF]
    exact ⟨fun h => ⟨h, fun j hj => absurd hj (Nat.not_lt_zero j)⟩, fun h => h.1⟩
  | i + 1, hi => by
    have ih := oz_mem hl but s q i (by omega)
    have hg : l.getD i wgh00 ∈ l := by rw [List.getD_eq_getElem?_getD, List.getElem?_eq_getElem (by omega)]; exact List.getElem_mem _
    have ha := hl _ hg
    have hall : (∀ j, j < i + 1 → but.testBit j = false → (l.getD j wgh00).slip = (s : Int) → inq q (l.getD j wgh00)) ↔ (∀ j, j < i → but.testBit j = false → (l.getD j wgh00).slip = (s : Int) → inq q (l.getD j wgh00)) ∧ (but.testBit i = false → (l.getD i wgh00).slip = (s : Int) → inq q (l.getD i wgh00)) := by
      constructor
      · exact fun h => ⟨fun j hj => h j (by omega), h i (by omega)⟩
      · rintro ⟨h1, h2⟩ j hj
        by_cases e : j = i
        · subst e; exact h2
        · exact h1 j (by omega)
    rw [hall]
    simp only [ozF]
    generalize l.getD i wgh00 = a at *
    have e1 := ceil_le (o := q) ha.u.1 ha.f.1
    have e2 := le_floor (u := a.used.hi) (o := q) (by have := ha.u; omega) ha.f.1
    split
    · rename_i hc
      have h3 : (max (ozF w l but s i).lo ((a.used.lo + a.feet - 1).tdiv a.feet) ≤ q ∧ q ≤ min (ozF w l but s i).hi (a.used.hi.tdiv a.feet)) ↔ ((ozF w l but s i).lo ≤ q ∧ q ≤ (ozF w l but s i).hi) ∧ inq q a := by
        simp only [inq]; omega
      simp only
      rw [h3, ih]
      constructor
      · rintro ⟨⟨k1, k2⟩, k3⟩
        exact ⟨k1, k2, fun _ _ => k3⟩
      · rintro ⟨k1, k2, k3⟩
        exact ⟨⟨k1, k2⟩, k3 hc.1 hc.2⟩
    · rename_i hc
      rw [ih]
      constructor
      · rintro ⟨k1, k2⟩
        exact ⟨k1, k2, fun h1 h2 => absurd ⟨h1, h2⟩ hc⟩
      · rintro ⟨k1, k2, _⟩
        exact ⟨k1, k2⟩

theorem ozOk_iff {w : Works} {l : List Wgh} (hl : ∀ a ∈ l, a.Ok w) (but : Nat) : ozOk w l but = true ↔ ∀ s, s < w.slips.length → ∃ q, ((w.sl s).ounces.lo ≤ q ∧ q ≤ (w.sl s).ounces.hi) ∧ ∀ j, j < l.length → but.testBit j = false → (l.getD j wgh00).slip = (s : Int) → inq q (l.getD j wgh00) := by
  constructor
  · intro h s hs
    have h1 : (ozF w l but s l.length).lo ≤ (ozF w l but s l.length).hi := by
      rw [ozOk, List.all_eq_true] at h
      have := h (ozF w l but s l.length) (List.mem_map.2 ⟨s, List.mem_range.2 hs, rfl⟩)
      simpa using this
    exact ⟨_, (oz_mem hl but s _ l.length (Nat.le_refl _)).1 ⟨Int.le_refl _, h1⟩⟩
  · intro h
    refine ozOk_true fun s hs => ?_
    obtain ⟨q, hq⟩ := h s hs
    have := (oz_mem hl but s q l.length (Nat.le_refl _)).2 hq
    omega

/-- Weighings without some. -/
def restL (A : List Wgh) (o : Nat → Bool) (n : Nat) : List Wgh := ((List.range n).filter fun i => !o i).map fun i => A.getD i wgh00

theorem restL_succ (A : List Wgh) (o : Nat → Bool) (n : Nat) : restL A o (n + 1) = restL A o n ++ (if o n = true then [] else [A.getD n wgh00]) := by
  simp only [restL, List.range_succ, List.filter_append, List.map_append, List.filter_cons, List.filter_nil]
  cases o n <;> simp

theorem restL_le (A : List Wgh) (o : Nat → Bool) (n : Nat) : (restL A o n).length ≤ n := by
  have := List.length_filter_le (fun i => !o i) (List.range n)
  simpa [restL] using this

theorem restL_ok {w : Works} {A : List Wgh} (hA : ∀ a ∈ A, a.Ok w) (o : Nat → Bool) : ∀ a ∈ restL A o A.length, a.Ok w := by
  intro a ha
  obtain ⟨i, hi, rfl⟩ := List.mem_map.1 ha
  have hi := List.mem_range.1 (List.mem_filter.1 hi).1
  rw [List.getD_eq_getElem?_getD, List.getElem?_eq_getElem hi]
  exact hA _ (List.getElem_mem _)

theorem rest_oz {w : Works} {A : List Wgh} (hA : ∀ a ∈ A, a.Ok w) {o : Nat → Bool} {set : Nat} (ho : ∀ j, j < A.length → o j = set.testBit j) : ozOk w (restL A o A.length) 0 = ozOk w A set := by
  rw [Bool.eq_iff_iff, ozOk_iff (restL_ok hA o), ozOk_iff hA]
  refine forall_congr' fun s => forall_congr' fun _ => exists_congr fun q => and_congr_right fun _ => ?_
  constructor
  · intro h j hj hb hs
    have hm : A.getD j wgh00 ∈ restL A o A.length := List.mem_map.2 ⟨j, List.mem_filter.2 ⟨List.mem_range.2 hj, by rw [ho j hj, hb]; rfl⟩, rfl⟩
    obtain ⟨k, hk, he⟩ := List.getElem_of_mem hm
    have h1 := h k hk (by simp)
    have he' : (restL A o A.length).getD k wgh00 = A.getD j wgh00 := by rw [List.getD_eq_getElem?_getD, List.getElem?_eq_getElem hk]; exact he
    rw [he'] at h1
    exact h1 hs
  · intro h k hk _ hs
    have hm : (restL A o A.length).getD k wgh00 ∈ restL A o A.length := by rw [List.getD_eq_getElem?_getD, List.getElem?_eq_getElem hk]; exact List.getElem_mem _
    obtain ⟨j, hj, he⟩ := List.mem_map.1 hm
    obtain ⟨hj1, hj2⟩ := List.mem_filter.1 hj
    have hjl := List.mem_range.1 hj1
    rw [← he] at hs ⊢
    exact h j hjl (by rw [← ho j hjl]; simpa using hj2) hs

/-- What must be wrong: it is the least. -/
theorem wrong_least {w : Works} {l : List Wgh} (hE : wghE w l = 0) (h0 : ozOk w l 0 = false) : ∃ s, s < 2 ^ l.length ∧ wrongP w l = (bitsL s, 0) ∧ bitsL s ≠ [] ∧ ozOk w l s = true ∧ ∀ y, y < 2 ^ l.length → ozOk w l y = true → (bitsL s).length ≤ (bitsL y).length := by
  obtain ⟨hok, hl6, hlo⟩ := wghE_ok hE
  obtain ⟨p, h1, h2, h3⟩ := wrong_told hok hl6 h0
  have h2n : 2 ^ l.length ≤ 64 := Nat.pow_le_pow_right (n := 2) (by omega) hl6
  rcases wrongR_spec (ozOk w l) (2 ^ l.length) with ⟨e, _⟩ | ⟨_, ⟨x, x1, x2, x3⟩, hmin⟩
  · rw [e] at h3; cases h3
  · rw [h3] at x3 hmin
    simp only at x3 hmin
    refine ⟨x, x1, ?_, fun e => ?_, x2, fun y hy hf => ?_⟩
    · rw [wrongP, if_pos hE, if_neg (by rw [h0]; simp), h1, ← x3]
    · rw [bits_none x (by omega) e, h0] at x2; cases x2
    · have := hmin y hy hf
      rw [x3, lessN] at this
      split at this
      · simp at this; omega
      · omega
end Go.Aw
end

section
set_option maxRecDepth 100000
namespace Go.Aw
open Go Go.Proofs.Try

def insB (a b : Sp) : Bool := decide (b.lo ≤ a.lo) && (decide (a.hi ≤ b.hi) && decide (a.lo ≤ a.hi))

theorem c61 (a b : Sp) : PC prog 61 [.d a.d, .d b.d] (.d (.bool (insB a b))) := by
  refine PC.run (fun _ => false) tt_ok (fn := f61) (rs := [.tmp 4]) rfl rfl rfl rfl rfl rfl rfl ?_
  simp only [go_sem, Sp.d]
  have hge : ∀ p q : Int, decide (p ≥ q) = decide (q ≤ p) := fun _ _ => rfl
  cases h1 : decide (b.lo ≤ a.lo) with
  | false => simp only [go_sem, h1, insB]
  | true =>
    simp only [go_sem, h1]
    cases h2 : decide (a.hi ≤ b.hi) with
    | false => simp only [go_sem, h1, h2, insB]
    | true => simp only [go_sem, h1, h2, insB, Bool.true_and]

theorem c62 {w : Works} (hok : w.Ok) {l : List Wgh} (hl : l.length ≤ 6) (hlo : ∀ a ∈ l, a.Ok w) : PC prog 62 [.d w.d, .d (.sl (l.map Wgh.d))] (.d (.bool (ozOk w l 0))) := by
  obtain ⟨l1, l2⟩ := hok.len
  refine PC.run (fun _ => false) tt_ok (fn := f62) (rs := [.tmp 4]) rfl rfl rfl rfl rfl rfl rfl ?_
  simp only [go_sem, Works.d]
  refine ALoop.by (S := Nat) (fun s => [(5, .d (.int .i64 s)), (2, .ptr 0 0), (1, .d (.sl (l.map Wgh.d)))])
    (fun _ => [wrkB w]) (fun s => w.slips.length - s) (fun s => s ≤ w.slips.length ∧ ∀ k, k < s → (ozF w l 0 k l.length).lo ≤ (ozF w l 0 k l.length).hi) 0 (Nat.zero_le _) (fun _ h => nomatch h) ⟨Nat.zero_le _, fun k h => absurd h (Nat.not_lt_zero k)⟩ ?_ ?_
  · exact ForgetTo.same' (Nat.zero_le _) (by simp [EWe, Env.look]) (by simp [wrkB])
  rintro s ⟨hs, hgood⟩ hn
  refine AWP.run (fun _ => false) tt_ok (fun _ h => nomatch h) (Nat.zero_le _) rfl ?_
  simp only [go_sem, wrkB, List.length_map]
  refine Br_split (fun hd => ?_) (fun hd => ?_) <;> simp only [go_sem, hd]
  · have hsl : s < w.slips.length := by simpa using hd
    have hat := Works.at hsl
    have hoz := (hok.sl s).ounces
    have hnx : IntKind.i64.wrap ((s : Int) + 1) = (s : Int) + 1 := w64 (by omega) (by omega)
    have hmono := ozF_mono w l 0 s 0 l.length
    have hObd := ozF_bnd hok hlo 0 s l.length (Nat.le_refl _)
    rw [Nat.zero_add] at hmono
    simp only [ozF] at hmono
    obtain ⟨O, hO⟩ : ∃ O, O = ozF w l 0 s l.length := ⟨_, rfl⟩
    obtain ⟨N, hN⟩ : ∃ N : Nat, (N : Int) = (w.sl s).ounces.hi + 1 - (w.sl s).ounces.lo := ⟨((w.sl s).ounces.hi + 1 - (w.sl s).ounces.lo).toNat, by omega⟩
    rw [← hO] at hmono hObd
    simp only [go_sem, hat, Slip.d]
    refine ALoop.by (S := Nat) (fun k => [(7, .d (.int .i64 ((w.sl s).ounces.lo + k))), (6, .d (.bool (decide (O.lo ≤ O.hi ∧ O.lo < (w.sl s).ounces.lo + k)))), (5, .d (.int .i64 s)), (2, .ptr 0 0), (1, .d (.sl (l.map Wgh.d)))])
      (fun _ => [wrkB w]) (fun k => N - k) (fun k => k ≤ N) 0 (Nat.zero_le _) (fun _ h => nomatch h) (Nat.zero_le _) ?_ ?_
    · have h0 : decide (O.lo ≤ O.hi ∧ O.lo < (w.sl s).ounces.lo) = false := decide_eq_false (by omega)
      exact ForgetTo.same' (Nat.zero_le _) (by simp [EWe, Env.look, h0]) (by simp [wrkB])
    rintro k hk hn2
    refine AWP.run (fun _ => false) tt_ok (fun _ h => nomatch h) (Nat.zero_le _) rfl ?_
    simp only [go_sem, wrkB, hat, Slip.d]
    refine Br_split (fun hk2 => ?_) (fun hk2 => ?_) <;> simp only [go_sem, hk2]
    · have hkN : k < N := by simp only [decide_eq_true_eq] at hk2; omega
      obtain ⟨o, ho⟩ : ∃ o, o = (w.sl s).ounces.lo + (k : Int) := ⟨_, rfl⟩
      have ho1 : (w.sl s).ounces.lo + ((k + 1 : Nat) : Int) = o + 1 := by omega
      have hno : IntKind.i64.wrap (o + 1) = o + 1 := w64 (by omega) (by omega)
      rw [← ho]
      obtain ⟨sb, hsb⟩ : ∃ sb, sb = decide (O.lo ≤ O.hi ∧ O.lo < o) := ⟨_, rfl⟩
      rw [← hsb]
      refine ALoop.by (S := Nat) (fun i => [(9, .d (.int .i64 i)), (8, .d (.bool (decide ((ozF w l 0 s i).lo ≤ o ∧ o ≤ (ozF w l 0 s i).hi)))), (7, .d (.int .i64 o)), (6, .d (.bool sb)), (5, .d (.int .i64 s)), (2, .ptr 0 0), (1, .d (.sl (l.map Wgh.d)))])
        (fun _ => [wrkB w]) (fun i => l.length - i) (fun i => i ≤ l.length) 0 (Nat.zero_le _) (fun _ h => nomatch h) (Nat.zero_le _) ?_ ?_
      · have h0 : decide ((ozF w l 0 s 0).lo ≤ o ∧ o ≤ (ozF w l 0 s 0).hi) = true := decide_eq_true (by simp only [ozF]; omega)
        exact ForgetTo.same' (Nat.zero_le _) (by simp [EWe, Env.look, h0]) (by simp [wrkB])
      rintro i hi hn3
      refine AWP.run (fun _ => false) tt_ok (fun _ h => nomatch h) (Nat.zero_le _) rfl ?_
      simp only [go_sem, wrkB, List.length_map]
      refine Br_split (fun he => ?_) (fun he => ?_) <;> simp only [go_sem, he]
      · have hlt : i < l.length := by simpa using he
        have hix : idx? (l.map Wgh.d) (i : Int) = some (l[i]).d := by simp [idx?, List.getElem?_eq_getElem hlt]
        have hgd : l.getD i wgh00 = l[i] := by simp [List.getD_eq_getElem?_getD, List.getElem?_eq_getElem hlt]
        have ha := hlo _ (List.getElem_mem hlt)
        have hstep : ozF w l 0 s (i + 1) = if (0 : Nat).testBit i = false ∧ (l[i]).slip = (s : Int) then ⟨max (ozF w l 0 s i).lo (((l[i]).used.lo + (l[i]).feet - 1).tdiv (l[i]).feet), min (ozF w l 0 s i).hi ((l[i]).used.hi.tdiv (l[i]).feet)⟩ else ozF w l 0 s i := by rw [ozF, hgd]
        have hnx2 : IntKind.i64.wrap ((i : Int) + 1) = (i : Int) + 1 := w64 (by omega) (by omega)
        generalize l[i] = a at *
        generalize ozF w l 0 s i = P at *
        refine ADrw.treeG (fun _ => false) tt_ok (by kernel_rfl) (fun k => some .S) (.ones [0, 1, 2, 3, 4, 5, 6, 7, 8, 9, 10, 11, 12, 13, 14, 15, 16, 17, 18, 19, 20, 21, 22, 23, 24, 25] .done) (Nat.zero_le _) (fun _ h => nomatch h) rfl rfl (by kernel_rfl) ?_
        cases hp : decide (P.lo ≤ o ∧ o ≤ P.hi) with
        | false =>
          have hs3 : decide ((ozF w l 0 s (i + 1)).lo ≤ o ∧ o ≤ (ozF w l 0 s (i + 1)).hi) = false := by
            rw [hstep]
            rw [decide_eq_false_iff_not] at hp ⊢
            split
            · simp only; omega
            · exact hp
          simp only [go_sem]
          refine ⟨i + 1, hlt, by omega, ?_⟩
          exact ForgetTo.same' (Nat.zero_le _) (by simp [EWe, Env.look, hnx2, hs3]) (by simp [wrkB])
        | true =>
          have hp' : P.lo ≤ o ∧ o ≤ P.hi := by simpa using hp
          cases hsp : decide (a.slip = (s : Int)) with
          | false =>
            have hsp' : ¬ a.slip = (s : Int) := by simpa using hsp
            have hs3 : decide ((ozF w l 0 s (i + 1)).lo ≤ o ∧ o ≤ (ozF w l 0 s (i + 1)).hi) = true := by
              rw [hstep, if_neg (fun h => hsp' h.2)]; exact hp
            simp only [go_sem, hix, Wgh.d, hsp]
            refine ⟨i + 1, hlt, by omega, ?_⟩
            exact ForgetTo.same' (Nat.zero_le _) (by simp [EWe, Env.look, hnx2, hs3]) (by simp [wrkB])
          | true =>
            have hsp' : a.slip = (s : Int) := by simpa using hsp
            have m1 := Int.mul_le_mul (show o ≤ 20 by omega) (show a.feet ≤ 200 by have := ha.f; omega) (by have := ha.f; omega) (by omega)
            have m2 := Int.mul_nonneg (show 0 ≤ o by omega) (show 0 ≤ a.feet by have := ha.f; omega)
            have w1 : IntKind.i64.wrap (o * a.feet) = o * a.feet := w64 (by omega) (by omega)
            have e1 := ceil_le (o := o) ha.u.1 ha.f.1
            have e2 := le_floor (u := a.used.hi) (o := o) (by have := ha.u; omega) ha.f.1
            have hs3 : decide ((ozF w l 0 s (i + 1)).lo ≤ o ∧ o ≤ (ozF w l 0 s (i + 1)).hi) = inB (o * a.feet) a.used := by
              rw [hstep, if_pos ⟨by simp, hsp'⟩, inB, Bool.eq_iff_iff, Bool.and_eq_true, decide_eq_true_eq, decide_eq_true_eq, decide_eq_true_eq]
              simp only
              omega
            simp only [go_sem, hix, Wgh.d, hsp, w1]
            refine (c53 (o * a.feet) a.used).callS rfl rfl rfl rfl rfl rfl ?_
            simp only [go_sem]
            refine ⟨i + 1, hlt, by omega, ?_⟩
            exact ForgetTo.same' (Nat.zero_le _) (by simp [EWe, Env.look, hnx2, hs3]) (by simp [wrkB])
      · have hie : i = l.length := by simp only [decide_eq_false_iff_not] at he; omega
        subst hie
        rw [← hO]
        have hnew : ∀ b, decide (O.lo ≤ o ∧ o ≤ O.hi) = b → decide (O.lo ≤ O.hi ∧ O.lo < o + 1) = (sb || b) := fun b hb => by
          rw [← hb, hsb, Bool.eq_iff_iff, Bool.or_eq_true, decide_eq_true_eq, decide_eq_true_eq, decide_eq_true_eq]
          omega
        cases hs1 : sb with
        | true =>
          have := hnew _ rfl
          rw [hs1, Bool.true_or] at this
          simp only [go_sem, hno]
          refine ⟨k + 1, hkN, by omega, ?_⟩
          rw [ho1, this]
          exact ForgetTo.same' (Nat.zero_le _) (by simp [EWe, Env.look]) (by simp [wrkB])
        | false =>
          have := hnew _ rfl
          rw [hs1, Bool.false_or] at this
          simp only [go_sem, hno]
          refine ⟨k + 1, hkN, by omega, ?_⟩
          rw [ho1, this]
          exact ForgetTo.same' (Nat.zero_le _) (by simp [EWe, Env.look]) (by simp [wrkB])
    · have hkN : k = N := by simp only [decide_eq_false_iff_not] at hk2; omega
      by_cases h : O.lo ≤ O.hi
      · have d1 : decide (O.lo ≤ O.hi ∧ O.lo < (w.sl s).ounces.lo + (k : Int)) = true := decide_eq_true (by omega)
        simp only [go_sem, d1]
        refine ⟨s + 1, ⟨hsl, fun q hq => ?_⟩, by omega, ?_⟩
        · by_cases hqs : q = s
          · subst hqs; rw [← hO]; exact h
          · exact hgood q (by omega)
        · exact ForgetTo.same' (Nat.zero_le _) (by simp [EWe, Env.look, hnx]) (by simp [wrkB])
      · have d1 : decide (O.lo ≤ O.hi ∧ O.lo < (w.sl s).ounces.lo + (k : Int)) = false := decide_eq_false (fun hh => h hh.1)
        have hF := ozOk_false (but := 0) hsl (Nat.le_refl l.length) (by rw [← hO]; exact h)
        rw [hF]
        simp only [go_sem, d1]
  · have hie : s = w.slips.length := by simp only [decide_eq_false_iff_not] at hd; omega
    subst hie
    rw [ozOk_true hgood]
end Go.Aw
end

section
set_option maxRecDepth 100000
namespace Go.Aw
open Go Go.Proofs.Try

def b40 : B4 := ⟨0, 0, 0, 0⟩

def slipW (x : Shop) (v : B4) : Int := v.a % (x.n : Int)
def feetW (v : B4) : Int := 1 + v.b % 200
def tookW (x : Shop) (v : B4) : Int := feetW v * lF x.ounces (slipW x v)
def rightW (x : Shop) (v : B4) : Wgh := ⟨slipW x v, feetW v, ⟨max 0 (tookW x v - v.c), tookW x v + v.c / 2⟩⟩
def badV (v : B4) : Bool := decide (v.e % 4 = 0)
def allW (x : Shop) (v : B4) : Wgh := if badV v = true then ⟨slipW x v, feetW v, ⟨v.e * v.c % 3000, v.e * v.c % 3000 + v.b⟩⟩ else rightW x v

theorem Shop.ounces_lF (x : Shop) {i : Nat} (h : i < x.n) : lF x.ounces i = (x.v i).b % 16 := by
  simp [lF, Shop.ounces, List.getD_eq_getElem?_getD, List.getElem?_range h]

theorem slipW_in (x : Shop) (v : B4) : 0 ≤ slipW x v ∧ slipW x v < x.n := by
  have := x.n_bnd
  exact ⟨Int.emod_nonneg _ (by omega), Int.emod_lt_of_pos _ (by omega)⟩

theorem ounces_in {x : Shop} (hx : x.Ok) {i : Nat} (h : i < x.n) : (0 ≤ lF x.ounces i ∧ lF x.ounces i ≤ 15) ∧ ((x.w.sl i).ounces.lo ≤ lF x.ounces i ∧ lF x.ounces i ≤ (x.w.sl i).ounces.hi) := by
  have hv := x.v_ok hx i
  have k2 := hv.b
  have k4 := hv.e
  simp only [Byte] at k2 k4
  rw [x.sl_eq h, x.ounces_lF h]
  simp only [slipOf]
  omega

theorem tookW_in {x : Shop} (hx : x.Ok) {v : B4} (hv : v.Ok) : (1 ≤ feetW v ∧ feetW v ≤ 200) ∧ (0 ≤ tookW x v ∧ tookW x v ≤ 3000) ∧ (0 ≤ lF x.ounces (slipW x v) ∧ lF x.ounces (slipW x v) ≤ 15) := by
  have h1 := slipW_in x v
  obtain ⟨k, hk⟩ : ∃ k : Nat, slipW x v = k := ⟨(slipW x v).toNat, by omega⟩
  have h2 := (ounces_in hx (i := k) (by omega)).1
  have h3 := hv.b
  simp only [Byte] at h3
  have hf : 1 ≤ feetW v ∧ feetW v ≤ 200 := by simp only [feetW]; omega
  have h4 := Int.mul_le_mul hf.2 h2.2 h2.1 (by omega)
  have h5 := Int.mul_nonneg (show 0 ≤ feetW v by omega) h2.1
  rw [tookW, hk]
  omega

theorem rightW_ok {x : Shop} (hx : x.Ok) {v : B4} (hv : v.Ok) : (rightW x v).Ok x.w := by
  have h1 := slipW_in x v
  obtain ⟨h2, h3, _⟩ := tookW_in hx hv
  have h4 := hv.c
  simp only [Byte] at h4
  exact ⟨by simp only [rightW]; rw [x.w_len]; omega, by simp only [rightW]; omega, by simp only [rightW]; omega⟩

theorem allW_ok {x : Shop} (hx : x.Ok) {v : B4} (hv : v.Ok) : (allW x v).Ok x.w := by
  unfold allW
  split
  · have h1 := slipW_in x v
    obtain ⟨h2, _, _⟩ := tookW_in hx hv
    have h4 := hv.b
    simp only [Byte] at h4
    have h5 := Int.emod_nonneg (v.e * v.c) (show (3000 : Int) ≠ 0 by omega)
    have h6 := Int.emod_lt_of_pos (v.e * v.c) (show (0 : Int) < 3000 by omega)
    exact ⟨by simp only; rw [x.w_len]; omega, by simp only; omega, by simp only; omega⟩
  · exact rightW_ok hx hv

/-- The true ounces agree with what was weighed right. -/
theorem right_inq {x : Shop} (hx : x.Ok) {v : B4} (hv : v.Ok) {s : Nat} (hs : (rightW x v).slip = (s : Int)) : inq (lF x.ounces s) (rightW x v) := by
  obtain ⟨h2, h3, h6⟩ := tookW_in hx hv
  have h4 := hv.c
  simp only [Byte] at h4
  have hs' : slipW x v = (s : Int) := hs
  have e : lF x.ounces s * feetW v = tookW x v := by rw [tookW, hs', Int.mul_comm]
  simp only [inq, rightW, e]
  omega

theorem wghE_good {w : Works} (hok : w.Ok) {l : List Wgh} (h6 : l.length ≤ 6) (hl : ∀ a ∈ l, a.Ok w) : wghE w l = 0 := by
  rw [wghE, if_pos (checkP_iff.2 hok), if_neg (by omega), if_neg]
  rw [List.any_eq_true]
  rintro ⟨a, ha, hb⟩
  have h := hl a ha
  have e1 : within 0 ((w.slips.length : Int) - 1) [a.slip] = true := within_one.2 (by have := h.s; omega)
  have e2 : within 1 200 [a.feet] = true := within_one.2 h.f
  have e3 : within 0 20000 [a.used.lo, a.used.hi] = true := within_two.2 (by have := h.u; omega)
  have e4 : decide (a.used.lo ≤ a.used.hi) = true := by simpa using h.u.2.1
  rw [badW, e1, e2, e3, e4] at hb
  cases hb

def e12 (x : Shop) (R A : List Wgh) (many : Nat) : Env := [(10, .d (.int .i64 many)), (9, .d (.sl (A.map Wgh.d))), (8, .d (.sl (R.map Wgh.d))), (7, .d (.sl (x.ounces.map (.int .i64)))), (5, .ptr 1 0)]
def h12 (x : Shop) : Heap := [shopB x, wrkB x.w]
theorem h12_BBs (x : Shop) (n : Nat) : BBs n (h12 x) := by simp [h12, BBs, BB, VBs, VB, shopB, wrkB]

abbrev P12 : V → Heap → Prop := fun r H' => H' = [] ∧ r = .d (.bool true)

def rowR (x : Shop) (l : List B4) (i : Nat) : List Wgh := (List.range i).map fun k => rightW x (l.getD k b40)
def rowA (x : Shop) (l : List B4) (i : Nat) : List Wgh := (List.range i).map fun k => allW x (l.getD k b40)
def badK (l : List B4) (k : Nat) : Bool := badV (l.getD k b40)

theorem c12_a {x : Shop} (hx : x.Ok) {l : List B4} (hl : ∀ v ∈ l, v.Ok)
    (hrest : AWP prog f12.ntmps 0 none (restC 4 (bodyOf f12)) (e12 x (rowR x l (min l.length 6)) (rowA x l (min l.length 6)) (manyN (badK l) (min l.length 6))) (h12 x) (FnPost Tt [.tmp 4] 0 P12)) :
    PC prog 12 [.d x.d, .d (.sl (l.map B4.d))] (.d (.bool true)) := by
  have hok := x.w_ok hx
  obtain ⟨l1, l2⟩ := hok.len
  have hwl := x.w_len
  have hol := x.ounces_len
  refine PC.of_body tt_ok (fn := f12) (c := bodyOf f12) (rs := [.tmp 4]) rfl rfl rfl rfl rfl rfl ?_
  refine AWP.stepN 4 _ _ (fun k => k == 36 || k == 37) tt_ok (fun _ h => nomatch h) (Nat.zero_le _) rfl ?_ hrest
  clear hrest
  simp only [go_sem, Shop.d]
  refine (c47 hx).call rfl rfl rfl ?_
  simp only [go_sem, Works.d, Bool.or_true, Bool.true_or, Bool.or_false, Bool.false_or]
  refine ALoop.by (S := Nat) (fun i => [(11, .d (.int .i64 i)), (10, .d (.int .i64 (manyN (badK l) i))), (9, .ref 3 i 0 i), (8, .ref 2 i 0 i), (7, .d (.sl (x.ounces.map (.int .i64)))), (5, .ptr 1 0), (1, .d (.sl (l.map B4.d)))])
    (fun i => [shopB x, wrkB x.w, .arr 4 false ((rowR x l i).map Wgh.d), .arr 4 false ((rowA x l i).map Wgh.d)]) (fun i => 6 - i) (fun i => i ≤ l.length ∧ i ≤ 6) 0 (Nat.zero_le _) (fun _ h => nomatch h) ⟨Nat.zero_le _, by omega⟩ ?_ ?_
  · exact ForgetTo.same' (Nat.zero_le _) (by simp [EWe, Env.look, manyN]) (by simp [shopB, wrkB, rowR, rowA])
  rintro i ⟨hi, hi6⟩ hn
  have hlR : ((rowR x l i).map Wgh.d).length = i := by simp [rowR]
  have hlA : ((rowA x l i).map Wgh.d).length = i := by simp [rowA]
  refine AWP.run (fun k => k == 36 || k == 37) tt_ok (fun _ h => nomatch h) (Nat.zero_le _) rfl ?_
  simp only [go_sem, wrkB, List.length_map, Bool.or_true, Bool.true_or, Bool.or_false, Bool.false_or]
  have done : i = min l.length 6 → ∀ E : Env, EWq 2 ([shopB x, wrkB x.w] ++ [.arr 4 false ((rowR x l i).map Wgh.d), .arr 4 false ((rowA x l i).map Wgh.d)]) E (e12 x (rowR x l i) (rowA x l i) (manyN (badK l) i)) → ForgetTo 0 E [shopB x, wrkB x.w, .arr 4 false ((rowR x l i).map Wgh.d), .arr 4 false ((rowA x l i).map Wgh.d)] (e12 x (rowR x l (min l.length 6)) (rowA x l (min l.length 6)) (manyN (badK l) (min l.length 6))) (h12 x) := fun h E hE => by
    rw [← h]
    exact ForgetTo.dropR (H0 := [_, _]) (Y := [_, _]) (Nat.zero_le _) rfl (h12_BBs x _) hE
  cases d1 : decide ((i : Int) < l.length) with
  | false =>
    have hie : i = min l.length 6 := by simp only [decide_eq_false_iff_not] at d1; omega
    have htR : ((rowR x l i).map Wgh.d).take i = (rowR x l i).map Wgh.d := List.take_of_length_le (by omega)
    have htA : ((rowA x l i).map Wgh.d).take i = (rowA x l i).map Wgh.d := List.take_of_length_le (by omega)
    have dn := done hie
    simp only [e12] at dn
    simp only [go_sem]
    refine dn _ ?_
    generalize (rowR x l i).map Wgh.d = MR at *
    generalize (rowA x l i).map Wgh.d = MA at *
    simp [EWq, Env.look, pubV, hlR, hlA, htR, htA]
  | true =>
  have hlt : i < l.length := by simpa using d1
  cases d2 : decide ((i : Int) < 6) with
  | false =>
    have hie : i = min l.length 6 := by simp only [decide_eq_false_iff_not] at d2; omega
    have htR : ((rowR x l i).map Wgh.d).take i = (rowR x l i).map Wgh.d := List.take_of_length_le (by omega)
    have htA : ((rowA x l i).map Wgh.d).take i = (rowA x l i).map Wgh.d := List.take_of_length_le (by omega)
    have dn := done hie
    simp only [e12] at dn
    simp only [go_sem, d2]
    refine dn _ ?_
    generalize (rowR x l i).map Wgh.d = MR at *
    generalize (rowA x l i).map Wgh.d = MA at *
    simp [EWq, Env.look, pubV, hlR, hlA, htR, htA]
  | true =>
  have hlt6 : i < 6 := by simp only [decide_eq_true_eq] at d2; omega
  clear done
  have hix : idx? (l.map B4.d) (i : Int) = some (l.getD i b40).d := by simp [idx?, List.getElem?_eq_getElem hlt, List.getD_eq_getElem?_getD]
  have hv : (l.getD i b40).Ok := by rw [List.getD_eq_getElem?_getD, List.getElem?_eq_getElem hlt]; exact hl _ (List.getElem_mem hlt)
  have hsR : (rowR x l (i + 1)).map Wgh.d = (rowR x l i).map Wgh.d ++ [(rightW x (l.getD i b40)).d] := by simp [rowR, List.range_succ]
  have hsA : (rowA x l (i + 1)).map Wgh.d = (rowA x l i).map Wgh.d ++ [(allW x (l.getD i b40)).d] := by simp [rowA, List.range_succ]
  have hms := many_succ (badK l) i
  have hbk : badK l i = badV (l.getD i b40) := rfl
  rw [hbk] at hms
  have hmle : manyN (badK l) i ≤ i := by
    have := List.length_filter_le (badK l) (List.range i)
    simpa [manyN] using this
  generalize l.getD i b40 = v at *
  generalize (rowR x l i).map Wgh.d = MR at *
  generalize (rowA x l i).map Wgh.d = MA at *
  generalize manyN (badK l) i = mn at *
  have hnx : IntKind.i64.wrap ((i : Int) + 1) = (i : Int) + 1 := w64 (by omega) (by omega)
  have b1 := hv.a
  have b2 := hv.b
  have b3 := hv.c
  have b4 := hv.e
  have f1 := byte_conv b1
  have f2 := byte_conv b2
  have f3 := byte_conv b3
  have f4 := byte_conv b4
  obtain ⟨t1, t2, t3⟩ := tookW_in hx hv
  have hsl := slipW_in x v
  have hiO := lF_idx (t := x.ounces) (c := slipW x v) ⟨hsl.1, by rw [hol]; exact hsl.2⟩
  simp only [Byte] at b1 b2 b3 b4
  have zn : (x.w.slips.length : Int) ≠ 0 := by omega
  have z200 : (200 : Int) ≠ 0 := by omega
  have z2 : (2 : Int) ≠ 0 := by omega
  have z4 : (4 : Int) ≠ 0 := by omega
  have z3000 : (3000 : Int) ≠ 0 := by omega
  have n1 : v.a.tmod x.w.slips.length = slipW x v := by rw [Int.tmod_eq_emod_of_nonneg b1.1, hwl]; rfl
  have n2 : v.b.tmod 200 = v.b % 200 := Int.tmod_eq_emod_of_nonneg b2.1
  have n3 : v.c.tdiv 2 = v.c / 2 := Int.tdiv_eq_ediv_of_nonneg b3.1
  have n4 : v.e.tmod 4 = v.e % 4 := Int.tmod_eq_emod_of_nonneg b4.1
  have v1 : IntKind.i64.wrap (1 + v.b % 200) = feetW v := w64 (by omega) (by omega)
  have v2 : IntKind.i64.wrap (feetW v * lF x.ounces (slipW x v)) = tookW x v := w64 (by show -9223372036854775808 ≤ tookW x v; omega) (by show tookW x v ≤ 9223372036854775807; omega)
  have v3 : IntKind.i64.wrap (tookW x v - v.c) = tookW x v - v.c := w64 (by omega) (by omega)
  have v4 : IntKind.i64.wrap (v.c / 2) = v.c / 2 := w64 (by omega) (by omega)
  have v5 : IntKind.i64.wrap (tookW x v + v.c / 2) = tookW x v + v.c / 2 := w64 (by omega) (by omega)
  have hi2 : decide (i ≤ 4294967295) = true := by simp only [decide_eq_true_eq]; omega
  simp only [go_sem, d2, Bool.or_true, Bool.true_or, Bool.or_false, Bool.false_or]
  refine ADrw.treeG (fun k => k == 36 || k == 37) tt_ok (by kernel_rfl) (fun k => if k = 7 then some .L else if k = 20 then some .W else if k = 19 then some .A else some .S) (.ones [0, 1, 2, 3, 4, 5, 6, 7, 8, 9, 10, 11, 12, 13, 14, 15, 16, 17, 18, 19, 20] .done) (Nat.zero_le _) (fun _ h => nomatch h) rfl rfl (by kernel_rfl) ?_
  simp only [go_sem, hix, B4.d, f1, f2, n1, n2, v1, remO_ne zn, remO_ne z200, List.length_map, Bool.or_true, Bool.true_or, Bool.or_false, Bool.false_or]
  refine ADrw.treeG (fun k => k == 36 || k == 37) tt_ok (by kernel_rfl) (fun k => if k = 1 ∨ k = 4 then some .L else some .S) (.ones [0, 1, 2, 3, 4, 5, 6, 7, 8] .done) (Nat.zero_le _) (fun _ h => nomatch h) rfl rfl (by kernel_rfl) ?_
  simp only [go_sem, hiO, v2, Bool.or_true, Bool.true_or, Bool.or_false, Bool.false_or]
  refine ADrw.treeG (fun k => k == 36 || k == 37) tt_ok (by kernel_rfl) (fun k => if k = 20 then some .W else some .S) (.ones [0, 1, 2, 3, 4, 5, 6, 7, 8, 9, 10, 11, 12, 13, 14, 15, 16, 17, 18, 19, 20] .done) (Nat.zero_le _) (fun _ h => nomatch h) rfl rfl (by kernel_rfl) ?_
  simp only [go_sem, hix, B4.d, f3, n3, v3, v4, v5, quoO_ne z2, Bool.or_true, Bool.true_or, Bool.or_false, Bool.false_or]
  refine (c22 (max 0 (tookW x v - v.c)) (tookW x v + v.c / 2)).callS rfl rfl rfl rfl rfl rfl ?_
  simp only [go_sem, Sp.d, hlR, hi2, hix, B4.d, Bool.or_true, Bool.true_or, Bool.or_false, Bool.false_or]
  have hbd : decide (v.e % 4 = 0) = badV v := rfl
  have m1 := Int.mul_le_mul (show v.e ≤ 255 by omega) (show v.c ≤ 255 by omega) b3.1 (by omega)
  have m2 := Int.mul_nonneg b4.1 b3.1
  have n5 : (v.e * v.c).tmod 3000 = v.e * v.c % 3000 := Int.tmod_eq_emod_of_nonneg m2
  have v6 : IntKind.i64.wrap (v.e * v.c) = v.e * v.c := w64 (by omega) (by omega)
  have v7 : IntKind.i64.wrap (v.e * v.c % 3000 + v.b) = v.e * v.c % 3000 + v.b := w64 (by omega) (by omega)
  have v8 : IntKind.i64.wrap ((mn : Int) + 1) = ((mn + 1 : Nat) : Int) := by rw [w64 (by omega) (by omega)]; omega
  cases hb : badV v with
  | true =>
    rw [hb] at hbd hms
    rw [if_pos rfl] at hms
    have haw : allW x v = ⟨slipW x v, feetW v, ⟨v.e * v.c % 3000, v.e * v.c % 3000 + v.b⟩⟩ := by rw [allW, if_pos hb]
    simp only [go_sem, n4, hbd, Bool.or_true, Bool.true_or, Bool.or_false, Bool.false_or]
    refine ADrw.treeG (fun k => k == 36 || k == 37) tt_ok (by kernel_rfl) (fun k => some .S) (.ones [0, 1, 2, 3, 4, 5, 6, 7, 8, 9, 10, 11, 12, 13, 14] .done) (Nat.zero_le _) (fun _ h => nomatch h) rfl rfl (by kernel_rfl) ?_
    simp only [go_sem, hix, B4.d, f2, f3, f4, v6, n5, v7, remO_ne z3000, Bool.or_true, Bool.true_or, Bool.or_false, Bool.false_or]
    refine (c22 (v.e * v.c % 3000) (v.e * v.c % 3000 + v.b)).call rfl rfl rfl ?_
    simp only [go_sem, Sp.d, v8, hlA, hi2, Bool.or_true, Bool.true_or, Bool.or_false, Bool.false_or]
    refine ⟨i + 1, ⟨hlt, hlt6⟩, by omega, ?_⟩
    refine ForgetTo.drop (H0 := [_, _, _, _]) (Y := [_]) (Nat.zero_le _) ?_ (by simp [BBs, BB, VBs, VB, shopB, wrkB]) ?_
    · rw [hsR, hsA, haw]; simp [rightW, Wgh.d, wrkB]
    · simp [EWp, Env.look, pubV, hnx, hms]
  | false =>
    rw [hb] at hbd hms
    rw [if_neg (by simp), Nat.add_zero] at hms
    have haw : allW x v = rightW x v := by rw [allW, if_neg (by rw [hb]; simp)]
    simp only [go_sem, n4, hbd, hlA, hi2, Bool.or_true, Bool.true_or, Bool.or_false, Bool.false_or]
    refine ⟨i + 1, ⟨hlt, hlt6⟩, by omega, ?_⟩
    refine ForgetTo.drop (H0 := [_, _, _, _]) (Y := [_]) (Nat.zero_le _) ?_ (by simp [BBs, BB, VBs, VB, shopB, wrkB]) ?_
    · rw [hsR, hsA, haw]; simp [rightW, Wgh.d, wrkB]
    · simp [EWp, Env.look, pubV, hnx, hms]
end Go.Aw
end

section
set_option maxRecDepth 100000
namespace Go.Aw
open Go Go.Proofs.Try

theorem toldP_good {w : Works} {l : List Wgh} (hE : wghE w l = 0) (h0 : ozOk w l 0 = true) : toldP w l = (ozL w l 0 l.length, 0) ∧ toldV w l = .d (.sl ((ozL w l 0 l.length).map Sp.d)) := by
  have h : toldP w l = (ozL w l 0 l.length, 0) := by rw [toldP, if_pos hE, if_pos h0]
  rw [toldV, h]
  exact ⟨rfl, rfl⟩

theorem ozL_at {w : Works} {l : List Wgh} {but i s : Nat} (h : s < w.slips.length) : idx? ((ozL w l but i).map Sp.d) (s : Int) = some (ozF w l but s i).d := by
  simp [idx?, ozL, List.getElem?_range h]

theorem ozF_take (w : Works) (l : List Wgh) (but s k : Nat) : ∀ i, i ≤ k → ozF w (l.take k) but s i = ozF w l but s i
  | 0, _ => rfl
  | i + 1, h => by
    have e : (l.take k).getD i wgh00 = l.getD i wgh00 := by
      simp only [List.getD_eq_getElem?_getD, List.getElem?_take]
      rw [if_pos (by omega)]
    simp only [ozF]
    rw [ozF_take w l but s k i (by omega), e]

theorem sized_wgh (l : List Wgh) : sized 4 (l.map Wgh.d) = true := by simp [sized, Wgh.d, dcells]

/-- Weighings with which these ounces agree. -/
structure TrueW (w : Works) (oz : List Int) (R : List Wgh) : Prop where
  ok : w.Ok
  len : R.length ≤ 6
  all : ∀ a ∈ R, a.Ok w
  ozl : oz.length = w.slips.length
  span : ∀ s, s < w.slips.length → (w.sl s).ounces.lo ≤ lF oz s ∧ lF oz s ≤ (w.sl s).ounces.hi
  agr : ∀ a ∈ R, ∀ s : Nat, a.slip = (s : Int) → inq (lF oz s) a

theorem TrueW.mem {w : Works} {oz : List Int} {R : List Wgh} (h : TrueW w oz R) {s : Nat} (hs : s < w.slips.length) {i : Nat} (hi : i ≤ R.length) : (ozF w R 0 s i).lo ≤ lF oz s ∧ lF oz s ≤ (ozF w R 0 s i).hi :=
  (oz_mem h.all 0 s _ i hi).2 ⟨h.span s hs, fun j hj _ hsl => h.agr _ (by rw [List.getD_eq_getElem?_getD, List.getElem?_eq_getElem (by omega)]; exact List.getElem_mem _) s hsl⟩

theorem TrueW.good {w : Works} {oz : List Int} {R : List Wgh} (h : TrueW w oz R) : ozOk w R 0 = true := ozOk_true fun s hs => by have := h.mem hs (Nat.le_refl _); omega

theorem TrueW.cut {w : Works} {oz : List Int} {R : List Wgh} (h : TrueW w oz R) (k : Nat) : TrueW w oz (R.take k) :=
  ⟨h.ok, by simp; have := h.len; omega, fun a ha => h.all a (List.mem_of_mem_take ha), h.ozl, h.span, fun a ha => h.agr a (List.mem_of_mem_take ha)⟩

theorem c12_b {x : Shop} {R A : List Wgh} {many : Nat} (hT : TrueW x.w x.ounces R)
    (hrest : AWP prog f12.ntmps 0 none (restC 3 (restC 4 (bodyOf f12))) ((15, .d (.sl ((ozL x.w R 0 R.length).map Sp.d))) :: e12 x R A many) (h12 x) (FnPost Tt [.tmp 4] 0 P12)) :
    AWP prog f12.ntmps 0 none (restC 4 (bodyOf f12)) (e12 x R A many) (h12 x) (FnPost Tt [.tmp 4] 0 P12) := by
  obtain ⟨l1, l2⟩ := hT.ok.len
  have hr6 := hT.len
  have hE := wghE_good hT.ok hT.len hT.all
  obtain ⟨t1, t2⟩ := toldP_good hE hT.good
  have c37a := c37 x.w R (by omega) (by omega)
  rw [t1, t2] at c37a
  refine AWP.stepN 3 _ _ (fun _ => false) tt_ok (fun _ h => nomatch h) (Nat.zero_le _) rfl ?_ hrest
  clear hrest
  have hsz := sized_wgh R
  have hle : R.length ≤ 4294967296 := by omega
  have hol : (ozL x.w R 0 R.length).length = x.w.slips.length := by simp [ozL]
  have hoz := hT.ozl
  have d1 : decide ((x.w.slips.length : Int) = x.ounces.length) = true := by simp only [decide_eq_true_eq]; omega
  simp only [e12, h12, go_sem, wrkB]
  refine (c49 x.w (by omega)).call rfl rfl rfl ?_
  simp only [go_sem, hsz, show sized 4 [] = true from rfl, List.length_map, hle]
  refine c37a.call rfl rfl rfl ?_
  simp only [go_sem, List.length_map, hol, d1]
  refine ALoop.by (S := Nat) (fun i => [(17, .d (.int .i64 i)), (15, .d (.sl ((ozL x.w R 0 R.length).map Sp.d))), (10, .d (.int .i64 many)), (9, .d (.sl (A.map Wgh.d))), (8, .d (.sl (R.map Wgh.d))), (7, .d (.sl (x.ounces.map (.int .i64)))), (5, .ptr 1 0)])
    (fun _ => h12 x) (fun i => x.w.slips.length - i) (fun i => i ≤ x.w.slips.length) 0 (Nat.zero_le _) (fun _ h => nomatch h) (Nat.zero_le _) ?_ ?_
  · exact ForgetTo.same' (Nat.zero_le _) (by simp [EWe, Env.look]) (by simp [h12, wrkB])
  rintro i hi hn
  refine AWP.run (fun _ => false) tt_ok (fun _ h => nomatch h) (Nat.zero_le _) rfl ?_
  simp only [go_sem, h12, wrkB, List.length_map, hol]
  refine Br_split (fun hd => ?_) (fun hd => ?_) <;> simp only [go_sem, hd]
  · have hlt : i < x.w.slips.length := by simpa using hd
    have hix := lF_idx (t := x.ounces) (c := (i : Int)) ⟨by omega, by omega⟩
    have hiy := ozL_at (w := x.w) (l := R) (but := 0) (i := R.length) hlt
    have hat := Works.at hlt
    have hm := hT.mem hlt (Nat.le_refl R.length)
    have hmo := ozF_mono x.w R 0 i 0 R.length
    rw [Nat.zero_add] at hmo
    simp only [ozF] at hmo
    have hnx : IntKind.i64.wrap ((i : Int) + 1) = (i : Int) + 1 := w64 (by omega) (by omega)
    generalize ozF x.w R 0 i R.length = O at *
    have c53a := c53 (lF x.ounces i) O
    have h53 : inB (lF x.ounces i) O = true := by simp only [inB, Bool.and_eq_true, decide_eq_true_eq]; exact hm
    rw [h53] at c53a
    have c61a := c61 O (x.w.sl i).ounces
    have h61 : insB O (x.w.sl i).ounces = true := by simp only [insB, Bool.and_eq_true, decide_eq_true_eq]; omega
    rw [h61] at c61a
    refine ADrw.treeG (fun _ => false) tt_ok (by kernel_rfl) (fun k => if k = 16 then some .L else some .S) (.ones [0, 1, 2, 3, 4, 5, 6, 7, 8, 9, 10, 11, 12, 13, 14, 15, 16, 17, 18, 19, 20, 21, 22, 23] .done) (Nat.zero_le _) (fun _ h => nomatch h) rfl rfl (by kernel_rfl) ?_
    simp only [go_sem, hix, hiy, Sp.d]
    refine c53a.callS rfl rfl rfl rfl rfl rfl ?_
    simp only [go_sem, hix, hiy, hat, Slip.d, Sp.d]
    refine c61a.callS rfl rfl rfl rfl rfl rfl ?_
    simp only [go_sem]
    refine ⟨i + 1, hlt, by omega, ?_⟩
    exact ForgetTo.same' (Nat.zero_le _) (by simp [EWe, Env.look, hnx]) (by simp [h12, wrkB])
  · exact ForgetTo.same' (Nat.zero_le _) (by simp [EWe, Env.look]) (by simp [h12, wrkB])

def e12d (A : List Wgh) (many : Nat) : Env := [(10, .d (.int .i64 many)), (9, .d (.sl (A.map Wgh.d))), (5, .ptr 1 0)]

theorem c12_c {x : Shop} {R A : List Wgh} {many : Nat} (hT : TrueW x.w x.ounces R)
    (hrest : AWP prog f12.ntmps 0 none (restC 1 (restC 3 (restC 4 (bodyOf f12)))) (e12d A many) (h12 x) (FnPost Tt [.tmp 4] 0 P12)) :
    AWP prog f12.ntmps 0 none (restC 3 (restC 4 (bodyOf f12))) ((15, .d (.sl ((ozL x.w R 0 R.length).map Sp.d))) :: e12 x R A many) (h12 x) (FnPost Tt [.tmp 4] 0 P12) := by
  obtain ⟨l1, l2⟩ := hT.ok.len
  have hr6 := hT.len
  refine AWP.stepN 1 _ _ (fun _ => false) tt_ok (fun _ h => nomatch h) (Nat.zero_le _) rfl ?_ hrest
  clear hrest
  have hol : (ozL x.w R 0 R.length).length = x.w.slips.length := by simp [ozL]
  have hd0 : ∀ {α : Type} [DecidableEq α] (l : α), decide (l = l) = true := fun l => by simp
  simp only [e12, h12, e12d]
  rcases Nat.eq_zero_or_pos R.length with hz | hz
  · have d1 : decide ((0 : Int) < R.length) = false := by simp only [decide_eq_false_iff_not]; omega
    simp only [go_sem, List.length_map, d1]
    exact ForgetTo.same' (Nat.zero_le _) (by simp [EWe, Env.look]) rfl
  have d1 : decide ((0 : Int) < R.length) = true := by simp only [decide_eq_true_eq]; omega
  have hC := hT.cut (R.length - 1)
  have hCl : (R.take (R.length - 1)).length = R.length - 1 := by simp
  have hE := wghE_good hC.ok hC.len hC.all
  obtain ⟨t1, t2⟩ := toldP_good hE hC.good
  have c37a := c37 x.w (R.take (R.length - 1)) (by omega) (by omega)
  rw [t1, t2] at c37a
  have hsz := sized_wgh R
  have hsz2 := sized_wgh (R.take (R.length - 1))
  have hle : (R.take (R.length - 1)).length ≤ 4294967296 := by omega
  have w1 : IntKind.i64.wrap ((R.length : Int) - 1) = ((R.length - 1 : Nat) : Int) := by rw [w64 (by omega) (by omega)]; omega
  have htk : (R.map Wgh.d).take (R.length - 1) = (R.take (R.length - 1)).map Wgh.d := by rw [List.map_take]
  have hol2 : (ozL x.w (R.take (R.length - 1)) 0 (R.take (R.length - 1)).length).length = x.w.slips.length := by simp [ozL]
  have hmono : ∀ s, ozF x.w (R.take (R.length - 1)) 0 s (R.take (R.length - 1)).length = ozF x.w R 0 s (R.length - 1) := fun s => by rw [hCl, ozF_take x.w R 0 s _ _ (Nat.le_refl _)]
  have hsl0 : 0 ≤ R.length - 1 := Nat.zero_le _
  have hsl1 : R.length - 1 ≤ R.length := by omega
  simp only [go_sem, List.length_map, d1, wrkB]
  refine ADrw.treeG (fun _ => false) tt_ok (by kernel_rfl) (fun k => if k = 0 then some .L else some .S) (.ones [0, 1, 2, 3, 4, 5, 6, 7, 8, 9, 10, 11, 12, 13, 14] .done) (Nat.zero_le _) (fun _ h => nomatch h) rfl rfl (by kernel_rfl) ?_
  simp only [go_sem]
  refine (c49 x.w (by omega)).callS rfl rfl rfl rfl rfl rfl ?_
  have c0 : (0 : Int) ≤ ((R.length - 1 : Nat) : Int) := by omega
  have hasl : aslD 4 (R.map Wgh.d) (some 0) (some (R.length - 1)) = some (.d (.sl ((R.take (R.length - 1)).map Wgh.d))) := by
    simp only [aslD, hsz, List.length_map, htk, List.drop_zero]
    simp
  have hbl : (ozL x.w (R.take (R.length - 1)) 0 (R.take (R.length - 1)).length).length = x.w.slips.length := hol2
  have hat2 := fun (s : Nat) (h : s < x.w.slips.length) => ozL_at (w := x.w) (l := R.take (R.length - 1)) (but := 0) (i := (R.take (R.length - 1)).length) h
  simp only [hmono] at hat2
  generalize ozL x.w (R.take (R.length - 1)) 0 (R.take (R.length - 1)).length = B at *
  simp only [go_sem, List.length_map, w1, hsz2, c0, hasl, Int.toNat_natCast, show sized 4 [] = true from rfl, hle]
  refine c37a.callS rfl rfl rfl rfl rfl rfl ?_
  simp only [go_sem, List.length_map, hol, hbl, hd0]
  refine ALoop.by (S := Nat) (fun i => [(20, .d (.int .i64 i)), (18, .d (.sl (B.map Sp.d))), (15, .d (.sl ((ozL x.w R 0 R.length).map Sp.d))), (10, .d (.int .i64 many)), (9, .d (.sl (A.map Wgh.d))), (5, .ptr 1 0)])
    (fun _ => h12 x) (fun i => x.w.slips.length - i) (fun i => i ≤ x.w.slips.length) 0 (Nat.zero_le _) (fun _ h => nomatch h) (Nat.zero_le _) ?_ ?_
  · exact ForgetTo.same' (Nat.zero_le _) (by simp [EWe, Env.look]) (by simp [h12, wrkB])
  rintro i hi hn
  refine AWP.run (fun _ => false) tt_ok (fun _ h => nomatch h) (Nat.zero_le _) rfl ?_
  simp only [go_sem, h12, wrkB, List.length_map, hol]
  refine Br_split (fun hd => ?_) (fun hd => ?_) <;> simp only [go_sem, hd]
  · have hlt : i < x.w.slips.length := by simpa using hd
    have hix := hat2 i hlt
    have hiy := ozL_at (w := x.w) (l := R) (but := 0) (i := R.length) hlt
    have hm := hT.mem hlt (Nat.le_refl R.length)
    have hmo := ozF_mono x.w R 0 i (R.length - 1) 1
    rw [show R.length - 1 + 1 = R.length by omega] at hmo
    have hnx : IntKind.i64.wrap ((i : Int) + 1) = (i : Int) + 1 := w64 (by omega) (by omega)
    generalize ozF x.w R 0 i R.length = O at *
    generalize ozF x.w R 0 i (R.length - 1) = O' at *
    have c61a := c61 O O'
    have h61 : insB O O' = true := by simp only [insB, Bool.and_eq_true, decide_eq_true_eq]; omega
    rw [h61] at c61a
    refine ADrw.treeG (fun _ => false) tt_ok (by kernel_rfl) (fun k => some .S) (.ones [0, 1, 2, 3, 4, 5, 6, 7, 8, 9] .done) (Nat.zero_le _) (fun _ h => nomatch h) rfl rfl (by kernel_rfl) ?_
    simp only [go_sem, hix, hiy, Sp.d]
    refine c61a.callS rfl rfl rfl rfl rfl rfl ?_
    simp only [go_sem]
    refine ⟨i + 1, hlt, by omega, ?_⟩
    exact ForgetTo.same' (Nat.zero_le _) (by simp [EWe, Env.look, hnx]) (by simp [h12, wrkB])
  · exact ForgetTo.same' (Nat.zero_le _) (by simp [EWe, Env.look]) (by simp [h12, wrkB])
end Go.Aw
end

section
set_option maxRecDepth 100000
namespace Go.Aw
open Go Go.Proofs.Try

/-- What is said to be wrong: without it there is a truth, with any one of it there is none. -/
structure WrongOk (w : Works) (A : List Wgh) (many : Nat) (ws : List Nat) : Prop where
  len : ws.length ≤ 6
  few : ws.length ≤ many
  rest : (restL A (fun i => outQ ws (-1) i ws.length) A.length).length + ws.length = A.length
  yes : ozOk w (restL A (fun i => outQ ws (-1) i ws.length) A.length) 0 = true
  no : ∀ k : Nat, k < ws.length → ozOk w (restL A (fun i => outQ ws (k : Int) i ws.length) A.length) 0 = false

theorem wrong_nil {w : Works} {A : List Wgh} {many : Nat} (hA : ∀ a ∈ A, a.Ok w) (h0 : ozOk w A 0 = true) : WrongOk w A many [] := by
  refine ⟨by simp, by simp, ?_, ?_, fun k h => by simp at h⟩
  · have : ∀ n, (restL A (fun i => outQ [] (-1) i [].length) n).length = n := fun n => by
      have e : (List.range n).filter (fun i => !outQ ([] : List Nat) (-1) i ([] : List Nat).length) = List.range n := List.filter_eq_self.2 (fun _ _ => rfl)
      rw [restL, List.length_map, e, List.length_range]
    rw [this]; rfl
  · rw [rest_oz hA (set := 0) (fun j _ => by simp [outQ])]; exact h0

theorem wrong_bits {w : Works} {A : List Wgh} {many s : Nat} (h6 : A.length ≤ 6) (hA : ∀ a ∈ A, a.Ok w) (hs : s < 2 ^ A.length) (hok : ozOk w A s = true) (hmin : ∀ y, y < 2 ^ A.length → ozOk w A y = true → (bitsL s).length ≤ (bitsL y).length)
    (hM : ∃ y, y < 2 ^ A.length ∧ ozOk w A y = true ∧ (bitsL y).length = many) : WrongOk w A many (bitsL s) := by
  have h2n : 2 ^ A.length ≤ 64 := Nat.pow_le_pow_right (n := 2) (by omega) h6
  obtain ⟨y, y1, y2, y3⟩ := hM
  have ho := out_bits s (by omega)
  refine ⟨bitsL_len s, by rw [← y3]; exact hmin y y1 y2, ?_, ?_, fun k hk => ?_⟩
  · have e : restL A (fun i => outQ (bitsL s) (-1) i (bitsL s).length) A.length = restL A (fun i => s.testBit i) A.length := by
      rw [restL, restL]
      congr 1
      refine List.filter_congr fun j hj => ?_
      rw [ho j (by have := List.mem_range.1 hj; omega)]
    rw [e]
    have := bits_left A.length (by omega) s hs
    simpa [restL] using this
  · rw [rest_oz hA (set := s) (fun j hj => ho j (by omega))]; exact hok
  · obtain ⟨v, v1, v2, v3⟩ := out_less A.length (by omega) s hs k hk
    rw [rest_oz hA (set := v) (fun j hj => v3 j (by omega))]
    cases hv : ozOk w A v with
    | false => rfl
    | true => exact absurd (hmin v v1 hv) (by omega)

def e12e (A : List Wgh) (ws : List Nat) : Env := [(21, .d (.sl (natsD ws))), (9, .d (.sl (A.map Wgh.d))), (5, .ptr 1 0)]

theorem c12_d {x : Shop} {A : List Wgh} {many : Nat} (hok : x.w.Ok) (hl6 : A.length ≤ 6) (hA : ∀ a ∈ A, a.Ok x.w) (hm6 : many ≤ 6)
    (hM : ∃ y, y < 2 ^ A.length ∧ ozOk x.w A y = true ∧ (bitsL y).length = many)
    (hrest : ∀ ws, WrongOk x.w A many ws → AWP prog f12.ntmps 0 none (restC 3 (restC 1 (restC 3 (restC 4 (bodyOf f12))))) (e12e A ws) (h12 x) (FnPost Tt [.tmp 4] 0 P12)) :
    AWP prog f12.ntmps 0 none (restC 1 (restC 3 (restC 4 (bodyOf f12)))) (e12d A many) (h12 x) (FnPost Tt [.tmp 4] 0 P12) := by
  obtain ⟨l1, l2⟩ := hok.len
  have hE := wghE_good hok hl6 hA
  have hsz := sized_wgh A
  have hle : A.length ≤ 4294967296 := by omega
  have c38a := c38 x.w A (by omega) (by omega)
  have c37a := c37 x.w A (by omega) (by omega)
  have hm0 : decide ((many : Int) < 0) = false := by simp only [decide_eq_false_iff_not]; omega
  cases h0 : ozOk x.w A 0 with
  | true =>
    obtain ⟨t1, t2⟩ := toldP_good hE h0
    have hW : wrongP x.w A = ([], 6) := by rw [wrongP, if_pos hE, if_pos h0]
    have hV : wrongV x.w A = .slx (some true) [] := by rw [wrongV, hW]; rfl
    rw [t1, t2] at c37a
    rw [hW, hV] at c38a
    refine AWP.stepN 3 _ _ (fun _ => false) tt_ok (fun _ h => nomatch h) (Nat.zero_le _) rfl ?_ (hrest [] (wrong_nil hA h0))
    simp only [e12d, e12e, h12, go_sem, wrkB]
    refine (c49 x.w (by omega)).call rfl rfl rfl ?_
    simp only [go_sem, hsz, show sized 4 [] = true from rfl, List.length_map, hle]
    refine c38a.call rfl rfl rfl ?_
    simp only [go_sem]
    refine (c49 x.w (by omega)).call rfl rfl rfl ?_
    simp only [go_sem, hsz, show sized 4 [] = true from rfl, List.length_map, hle]
    refine c37a.call rfl rfl rfl ?_
    simp only [go_sem, hm0]
    exact ForgetTo.sameI (Nat.zero_le _) (by simp [EWi, Env.look, natsD]; first | exact .inr ⟨[], rfl, rfl⟩ | exact ⟨[], rfl, rfl⟩ | rfl) (by simp)
  | false =>
    obtain ⟨s, s1, s2, s3, s4, s5⟩ := wrong_least hE h0
    have hws := wrong_bits (many := many) hl6 hA s1 s4 s5 hM
    have hT : toldP x.w A = ([], 9) := by rw [toldP, if_pos hE, if_neg (by rw [h0]; simp)]
    have hTV : toldV x.w A = .slx (some true) [] := by rw [toldV, hT]; rfl
    have hV : wrongV x.w A = .d (.sl (natsD (bitsL s))) := by rw [wrongV, s2]; rfl
    rw [hT, hTV] at c37a
    rw [s2, hV] at c38a
    have hfew := hws.few
    have hne : (bitsL s).length ≠ 0 := fun e => s3 (List.length_eq_zero_iff.1 e)
    have hbl : (natsD (bitsL s)).length = (bitsL s).length := by simp [natsD]
    have d1 : decide (((bitsL s).length : Int) = 0) = false := by simp only [decide_eq_false_iff_not]; omega
    have d2 : decide ((many : Int) < (bitsL s).length) = false := by simp only [decide_eq_false_iff_not]; omega
    refine AWP.stepN 3 _ _ (fun _ => false) tt_ok (fun _ h => nomatch h) (Nat.zero_le _) rfl ?_ (hrest (bitsL s) hws)
    generalize bitsL s = ws at *
    simp only [e12d, e12e, h12, go_sem, wrkB]
    refine (c49 x.w (by omega)).call rfl rfl rfl ?_
    simp only [go_sem, hsz, show sized 4 [] = true from rfl, List.length_map, hle]
    refine c38a.call rfl rfl rfl ?_
    simp only [go_sem]
    refine (c49 x.w (by omega)).call rfl rfl rfl ?_
    simp only [go_sem, hsz, show sized 4 [] = true from rfl, List.length_map, hle]
    refine c37a.call rfl rfl rfl ?_
    simp only [go_sem, hbl, d1, d2]
    exact ForgetTo.same' (Nat.zero_le _) (by simp [EWe, Env.look]) (by simp)

theorem c12_e {x : Shop} {A : List Wgh} {many : Nat} (hok : x.w.Ok) (hl6 : A.length ≤ 6) (hA : ∀ a ∈ A, a.Ok x.w) {ws : List Nat} (hW : WrongOk x.w A many ws) :
    AWP prog f12.ntmps 0 none (restC 3 (restC 1 (restC 3 (restC 4 (bodyOf f12))))) (e12e A ws) (h12 x) (FnPost Tt [.tmp 4] 0 P12) := by
  obtain ⟨l1, l2⟩ := hok.len
  have hw6 := hW.len
  have hwl : (natsD ws).length = ws.length := by simp [natsD]
  have hd0 : ∀ {α : Type} [DecidableEq α] (l : α), decide (l = l) = true := fun l => by simp
  refine AWP.runS (fun k => k == 283) tt_ok (fun _ h => nomatch h) (Nat.zero_le _) rfl ?_
  simp only [e12e, h12, go_sem]
  refine ALoop.by (S := Nat) (fun k => [(25, .d (.int .i64 ((k : Int) - 1))), (21, .d (.sl (natsD ws))), (9, .d (.sl (A.map Wgh.d))), (5, .ptr 1 0)]) (fun _ => h12 x) (fun k => ws.length + 1 - k) (fun k => k ≤ ws.length + 1) 0 (Nat.zero_le _) (fun _ h => nomatch h) (Nat.zero_le _) ?_ ?_
  · exact ForgetTo.same' (Nat.zero_le _) (by simp [EWe, Env.look]) rfl
  rintro k hk hn
  refine AWP.run (fun k => k == 283) tt_ok (fun _ h => nomatch h) (Nat.zero_le _) rfl ?_
  simp only [go_sem, h12, wrkB, hwl]
  refine Br_split (fun he => ?_) (fun he => ?_) <;> simp only [go_sem, he]
  · have hkl : k < ws.length + 1 := by simp only [decide_eq_true_eq] at he; omega
    have hnx : IntKind.i64.wrap ((k : Int) - 1 + 1) = (k : Int) := by rw [w64 (by omega) (by omega)]; omega
    obtain ⟨sk, hsk⟩ : ∃ sk, sk = (k : Int) - 1 := ⟨_, rfl⟩
    rw [← hsk] at hnx ⊢
    obtain ⟨o, ho⟩ : ∃ o : Nat → Bool, o = fun i => outQ ws sk i ws.length := ⟨_, rfl⟩
    refine ALoop.by (S := Nat) (fun i => [(27, .d (.int .i64 i)), (26, .ref 2 (restL A o i).length 0 (restL A o i).length), (25, .d (.int .i64 sk)), (21, .d (.sl (natsD ws))), (9, .d (.sl (A.map Wgh.d))), (5, .ptr 1 0)])
      (fun i => [shopB x, wrkB x.w, .arr 4 false ((restL A o i).map Wgh.d)]) (fun i => A.length - i) (fun i => i ≤ A.length) 0 (Nat.zero_le _) (fun _ h => nomatch h) (Nat.zero_le _) ?_ ?_
    · exact ForgetTo.same' (Nat.zero_le _) (by simp [EWe, Env.look, restL]) (by simp [restL, wrkB])
    rintro i hi hn2
    refine AWP.run (fun k => k == 283) tt_ok (fun _ h => nomatch h) (Nat.zero_le _) rfl ?_
    simp only [go_sem, wrkB, List.length_map]
    have hrl := restL_le A o i
    have hrs := restL_succ A o i
    have hoi : o i = outQ ws sk i ws.length := by rw [ho]
    refine Br_split (fun hd => ?_) (fun hd => ?_) <;> simp only [go_sem, hd]
    · have hlt : i < A.length := by simpa using hd
      have hix : idx? (A.map Wgh.d) (i : Int) = some (A.getD i wgh00).d := by simp [idx?, List.getElem?_eq_getElem hlt, List.getD_eq_getElem?_getD]
      have hnx2 : IntKind.i64.wrap ((i : Int) + 1) = (i : Int) + 1 := w64 (by omega) (by omega)
      have hml : ((restL A o i).map Wgh.d).length = (restL A o i).length := by simp
      generalize restL A o i = R at *
      generalize A.getD i wgh00 = a at *
      have hi2 : decide (R.length ≤ 4294967295) = true := by simp only [decide_eq_true_eq]; omega
      refine ALoop.by (S := Nat) (fun q => [(29, .d (.int .i64 q)), (28, .d (.bool (outQ ws sk i q))), (27, .d (.int .i64 i)), (26, .ref 2 R.length 0 R.length), (25, .d (.int .i64 sk)), (21, .d (.sl (natsD ws))), (9, .d (.sl (A.map Wgh.d))), (5, .ptr 1 0)])
        (fun _ => [shopB x, wrkB x.w, .arr 4 false (R.map Wgh.d)]) (fun q => ws.length - q) (fun q => q ≤ ws.length) 0 (Nat.zero_le _) (fun _ h => nomatch h) (Nat.zero_le _) ?_ ?_
      · exact ForgetTo.same' (Nat.zero_le _) (by simp [EWe, Env.look, outQ]) (by simp [wrkB])
      rintro q hq hn3
      refine AWP.run (fun k => k == 283) tt_ok (fun _ h => nomatch h) (Nat.zero_le _) rfl ?_
      simp only [go_sem, hwl]
      refine Br_split (fun hf => ?_) (fun hf => ?_) <;> simp only [go_sem, hf]
      · have hql : q < ws.length := by simpa using hf
        have hiq : idx? (natsD ws) (q : Int) = some (.int .i64 ((ws.getD q 0 : Nat) : Int)) := by simp [idx?, natsD, List.getElem?_eq_getElem hql, List.getD_eq_getElem?_getD]
        have hnx3 : IntKind.i64.wrap ((q : Int) + 1) = (q : Int) + 1 := w64 (by omega) (by omega)
        have hs : outQ ws sk i (q + 1) = (outQ ws sk i q || (decide (ws.getD q 0 = i) && decide ((q : Int) ≠ sk))) := rfl
        generalize ws.getD q 0 = c at *
        have hci : decide ((c : Int) = (i : Int)) = decide (c = i) := by rw [Bool.eq_iff_iff, decide_eq_true_eq, decide_eq_true_eq]; omega
        cases h1 : outQ ws sk i q with
        | true =>
          rw [h1, Bool.true_or] at hs
          simp only [go_sem]
          refine ⟨q + 1, hql, by omega, ?_⟩
          exact ForgetTo.same' (Nat.zero_le _) (by simp [EWe, Env.look, hnx3, hs]) (by simp)
        | false =>
          rw [h1, Bool.false_or] at hs
          simp only [go_sem, hiq, hci]
          cases h2 : decide (c = i) with
          | false =>
            rw [h2, Bool.false_and] at hs
            simp only [go_sem, hci, h2]
            refine ⟨q + 1, hql, by omega, ?_⟩
            exact ForgetTo.same' (Nat.zero_le _) (by simp [EWe, Env.look, hnx3, hs]) (by simp)
          | true =>
            rw [h2, Bool.true_and] at hs
            have hs' : outQ ws sk i (q + 1) = !decide ((q : Int) = sk) := by rw [hs]; simp
            simp only [go_sem, hci, h2]
            refine ⟨q + 1, hql, by omega, ?_⟩
            exact ForgetTo.same' (Nat.zero_le _) (by simp [EWe, Env.look, hnx3, hs']) (by simp)
      · have hqe : q = ws.length := by simp only [decide_eq_false_iff_not] at hf; omega
        subst hqe
        rw [← hoi]
        cases h1 : o i with
        | true =>
          rw [h1, if_pos rfl, List.append_nil] at hrs
          simp only [go_sem]
          refine ⟨i + 1, hlt, by omega, ?_⟩
          exact ForgetTo.same' (Nat.zero_le _) (by simp [EWe, Env.look, hnx2, hrs]) (by simp [hrs, wrkB, Wgh.d])
        | false =>
          rw [h1, if_neg (by simp)] at hrs
          simp only [go_sem, hix, Wgh.d, hml, hi2]
          refine ⟨i + 1, hlt, by omega, ?_⟩
          exact ForgetTo.same' (Nat.zero_le _) (by simp [EWe, Env.look, hnx2, hrs]) (by simp [hrs, wrkB, Wgh.d])
    · have hie : i = A.length := by simp only [decide_eq_false_iff_not] at hd; omega
      subst hie
      have hRo := restL_ok hA o
      have c62a := c62 hok (l := restL A o A.length) (by omega) hRo
      have hml : ((restL A o A.length).map Wgh.d).length = (restL A o A.length).length := by simp
      have htk : ((restL A o A.length).map Wgh.d).take (restL A o A.length).length = (restL A o A.length).map Wgh.d := List.take_of_length_le (by omega)
      have w1 : IntKind.i64.wrap ((A.length : Int) - ws.length) = (A.length : Int) - ws.length := w64 (by omega) (by omega)
      have fin : ∀ E : Env, EWp 2 ([shopB x, wrkB x.w] ++ [Blk.arr 4 false ((restL A o A.length).map Wgh.d)]) E [(25, .d (.int .i64 (((k + 1 : Nat) : Int) - 1))), (21, .d (.sl (natsD ws))), (9, .d (.sl (A.map Wgh.d))), (5, .ptr 1 0)] → ∃ s', s' ≤ ws.length + 1 ∧ ws.length + 1 - s' < ws.length + 1 - k ∧ ForgetTo 0 E [shopB x, wrkB x.w, Blk.arr 4 false ((restL A o A.length).map Wgh.d)] [(25, .d (.int .i64 ((s' : Nat) - 1))), (21, .d (.sl (natsD ws))), (9, .d (.sl (A.map Wgh.d))), (5, .ptr 1 0)] (h12 x) := fun E hE =>
        ⟨k + 1, by omega, by omega, ForgetTo.drop (H0 := [_, _]) (Y := [_]) (Nat.zero_le _) rfl (h12_BBs x _) hE⟩
      have hck : (((k + 1 : Nat) : Int) - 1) = (k : Int) := by omega
      rw [hck] at fin
      simp only [wrkB] at fin
      rcases Nat.eq_zero_or_pos k with hz | hz
      · subst hz
        have hs1 : sk = -1 := by omega
        have hyes := hW.yes
        have hrest := hW.rest
        subst hs1
        rw [← ho] at hyes hrest
        rw [hyes] at c62a
        have d1 : decide (((restL A o A.length).length : Int) = (A.length : Int) - ws.length) = true := by simp only [decide_eq_true_eq]; omega
        generalize (restL A o A.length) = R at *
        generalize R.map Wgh.d = M at *
        simp only [go_sem, List.length_map, hwl, w1, d1, hml]
        refine c62a.callL rfl (by simp [go_sem, pubVs, pubV, dz, htk, hml, Works.d]) rfl ?_
        simp only [go_sem, hnx]
        exact fin _ (by simp [EWp, Env.look, pubV])
      · have hno := hW.no (k - 1) (by omega)
        have hs1 : ((k - 1 : Nat) : Int) = sk := by omega
        rw [hs1, ← ho] at hno
        rw [hno] at c62a
        have d1 : decide (sk < 0) = false := by simp only [decide_eq_false_iff_not]; omega
        generalize (restL A o A.length) = R at *
        generalize R.map Wgh.d = M at *
        simp only [go_sem, d1]
        refine c62a.callL rfl (by simp [go_sem, pubVs, pubV, dz, htk, hml, Works.d]) rfl ?_
        simp only [go_sem, d1, hnx]
        exact fin _ (by simp [EWp, Env.look, pubV])
  · refine c14.call rfl rfl rfl ?_
    simp only [go_sem]
    exact ⟨rfl, rfl⟩

theorem c12 {x : Shop} (hx : x.Ok) {l : List B4} (hl : ∀ v ∈ l, v.Ok) : PC prog 12 [.d x.d, .d (.sl (l.map B4.d))] (.d (.bool true)) := by
  have hok := x.w_ok hx
  have hgd : ∀ k, k < min l.length 6 → (l.getD k b40).Ok := fun k hk => by rw [List.getD_eq_getElem?_getD, List.getElem?_eq_getElem (by omega)]; exact hl _ (List.getElem_mem _)
  have hm6 : min l.length 6 ≤ 6 := Nat.min_le_right _ _
  refine c12_a hx hl ?_
  generalize min l.length 6 = n at *
  have hR : ∀ a ∈ rowR x l n, a.Ok x.w := fun a ha => by
    obtain ⟨k, hk, rfl⟩ := List.mem_map.1 ha
    exact rightW_ok hx (hgd k (List.mem_range.1 hk))
  have hA : ∀ a ∈ rowA x l n, a.Ok x.w := fun a ha => by
    obtain ⟨k, hk, rfl⟩ := List.mem_map.1 ha
    exact allW_ok hx (hgd k (List.mem_range.1 hk))
  have hRl : (rowR x l n).length = n := by simp [rowR]
  have hAl : (rowA x l n).length = n := by simp [rowA]
  have hT : TrueW x.w x.ounces (rowR x l n) := ⟨hok, by omega, hR, by rw [x.ounces_len, x.w_len], fun s hs => (ounces_in hx (by rw [x.w_len] at hs; exact hs)).2, fun a ha s hs => by
    obtain ⟨k, hk, rfl⟩ := List.mem_map.1 ha
    exact right_inq hx (hgd k (List.mem_range.1 hk)) hs⟩
  have hM : ∃ y, y < 2 ^ (rowA x l n).length ∧ ozOk x.w (rowA x l n) y = true ∧ (bitsL y).length = manyN (badK l) n := by
    refine ⟨maskN (badK l) n, by rw [hAl]; exact maskN_lt _ _, ?_, maskN_len _ hm6⟩
    rw [ozOk_iff hA]
    intro s hs
    refine ⟨lF x.ounces s, hT.span s hs, fun j hj hb hsl => ?_⟩
    rw [hAl] at hj
    rw [maskN_test] at hb
    have hbj : badK l j = false := by simpa [hj] using hb
    have e : (rowA x l n).getD j wgh00 = allW x (l.getD j b40) := by simp [rowA, List.getD_eq_getElem?_getD, List.getElem?_range hj]
    have e2 : allW x (l.getD j b40) = rightW x (l.getD j b40) := by
      have hb2 : badV (l.getD j b40) = false := hbj
      rw [allW, if_neg (by rw [hb2]; simp)]
    rw [e, e2] at hsl ⊢
    exact right_inq hx (hgd j hj) hsl
  have hmn : manyN (badK l) n ≤ 6 := by
    have := List.length_filter_le (badK l) (List.range n)
    simp only [List.length_range] at this
    simp only [manyN]; omega
  exact c12_b hT (c12_c hT (c12_d hok (by omega) hA hmn hM fun ws hws => c12_e hok (by omega) hA hws))
end Go.Aw
end
