/- Bits; lists of numbers; calls of yield. Ounces by weighings. Told. All sets of so many numbers. Wrong. Truths. Looks. The reference: lists compared. What the document's examples say is so. The reference's Sum, How. All truths are tried: what comes of it. Arguments of the program's types. The reference: Takes, Uses. The reference: Content, Mix. Works of bytes, with a truth. The law's helpers: coats, own, ints, together, ends, in, comes. CoatTruth: the plain law. Bytes as arguments of the laws. The planner's answer: the cheapest of all ascending lists. CoatCheapest, first stages: the plan. More bytes as arguments of the laws. The plain law of the cheapest mixture. The plain law of weighings. CoatBarrels: what is told. CoatBarrels: what is wrong. The plain law of looks. What jobs truly take: the plain law of CoatUsed. CoatUsed, the first stage: the barrels. CoatUsed, the second stage: the jobs. CoatUsed, the end. -/
import Derived.Test.YtfbndelhgfbkoaaL1
set_option linter.unusedSimpArgs false
set_option linter.unusedVariables false

section
set_option maxRecDepth 100000
namespace Go.Aw
open Go Go.Proofs.Try

theorem xw64 {n : Nat} (h : n < 9223372036854775808) : IntKind.i64.wrap (n : Int) = n := w64 (by omega) (by omega)

theorem bv64 {n : Nat} (h : n < 2 ^ 64) : (BitVec.ofInt 64 (n : Int)).toNat = n := by
  rw [BitVec.toNat_ofInt]
  have : ((n : Int) % ((2 ^ 64 : Nat) : Int)) = n := Int.emod_eq_of_lt (by omega) (by exact_mod_cast h)
  rw [this]; simp

theorem and64 {a b : Nat} (ha : a < 2 ^ 63) (hb : b < 2 ^ 63) : IntKind.i64.wrap (((BitVec.ofInt 64 (a : Int) &&& BitVec.ofInt 64 (b : Int)).toNat : Nat) : Int) = ((a &&& b : Nat) : Int) := by
  rw [BitVec.toNat_and, bv64 (by omega), bv64 (by omega)]
  exact xw64 (Nat.lt_of_le_of_lt Nat.and_le_left ha)

theorem or64 {a b : Nat} (ha : a < 2 ^ 63) (hb : b < 2 ^ 63) : IntKind.i64.wrap (((BitVec.ofInt 64 (a : Int) ||| BitVec.ofInt 64 (b : Int)).toNat : Nat) : Int) = ((a ||| b : Nat) : Int) := by
  rw [BitVec.toNat_or, bv64 (by omega), bv64 (by omega)]
  exact xw64 (Nat.or_lt_two_pow ha hb)

theorem shr64 {a p : Nat} (hp : p < 64) : (a : Int).fdiv (2 ^ min p 64) = ((a >>> p : Nat) : Int) := by
  have e : ((2 : Int) ^ min p 64) = ((2 ^ p : Nat) : Int) := by rw [Nat.min_eq_left (by omega)]; simp
  rw [e, Nat.shiftRight_eq_div_pow, Int.fdiv_eq_ediv_of_nonneg _ (Int.natCast_nonneg _), ← Int.natCast_ediv]

theorem shl64 {p : Nat} (hp : p < 63) : IntKind.i64.wrap (1 * 2 ^ min p 64) = ((2 ^ p : Nat) : Int) := by
  have e : ((2 : Int) ^ min p 64) = ((2 ^ p : Nat) : Int) := by rw [Nat.min_eq_left (by omega)]; simp
  rw [e, Int.one_mul]
  exact xw64 (Nat.pow_lt_pow_right (by omega) hp)

theorem bit64 (a p : Nat) : (((a >>> p &&& 1 : Nat) : Int) == 1) = a.testBit p := by
  rw [Nat.testBit_eq_decide_div_mod_eq, Nat.and_one_is_mod, Nat.shiftRight_eq_div_pow]
  generalize a / 2 ^ p = q
  rw [Bool.eq_iff_iff, beq_iff_eq, decide_eq_true_eq]; omega

theorem shrN (a : Nat) {p : Nat} (hp : p < 64) : shrO .i64 (a : Int) (p : Int) = some (.int .i64 ((a >>> p : Nat) : Int)) := by
  rw [shrO_nn (Int.natCast_nonneg _), Int.toNat_natCast]
  exact congrArg _ (congrArg _ (shr64 hp))

theorem shlN {p : Nat} (hp : p < 63) : shlO .i64 1 (p : Int) = some (.int .i64 ((2 ^ p : Nat) : Int)) := by
  rw [shlO_nn (Int.natCast_nonneg _), Int.toNat_natCast]
  exact congrArg _ (congrArg _ (shl64 hp))

theorem and1N {a : Nat} (ha : a < 2 ^ 63) : andI .i64 (a : Int) 1 = ((a &&& 1 : Nat) : Int) := and64 (b := 1) ha (by omega)

theorem orN {a b : Nat} (ha : a < 2 ^ 63) (hb : b < 2 ^ 63) : orI .i64 (a : Int) (b : Int) = ((a ||| b : Nat) : Int) := or64 ha hb

theorem bitN (a p : Nat) : decide (((a >>> p &&& 1 : Nat) : Int) = 1) = a.testBit p := by
  rw [← bit64]
  rw [Bool.eq_iff_iff, beq_iff_eq, decide_eq_true_eq]

theorem shr_lt {a p : Nat} (ha : a < 2 ^ 63) : a >>> p < 2 ^ 63 := by
  rw [Nat.shiftRight_eq_div_pow]; exact Nat.lt_of_le_of_lt (Nat.div_le_self _ _) ha


def natsD (l : List Nat) : List D := l.map fun k : Nat => .int .i64 (k : Int)

section
variable {n : Nat} {Hs : Heap} (hn : Hs.length = n)
include hn
theorem hy0 (Y : Heap) : (Hs ++ Y)[n]? = Y[0]? := by rw [List.getElem?_append_right (by omega), hn, Nat.sub_self]
theorem hy1 (Y : Heap) : (Hs ++ Y)[n + 1]? = Y[1]? := by rw [List.getElem?_append_right (by omega), hn]; congr 1; omega
theorem hy2 (Y : Heap) : (Hs ++ Y)[n + 2]? = Y[2]? := by rw [List.getElem?_append_right (by omega), hn]; congr 1; omega
theorem hs0 (Y : Heap) (X : Blk) : (Hs ++ Y).set n X = Hs ++ Y.set 0 X := by rw [List.set_append_right _ _ (by omega), hn, Nat.sub_self]
theorem hs1 (Y : Heap) (X : Blk) : (Hs ++ Y).set (n + 1) X = Hs ++ Y.set 1 X := by rw [List.set_append_right _ _ (by omega), hn]; congr 2; omega
theorem hs2 (Y : Heap) (X : Blk) : (Hs ++ Y).set (n + 2) X = Hs ++ Y.set 2 X := by rw [List.set_append_right _ _ (by omega), hn]; congr 2; omega
theorem htk (Y : Heap) : (Hs ++ Y).take n = Hs := by rw [← hn]; simp
theorem hyl (Y : Heap) : (Hs ++ Y).length = n + Y.length := by simp [hn]
end

/-- A call of yield with more blocks behind. -/
theorem yield_frame {yv : V} {n : Nat} {I : List (List V) → Heap → Prop} {Q : V → Heap → Prop} (hyv : VB n yv = true) (hI : ∀ l H, I l H → H.length = n ∧ BBs n H)
    (hy : ∀ a r H, I (a :: r) H → ACallV prog yv a H (fun v H' => (v = .d (.bool true) ∧ I r H') ∨ (v = .d (.bool false) ∧ H'.length = n ∧ BBs n H' ∧ Q (.tup []) H')))
    {a : List V} {r : List (List V)} {H : Heap} (X : Heap) (ha : VBs n a = true) (h : I (a :: r) H) :
    ACallV prog yv a (H ++ X) (fun v H' => ∃ H1, H' = H1 ++ X ∧ H1.length = n ∧ BBs n H1 ∧ ((v = .d (.bool true) ∧ I r H1) ∨ (v = .d (.bool false) ∧ Q (.tup []) H1))) := by
  obtain ⟨hl, hb⟩ := hI _ _ h
  refine (ACallV.frame (fun id x hx => BB_le (by omega) (BBs_get hb id x hx)) (by rw [hl]; exact hyv) (by rw [hl]; exact ha) (fun v H' hv => ?_) (hy _ _ _ h)).mono ?_
  · rcases hv with ⟨_, k⟩ | ⟨_, k, _⟩
    · rw [(hI _ _ k).1, hl]
    · rw [k, hl]
  · rintro v H' ⟨H1, rfl, ⟨k1, k2⟩ | ⟨k1, k2, k3, k4⟩⟩
    · exact ⟨H1, rfl, (hI _ _ k2).1, (hI _ _ k2).2, .inl ⟨k1, k2⟩⟩
    · exact ⟨H1, rfl, k2, k3, .inr ⟨k1, k4⟩⟩

end Go.Aw
end

section
set_option maxRecDepth 100000
namespace Go.Aw
open Go Go.Proofs.Try

def wgh00 : Wgh := ⟨0, 1, ⟨0, 0⟩⟩

/-- The ounces of a slip by the first weighings, without some. -/
def ozF (w : Works) (l : List Wgh) (but s : Nat) : Nat → Sp
  | 0 => (w.sl s).ounces
  | i + 1 => if but.testBit i = false ∧ (l.getD i wgh00).slip = (s : Int) then ⟨max (ozF w l but s i).lo (((l.getD i wgh00).used.lo + (l.getD i wgh00).feet - 1).tdiv (l.getD i wgh00).feet), min (ozF w l but s i).hi ((l.getD i wgh00).used.hi.tdiv (l.getD i wgh00).feet)⟩ else ozF w l but s i

structure Wgh.Ok (w : Works) (a : Wgh) : Prop where
  s : 0 ≤ a.slip ∧ a.slip < w.slips.length
  f : 1 ≤ a.feet ∧ a.feet ≤ 200
  u : 0 ≤ a.used.lo ∧ a.used.lo ≤ a.used.hi ∧ a.used.hi ≤ 20000

theorem wghE_ok {w : Works} {l : List Wgh} (h : wghE w l = 0) : w.Ok ∧ l.length ≤ 6 ∧ ∀ a ∈ l, a.Ok w := by
  unfold wghE at h
  split at h
  · rename_i h1
    split at h
    · omega
    rename_i h2
    split at h
    · omega
    rename_i h3
    refine ⟨checkP_iff.1 h1, by omega, fun a ha => ?_⟩
    have h4 : badW w a = false := by
      rw [← Bool.not_eq_true]
      exact fun h => h3 (List.any_eq_true.2 ⟨a, ha, h⟩)
    simp only [badW, Bool.or_eq_false_iff, Bool.not_eq_false', Bool.and_eq_true, within_one, within_two, decide_eq_true_eq] at h4
    exact ⟨by omega, by omega, by omega⟩
  · omega

theorem tdiv_small {a c m : Int} (ha : 0 ≤ a ∧ a ≤ m) (hc : 0 < c) : 0 ≤ a.tdiv c ∧ a.tdiv c ≤ m := by
  rw [Int.tdiv_eq_ediv_of_nonneg ha.1]
  exact ⟨Int.ediv_nonneg ha.1 (by omega), Int.le_trans (Int.ediv_le_self _ ha.1) ha.2⟩

theorem ozF_bnd {w : Works} (hok : w.Ok) {l : List Wgh} (hl : ∀ a ∈ l, a.Ok w) (but s : Nat) : ∀ i, i ≤ l.length → (0 ≤ (ozF w l but s i).lo ∧ (ozF w l but s i).lo ≤ 21000) ∧ (0 ≤ (ozF w l but s i).hi ∧ (ozF w l but s i).hi ≤ 20)
  | 0, _ => by have := (hok.sl s).ounces; simp only [ozF]; omega
  | i + 1, hi => by
    have ih := ozF_bnd hok hl but s i (by omega)
    have hg : l.getD i wgh00 ∈ l := by rw [List.getD_eq_getElem?_getD, List.getElem?_eq_getElem (by omega)]; exact List.getElem_mem _
    have ha := hl _ hg
    simp only [ozF]
    generalize l.getD i wgh00 = a at ha
    split
    · have h1 := tdiv_small (a := a.used.lo + a.feet - 1) (c := a.feet) (m := 20200) (by have := ha.u; have := ha.f; omega) (by have := ha.f; omega)
      have h2 := tdiv_small (a := a.used.hi) (c := a.feet) (m := 20000) (by have := ha.u; omega) (by have := ha.f; omega)
      simp only
      omega
    · exact ih

def ozL (w : Works) (l : List Wgh) (but i : Nat) : List Sp := (List.range w.slips.length).map fun s => ozF w l but s i

def ozOk (w : Works) (l : List Wgh) (but : Nat) : Bool := (ozL w l but l.length).all fun s => decide (s.lo ≤ s.hi)

def ozR (w : Works) (l : List Wgh) (but : Nat) : List Sp := if ozOk w l but = true then ozL w l but l.length else []

theorem ozF_mono (w : Works) (l : List Wgh) (but s i : Nat) : ∀ k, (ozF w l but s i).lo ≤ (ozF w l but s (i + k)).lo ∧ (ozF w l but s (i + k)).hi ≤ (ozF w l but s i).hi
  | 0 => ⟨Int.le_refl _, Int.le_refl _⟩
  | k + 1 => by
    have ih := ozF_mono w l but s i k
    rw [← Nat.add_assoc]
    simp only [ozF]
    split
    · simp only; omega
    · exact ih

theorem ozOk_false {w : Works} {l : List Wgh} {but s i : Nat} (hs : s < w.slips.length) (hi : i ≤ l.length) (h : ¬ (ozF w l but s i).lo ≤ (ozF w l but s i).hi) : ozOk w l but = false := by
  rw [ozOk, ← Bool.not_eq_true, List.all_eq_true]
  intro hall
  have h1 := hall (ozF w l but s l.length) (List.mem_map.2 ⟨s, List.mem_range.2 hs, rfl⟩)
  have h2 := ozF_mono w l but s i (l.length - i)
  rw [show i + (l.length - i) = l.length by omega] at h2
  simp only [decide_eq_true_eq] at h1
  omega

theorem ozOk_true {w : Works} {l : List Wgh} {but : Nat} (h : ∀ s, s < w.slips.length → (ozF w l but s l.length).lo ≤ (ozF w l but s l.length).hi) : ozOk w l but = true := by
  rw [ozOk, List.all_eq_true]
  intro x hx
  obtain ⟨s, hs, rfl⟩ := List.mem_map.1 hx
  simpa using h s (List.mem_range.1 hs)

def wghB (w : Works) (l : List Wgh) (but : Int) : Blk := .cells [.d (.sl (w.slips.map Slip.d)), .d (.int .i64 w.hides), .d (.int .i64 w.drops), .d (.sl (l.map Wgh.d)), .d (.int .i64 but)]

theorem c94 {w : Works} (hok : w.Ok) {l : List Wgh} (hl : l.length ≤ 6) (hlo : ∀ a ∈ l, a.Ok w) {but : Nat} (hbut : but < 2 ^ 62) : PC prog 94 [.d (Wghs.mk w l but).d] (.tup [.d (.sl ((ozR w l but).map Sp.d)), .d (.bool (ozOk w l but))]) := by
  obtain ⟨l1, l2⟩ := hok.len
  refine PC.of_body tt_ok (fn := f94) (rs := [.tmp 2, .tmp 3]) rfl rfl rfl rfl rfl rfl ?_
  refine AWP.stepN 2 [(2, .ref 1 w.slips.length 0 w.slips.length), (1, .ptr 0 0)] [wghB w l but, .arr 2 false ((ozL w l but 0).map Sp.d)] (fun k => k == 2) tt_ok (fun _ h => nomatch h) (Nat.zero_le _) rfl ?_ ?_
  · simp only [go_sem, Wghs.d, List.length_map]
    refine ALoop.by (S := Nat) (fun i => [(14, .d (.int .i64 i)), (13, .d (.int .i64 w.slips.length)), (12, .d (.sl (w.slips.map Slip.d))), (2, .ref 1 i 0 i), (1, .ptr 0 0)])
      (fun i => [wghB w l but, .arr 2 (decide (i = 0)) ((List.range i).map fun s => (w.sl s).ounces.d)]) (fun i => w.slips.length - i) (fun i => i ≤ w.slips.length) 0 (Nat.zero_le _) (fun _ h => nomatch h) (Nat.zero_le _) ?_ ?_
    · exact ForgetTo.same' (Nat.zero_le _) (by simp [EWe, Env.look]) (by simp [wghB])
    rintro i hi hn
    refine AWP.run (fun k => k == 2) tt_ok (fun _ h => nomatch h) (Nat.zero_le _) rfl ?_
    simp only [go_sem, wghB]
    refine Br_split (fun hd => ?_) (fun hd => ?_) <;> simp only [go_sem, hd]
    · have hlt : i < w.slips.length := by simpa using hd
      have hat := Works.at hlt
      have hln : ((List.range i).map fun s => (w.sl s).ounces.d).length = i := by simp
      have hi1 : i + 1 ≤ 4294967296 := by omega
      have hst : (List.range (i + 1)).map (fun s => (w.sl s).ounces.d) = (List.range i).map (fun s => (w.sl s).ounces.d) ++ [(w.sl i).ounces.d] := by rw [List.range_succ, List.map_append]; rfl
      have hnx : IntKind.i64.wrap ((i : Int) + 1) = (i : Int) + 1 := w64 (by omega) (by omega)
      generalize ((List.range i).map fun s => (w.sl s).ounces.d) = M at *
      simp only [go_sem, hat, Slip.d, hln, hi1]
      refine ⟨i + 1, hlt, by omega, ?_⟩
      refine ForgetTo.drop (H0 := [_, _]) (Y := [_]) (Nat.zero_le _) ?_ (by simp [BBs, BB, VBs, VB, wghB]) ?_
      · rw [hst]; simp [wghB, Sp.d]
      · simp [EWp, Env.look, pubV, hnx]
    · have hne : i = w.slips.length := by simp only [decide_eq_false_iff_not] at hd; omega
      subst hne
      refine ForgetTo.same' (Nat.zero_le _) (by simp [EWe, Env.look]) ?_
      have h0 : ¬ w.slips.length = 0 := by omega
      simp [wghB, ozL, ozF, h0]
  · have hz : ∀ i, (ozL w l but i).length = w.slips.length := fun i => by simp [ozL]
    refine AWP.runS (fun k => k == 2) tt_ok (fun _ h => nomatch h) (Nat.zero_le _) rfl ?_
    simp only [go_sem, wghB, List.length_map]
    refine ALoop.by (S := Nat) (fun i => [(27, .d (.int .i64 i)), (26, .d (.int .i64 l.length)), (25, .d (.sl (l.map Wgh.d))), (2, .ref 1 w.slips.length 0 w.slips.length), (1, .ptr 0 0)])
      (fun i => [wghB w l but, .arr 2 false ((ozL w l but i).map Sp.d)]) (fun i => l.length - i) (fun i => i ≤ l.length ∧ ∀ s, s < w.slips.length → (ozF w l but s i).lo ≤ (ozF w l but s i).hi) 0 (Nat.zero_le _) (fun _ h => nomatch h) ⟨Nat.zero_le _, fun s hs => by have := (hok.sl s).ounces; simp only [ozF]; omega⟩ ?_ ?_
    · exact ForgetTo.same' (Nat.zero_le _) (by simp [EWe, Env.look]) (by simp [wghB])
    rintro i ⟨hi, hall⟩ hn
    refine AWP.run (fun k => k == 2) tt_ok (fun _ h => nomatch h) (Nat.zero_le _) rfl ?_
    simp only [go_sem, wghB]
    refine Br_split (fun hd => ?_) (fun hd => ?_) <;> simp only [go_sem, hd]
    · have hlt : i < l.length := by simpa using hd
      have hix : idx? (l.map Wgh.d) (i : Int) = some (l[i]).d := by simp [idx?, List.getElem?_eq_getElem hlt]
      have hnx : IntKind.i64.wrap ((i : Int) + 1) = (i : Int) + 1 := w64 (by omega) (by omega)
      have ha := hlo _ (List.getElem_mem hlt)
      have hgd : l.getD i wgh00 = l[i] := by simp [List.getD_eq_getElem?_getD, List.getElem?_eq_getElem hlt]
      have hbd := fun s => ozF_bnd hok hlo but s i hi
      have hstep : ∀ s, ozF w l but s (i + 1) = if but.testBit i = false ∧ (l[i]).slip = (s : Int) then ⟨max (ozF w l but s i).lo (((l[i]).used.lo + (l[i]).feet - 1).tdiv (l[i]).feet), min (ozF w l but s i).hi ((l[i]).used.hi.tdiv (l[i]).feet)⟩ else ozF w l but s i := fun s => by rw [ozF, hgd]
      generalize l[i] = a at *
      have hb63 : but < 2 ^ 63 := by omega
      simp only [go_sem, hix, Wgh.d, shrN but (show i < 64 by omega), and1N (shr_lt (p := i) hb63), bitN]
      refine Br_split (fun hb => ?_) (fun hb => ?_) <;> simp only [go_sem, hb]
      · have he : ∀ s, ozF w l but s (i + 1) = ozF w l but s i := fun s => by rw [hstep s, if_neg (by rw [hb]; simp)]
        have heL : ozL w l but (i + 1) = ozL w l but i := by simp only [ozL, he]
        refine ⟨i + 1, ⟨hlt, fun s hs => by rw [he s]; exact hall s hs⟩, by omega, ?_⟩
        refine ForgetTo.drop (H0 := [_, _]) (Y := [_]) (Nat.zero_le _) ?_ (by simp [BBs, BB, VBs, VB, wghB]) ?_
        · rw [heL]
        · simp [EWp, Env.look, pubV, hnx]
      · obtain ⟨s0, hs0⟩ : ∃ s0 : Nat, a.slip = (s0 : Int) := ⟨a.slip.toNat, by have := ha.s; omega⟩
        have hsl : s0 < w.slips.length := by have := ha.s; omega
        have hzi := hz i
        have hml : ((ozL w l but i).map Sp.d).length = w.slips.length := by simp [ozL]
        have hmg : ((ozL w l but i).map Sp.d)[s0]? = some (.agg [.int .i64 (ozF w l but s0 i).lo, .int .i64 (ozF w l but s0 i).hi]) := by simp [ozL, List.getElem?_range hsl, Sp.d]
        have h1 := tdiv_small (a := a.used.lo + a.feet - 1) (c := a.feet) (m := 20200) (by have := ha.u; have := ha.f; omega) (by have := ha.f; omega)
        have h2 := tdiv_small (a := a.used.hi) (c := a.feet) (m := 20000) (by have := ha.u; omega) (by have := ha.f; omega)
        have hfu := ha.u
        have hff := ha.f
        have hne : a.feet ≠ 0 := by omega
        have w1 : IntKind.i64.wrap (a.used.lo + a.feet) = a.used.lo + a.feet := w64 (by omega) (by omega)
        have w2 : IntKind.i64.wrap (a.used.lo + a.feet - 1) = a.used.lo + a.feet - 1 := w64 (by omega) (by omega)
        have w3 : IntKind.i64.wrap ((a.used.lo + a.feet - 1).tdiv a.feet) = (a.used.lo + a.feet - 1).tdiv a.feet := w64 (by omega) (by omega)
        have w4 : IntKind.i64.wrap (a.used.hi.tdiv a.feet) = a.used.hi.tdiv a.feet := w64 (by omega) (by omega)
        have hms : (ozL w l but (i + 1)).map Sp.d = ((ozL w l but i).map Sp.d).set s0 (.agg [.int .i64 (max (ozF w l but s0 i).lo ((a.used.lo + a.feet - 1).tdiv a.feet)), .int .i64 (min (ozF w l but s0 i).hi (a.used.hi.tdiv a.feet))]) := by
          refine List.ext_getElem (by simp [ozL]) fun q q1 q2 => ?_
          have q3 : q < w.slips.length := by simpa [ozL] using q1
          rw [List.getElem_set]
          by_cases hq : s0 = q
          · subst hq
            rw [if_pos rfl]
            simp [ozL, hstep, hb, hs0, Sp.d]
          · rw [if_neg hq]
            simp [ozL, hstep, hb, hs0, show ¬ (s0 : Int) = (q : Int) by omega]
        have hnew : ∀ s, s < w.slips.length → s ≠ s0 → ozF w l but s (i + 1) = ozF w l but s i := fun s _ hs => by
          rw [hstep s, if_neg (by rintro ⟨_, h⟩; omega)]
        have hnew0 : ozF w l but s0 (i + 1) = ⟨max (ozF w l but s0 i).lo ((a.used.lo + a.feet - 1).tdiv a.feet), min (ozF w l but s0 i).hi (a.used.hi.tdiv a.feet)⟩ := by rw [hstep s0, if_pos ⟨hb, hs0⟩]
        generalize (ozL w l but i).map Sp.d = M at *
        generalize ozF w l but s0 i = O at *
        have hq0 : (0 : Int) ≤ (s0 : Int) := by omega
        have hq1 : (s0 : Int) < w.slips.length := by omega
        have hsg : ∀ x : D, (M.set s0 x)[s0]? = some x := fun x => List.getElem?_set_self (by omega)
        simp only [go_sem, hs0, hml, hzi, hq0, hq1, Int.toNat_natCast]
        refine ADrw.treeG (fun k => k == 2) tt_ok (by kernel_rfl) (fun k => if k = 4 ∨ k = 7 ∨ k = 9 ∨ k = 13 then some .L else if k = 18 then some .W else some .S) (.ones [0, 1, 2, 3, 4, 5, 6, 7, 8, 9, 10, 11, 12, 13, 14, 15, 16, 17, 18] .done) (Nat.zero_le _) (fun _ h => nomatch h) rfl rfl (by kernel_rfl) ?_
        simp only [go_sem, hml, hmg, hq0, hq1, Int.toNat_natCast, Nat.mul_one, Nat.zero_add, w1, w2, w3, quoO_ne hne]
        refine ADrw.treeG (fun k => k == 2) tt_ok (by kernel_rfl) (fun k => if k = 4 ∨ k = 7 ∨ k = 9 then some .L else if k = 14 then some .W else some .S) (.ones [0, 1, 2, 3, 4, 5, 6, 7, 8, 9, 10, 11, 12, 13, 14] .done) (Nat.zero_le _) (fun _ h => nomatch h) rfl rfl (by kernel_rfl) ?_
        simp only [go_sem, hml, hsg, List.length_set, List.set_set, hq0, hq1, Int.toNat_natCast, Nat.mul_one, Nat.zero_add, w4, quoO_ne hne]
        refine ADrw.treeG (fun k => k == 2) tt_ok (by kernel_rfl) (fun k => if k = 3 ∨ k = 7 then some .L else some .S) (.ones [0, 1, 2, 3, 4, 5, 6, 7, 8] .done) (Nat.zero_le _) (fun _ h => nomatch h) rfl rfl (by kernel_rfl) ?_
        simp only [go_sem, hml, hsg, List.length_set, hq0, hq1, Int.toNat_natCast, Nat.mul_one, Nat.zero_add]
        refine Br_split (fun hf => ?_) (fun hf => ?_) <;> simp only [go_sem, hf]
        · have hF := ozOk_false (but := but) hsl (Nat.succ_le_of_lt hlt) (by rw [hnew0]; simp only [decide_eq_true_eq] at hf ⊢; omega)
          rw [ozR, hF]
          rfl
        · refine ⟨i + 1, ⟨hlt, fun s hs => ?_⟩, by omega, ?_⟩
          · by_cases h : s = s0
            · subst h
              rw [hnew0]
              simp only [decide_eq_false_iff_not] at hf ⊢
              omega
            · rw [hnew s hs h]; exact hall s hs
          · refine ForgetTo.drop (H0 := [_, _]) (Y := [_]) (Nat.zero_le _) ?_ (by simp [BBs, BB, VBs, VB, wghB]) ?_
            · simp [wghB, hms]
            · simp [EWp, Env.look, pubV, hnx]
    · have hne : i = l.length := by simp only [decide_eq_false_iff_not] at hd; omega
      subst hne
      have hT := ozOk_true hall
      have htk : ((ozL w l but l.length).map Sp.d).take w.slips.length = (ozL w l but l.length).map Sp.d := List.take_of_length_le (by simp [hz])
      simp only [go_sem, ozR, hT, if_true, hz, htk]
end Go.Aw
end

section
set_option maxRecDepth 100000
namespace Go.Aw
open Go Go.Proofs.Try

def toldP (w : Works) (l : List Wgh) : List Sp × Int := if wghE w l = 0 then (if ozOk w l 0 = true then (ozL w l 0 l.length, 0) else ([], 9)) else ([], wghE w l)

def toldV (w : Works) (l : List Wgh) : V := if (toldP w l).2 = 0 then .d (.sl ((toldP w l).1.map Sp.d)) else .slx (some true) []

theorem c37 (w : Works) (l : List Wgh) (hw : w.slips.length ≤ 4294967296) (hl : l.length ≤ 4294967296) : PC prog 37 [.d w.d, .d (.sl (l.map Wgh.d))] (.tup [toldV w l, .d (.int .i64 (toldP w l).2)]) := by
  refine PC.run (fun _ => false) tt_ok (fn := f37) (rs := [.tmp 4, .tmp 5]) rfl rfl rfl rfl rfl rfl rfl ?_
  simp only [go_sem, Works.d]
  refine (c93 w l hw hl).call rfl rfl rfl ?_
  simp only [go_sem, Wghs.d]
  refine Br_split (fun h1 => ?_) (fun h1 => ?_) <;> simp only [go_sem, h1]
  · have hc : ¬ wghE w l = 0 := by simpa using h1
    have hP : toldP w l = ([], wghE w l) := by rw [toldP, if_neg hc]
    rw [toldV, hP, if_neg hc]
  have hc : wghE w l = 0 := by simpa using h1
  obtain ⟨hok, hl6, hlo⟩ := wghE_ok hc
  have hP : wghP w l = ⟨w, l, 0⟩ := by rw [wghP, if_pos hc]
  rw [hP]
  refine (c94 hok hl6 hlo (but := 0) (by omega)).call rfl rfl rfl ?_
  simp only [go_sem]
  refine Br_split (fun h2 => ?_) (fun h2 => ?_) <;> simp only [go_sem, h2]
  · have h2' : ozOk w l 0 = false := by simpa using h2
    have hQ : toldP w l = ([], 9) := by rw [toldP, if_pos hc, if_neg (by rw [h2']; simp)]
    rw [toldV, hQ]
    rfl
  · have h2' : ozOk w l 0 = true := by simpa using h2
    have hQ : toldP w l = (ozL w l 0 l.length, 0) := by rw [toldP, if_pos hc, if_pos h2']
    rw [toldV, hQ, ozR, if_pos h2']
    rfl
end Go.Aw
end

section
set_option maxRecDepth 100000
namespace Go.Aw
open Go Go.Proofs.Try

/-- All sets of so many numbers from one on and below another one. -/
def setsF (below : Nat) : Nat → Nat → List (List Nat × Nat)
  | 0, _ => [([], 0)]
  | m + 1, first => (List.range (below - first)).flatMap fun j => (setsF below m (first + j + 1)).map fun p => ((first + j) :: p.1, p.2 ||| 2 ^ (first + j))

def lvN (l : List Nat) : V :=
  match l with
  | [] => .slx (some true) []
  | x :: r => .d (.sl (natsD (x :: r)))

theorem giv_lvN (H : Heap) (l : List Nat) : giv H (lvN l) = some (.sl (natsD l), H) := by cases l <;> rfl
def setI (p : List Nat × Nat) : List V := [lvN p.1, .d (.int .i64 p.2)]

def setV (first below many : Nat) : V := .fn (.func 118) [] [.pp [.int .i64 many], .pp [.int .i64 first], .pp [.int .i64 below]]

theorem c95 (first below many : Nat) : PC prog 95 [.d (.int .i64 first), .d (.int .i64 below), .d (.int .i64 many)] (setV first below many) := by
  refine PC.run (fun _ => false) tt_ok (fn := f95) (rs := [.tmp 6]) rfl rfl rfl rfl rfl rfl rfl ?_
  simp only [go_sem, setV]

theorem natsD_ints (l : List Nat) : natsD l = (l.map fun n : Nat => (n : Int)).map (.int .i64) := by simp [natsD]

theorem c119n (n : Nat) (l : List Nat) (hl : l.length ≤ 100) : PC prog 119 [.d (.sl [.sl [.int .i64 n], .sl (natsD l)])] (.d (.sl (natsD (n :: l)))) := by
  have := c119 n (l.map fun n : Nat => (n : Int)) (by simpa using hl)
  rw [natsD_ints, natsD_ints]
  exact this

theorem setsF_mem (below : Nat) : ∀ (m first : Nat), ∀ p ∈ setsF below m first, p.1.length = m ∧ p.2 < 2 ^ below
  | 0, first, p, hp => by
    simp only [setsF, List.mem_singleton] at hp
    subst hp
    exact ⟨rfl, Nat.two_pow_pos _⟩
  | m + 1, first, p, hp => by
    simp only [setsF, List.mem_flatMap, List.mem_range, List.mem_map] at hp
    obtain ⟨j, hj, q, hq, rfl⟩ := hp
    obtain ⟨h1, h2⟩ := setsF_mem below m _ q hq
    exact ⟨by simp [h1], Nat.or_lt_two_pow h2 (Nat.pow_lt_pow_right (by omega) (by omega))⟩

def nB (k : Nat) : Blk := .cells [.d (.int .i64 (k : Int))]
def gB (yv : V) (first k : Nat) : Heap := .cells [yv] :: (List.range k).map fun i => nB (first + i)
theorem gB_len (yv : V) (first k : Nat) : (gB yv first k).length = k + 1 := by simp [gB]
theorem gB_succ (yv : V) (first k : Nat) : gB yv first (k + 1) = gB yv first k ++ [nB (first + k)] := by simp [gB, List.range_succ]
theorem gB_BBs {yv : V} {m : Nat} (h : VB m yv = true) (first k : Nat) : BBs m (gB yv first k) := by
  induction k with
  | zero => simp only [gB, List.range_zero, List.map_nil, BBs, BB, VBs, h, Bool.and_true, and_true]
  | succ k ih =>
    rw [gB_succ]
    exact BBs_append ih (by simp [BBs, BB, VBs, VB, nB])

theorem c118 {below : Nat} (hb : below ≤ 60) : ∀ (m first : Nat), m ≤ 60 → Iter prog (setV first below m) ((setsF below m first).map setI) := by
  intro m
  induction m with
  | zero =>
    intro first _ yv n I Q hf hyv hI hy hend H hH
    have hHl := (hI _ _ hH).1
    have hHb := (hI _ _ hH).2
    obtain ⟨f, x, y, rfl⟩ := hf
    refine ACallV.of rfl ?_
    refine ACalls.run (fun _ => false) tt_ok (fn := f118) (rs := []) rfl rfl rfl rfl rfl rfl rfl ?_
    simp only [go_sem, hHl, hy0 hHl]
    refine (yield_frame hyv hI hy (r := []) [.cells [.fn f x y]] rfl hH).mono ?_
    rintro v H' ⟨H1, rfl, k1, k2, k3⟩
    have hq : Q (.tup []) H1 := by
      rcases k3 with ⟨_, k3⟩ | ⟨_, k3⟩
      · exact hend _ k3
      · exact k3
    simp only [go_sem, hHl, htk k1]
    exact ⟨.inr k2, hq⟩
  | succ m ih =>
    intro first hm yv n I Q hf hyv hI hy hend H hH
    have hHl := (hI _ _ hH).1
    have hHb := (hI _ _ hH).2
    obtain ⟨f, x, y, rfl⟩ := hf
    refine ACallV.of rfl ?_
    refine ACalls.run (fun _ => false) tt_ok (fn := f118) (rs := []) rfl rfl rfl rfl rfl rfl rfl ?_
    have d0 : decide (((m + 1 : Nat) : Int) = 0) = false := by simp only [decide_eq_false_iff_not]; omega
    have hml : ∀ p ∈ setsF below (m + 1) first, p.1.length = m + 1 ∧ p.2 < 2 ^ below := setsF_mem below (m + 1) first
    simp only [go_sem, hHl, hy0 hHl, hy1 hHl, hs1 hHl, hyl hHl, List.append_assoc, d0]
    refine ALoop.by (S := Nat × Heap) (fun s => [(5, .ptr (n + (s.1 + 1)) 0), (4, .ptr n 0), (3, .pp [.int .i64 below]), (1, .pp [.int .i64 ((m + 1 : Nat) : Int)])])
      (fun s => (s.2 ++ gB (.fn f x y) first s.1) ++ [nB (first + s.1)]) (fun s => below - first - s.1)
      (fun s => s.1 ≤ below - first ∧ I ((((List.range (below - first)).drop s.1).flatMap fun j => (setsF below m (first + j + 1)).map fun p => ((first + j) :: p.1, p.2 ||| 2 ^ (first + j))).map setI) s.2) (0, H) (by simp) (fun _ h => nomatch h) ⟨Nat.zero_le _, hH⟩ ?_ ?_
    · exact ForgetTo.same' (by simp) (by simp [EWe, Env.look]) (by simp [gB, nB])
    rintro ⟨k, Hc⟩ ⟨hk, hI0⟩ hn'
    dsimp only at hk hI0 hn' ⊢
    have hcl := (hI _ _ hI0).1
    have hcb := (hI _ _ hI0).2
    have gl := gB_len (.fn f x y) first k
    have hGl : ∀ H1 : Heap, H1.length = n → (H1 ++ gB (.fn f x y) first k).length = n + (k + 1) := fun H1 h => by rw [List.length_append, h, gl]
    have hGA : ∀ H1 : Heap, H1.length = n → ∀ Y, ((H1 ++ gB (.fn f x y) first k) ++ Y)[n]? = some (.cells [.fn f x y]) := fun H1 h Y => by
      rw [List.append_assoc, List.getElem?_append_right (by omega), h, Nat.sub_self]; rfl
    have hGb : ∀ H1 : Heap, H1.length = n → BBs n H1 → BBs (n + (k + 1)) (H1 ++ gB (.fn f x y) first k) := fun H1 h1 h2 =>
      BBs_append (BBs_le (by omega) h2) (gB_BBs (VB_le (by omega) _ hyv) _ _)
    have hGt : ∀ H1 : Heap, H1.length = n → ∀ Y, ((H1 ++ gB (.fn f x y) first k) ++ Y).take n = H1 := fun H1 h Y => by
      rw [List.append_assoc, ← h, List.take_left]
    refine AWP.run (fun _ => false) tt_ok (fun _ h => nomatch h) (by rw [List.length_append, hGl Hc hcl]; omega) rfl ?_
    simp only [go_sem, nB, hy0 (hGl Hc hcl)]
    refine Br_split (fun hd => ?_) (fun hd => ?_) <;> simp only [go_sem, hd, hy0 (hGl Hc hcl)]
    · have hlt : first + k < below := by simp only [decide_eq_true_eq] at hd; omega
      have w1 : IntKind.i64.wrap (((first + k : Nat) : Int) + 1) = ((first + k + 1 : Nat) : Int) := by rw [w64 (by omega) (by omega)]; omega
      have w2 : IntKind.i64.wrap (((m + 1 : Nat) : Int) - 1) = (m : Int) := by rw [w64 (by omega) (by omega)]; omega
      simp only [go_sem, w1, w2]
      refine (c95 (first + k + 1) below m).call rfl rfl rfl ?_
      simp only [go_sem]
      rw [List.drop_eq_getElem_cons (by simp; omega), List.flatMap_cons, List.map_append, List.getElem_range] at hI0
      generalize hrem : (((List.range (below - first)).drop (k + 1)).flatMap fun j => (setsF below m (first + j + 1)).map fun p => ((first + j) :: p.1, p.2 ||| 2 ^ (first + j))).map setI = rem at hI0
      have hYB : ∀ H1 : Heap, H1.length = n → BBs n H1 → BBs (n + (k + 1) + 1) ((H1 ++ gB (.fn f x y) first k) ++ [nB (first + k)]) := fun H1 h1 h2 =>
        BBs_append (BBs_le (by omega) (hGb H1 h1 h2)) (by simp [BBs, BB, VBs, VB, nB])
      have hpw : 2 ^ (first + k) < 2 ^ 62 := Nat.pow_lt_pow_right (by omega) (by omega)
      refine ARng.iterN (items := (setsF below m (first + k + 1)).map setI) (J := fun rest Hx => ∃ (H1 : Heap) (q : List (List Nat × Nat)), Hx = (H1 ++ gB (.fn f x y) first k) ++ [nB (first + k)] ∧ rest = q.map setI ∧ (∀ p ∈ q, p ∈ setsF below m (first + k + 1)) ∧ I ((q.map fun p => setI ((first + k) :: p.1, p.2 ||| 2 ^ (first + k))) ++ rem) H1)
        (by simp; omega) (fun _ h => nomatch h) rfl (ih (first + k + 1) (by omega)) rfl (by simp [VBs, VB, setV, hcl, gl]) ?_ ?_ ?_ ?_ ?_
      · rintro rest Hx ⟨H1, q, rfl, _, _, h1⟩
        obtain ⟨k1, k2⟩ := hI _ _ h1
        simp only [hyl (hGl H1 k1), hyl (hGl Hc hcl), List.length_cons, List.length_nil]
        exact ⟨trivial, hYB H1 k1 k2⟩
      · exact ⟨Hc, _, rfl, rfl, fun _ h => h, by rw [List.map_map] at hI0; exact hI0⟩
      · rintro Hx ⟨H1, q, rfl, hq, _, h1⟩
        obtain ⟨k1, k2⟩ := hI _ _ h1
        obtain rfl : q = [] := by simpa using hq.symm
        rw [List.map_nil, List.nil_append] at h1
        have hgl1 := hGl H1 k1
        have hbb1 := hYB H1 k1 k2
        have hs2 : (H1 ++ gB (.fn f x y) first (k + 1)) ++ [nB (first + (k + 1))] = (H1 ++ gB (.fn f x y) first k) ++ [nB (first + k), nB (first + (k + 1))] := by rw [gB_succ]; simp
        have w3 : IntKind.i64.wrap (((first + k : Nat) : Int) + 1) = ((first + (k + 1) : Nat) : Int) := w1
        obtain ⟨G1, hG1⟩ : ∃ G, G = H1 ++ gB (.fn f x y) first k := ⟨_, rfl⟩
        rw [← hG1] at hgl1 hbb1 hs2 ⊢
        simp only [go_sem, nB, hy0 hgl1, hy1 hgl1, hs1 hgl1, hyl hgl1, List.append_assoc, w3]
        refine ⟨(k + 1, H1), ⟨by dsimp only; omega, by dsimp only; rw [hrem]; exact h1⟩, by dsimp only; omega, ?_⟩
        dsimp only
        simp only [nB, List.append_assoc] at hs2
        rw [hs2]
        exact ForgetTo.same' (by simp [hgl1]; omega) (by simp [EWe, Env.look]; omega) (by simp [nB])
      · intro xs hxs
        obtain ⟨p, _, rfl⟩ := List.mem_map.1 hxs
        rfl
      · rintro L L' xs rest' Hx hbL hxs ⟨H1, q, rfl, hq, hqm, h1⟩
        obtain ⟨p, q', rfl⟩ : ∃ p q', q = p :: q' := by cases q with
          | nil => cases hq
          | cons p r => exact ⟨p, r, rfl⟩
        obtain ⟨rfl, rfl⟩ : xs = setI p ∧ rest' = q'.map setI := by simpa using hq
        obtain ⟨k1, k2⟩ := hI _ _ h1
        have hLc : (Hc ++ gB (.fn f x y) first k ++ [Blk.cells [.d (.int .i64 ((first + k : Nat) : Int))]]).length = n + (k + 1) + 1 := by rw [List.length_append, hGl Hc hcl]; rfl
        have hgl1 := hGl H1 k1
        have hgA := hGA H1 k1
        obtain ⟨G1, hG1⟩ : ∃ G, G = H1 ++ gB (.fn f x y) first k := ⟨_, rfl⟩
        have hYB1 := hYB H1 k1 k2
        rw [← hG1] at hgl1 hgA hYB1 ⊢
        rw [hLc] at hbL ⊢
        refine AWP.run (fun _ => false) tt_ok (fun _ h => by cases h; simp) (by simp [hgl1]) rfl ?_
        simp only [go_sem, setI, nB, hyl hgl1, hy0 hgl1, hy1 hgl1, hs1 hgl1, List.append_assoc]
        refine AWP.run (fun _ => false) tt_ok (fun _ h => by cases h; simp) (by simp [hgl1]) rfl ?_
        simp only [go_sem]
        refine ADrw.treeG (fun _ => false) tt_ok (by kernel_rfl) (fun k => if k = 10 then none else if k = 0 ∨ k = 1 ∨ k = 7 then some .L else some .S) (.ones [0, 1, 2, 3, 4, 5, 6, 7, 8, 9] (.only 10 (.one 11 .done))) (by simp [hgl1]) (fun _ h => by cases h; simp) rfl rfl (by kernel_rfl) ?_
        simp only [go_sem, giv_lvN, hgA, hyl hgl1, hy0 hgl1, hy1 hgl1, hs1 hgl1, List.append_assoc]
        have hpm := hqm p List.mem_cons_self
        obtain ⟨hpl, hpb⟩ := setsF_mem below m _ p hpm
        have hp62 : p.2 < 2 ^ 62 := Nat.lt_of_lt_of_le hpb (Nat.pow_le_pow_right (by omega) (by omega))
        have hor : orI .i64 (p.2 : Nat) ((2 ^ (first + k) : Nat) : Int) = ((p.2 ||| 2 ^ (first + k) : Nat) : Int) := orN (by omega) (by omega)
        refine (c119n (first + k) p.1 (by omega)).callS rfl rfl rfl rfl rfl rfl ?_
        simp only [go_sem, giv_lvN, hgA, hyl hgl1, hy0 hgl1, hy1 hgl1, hs1 hgl1, List.append_assoc, shlN (show first + k < 63 by omega), hor]
        rw [List.map_cons, List.cons_append] at h1
        rw [hG1, List.append_assoc]
        refine (yield_frame hyv hI hy (r := (q'.map fun p => setI ((first + k) :: p.1, p.2 ||| 2 ^ (first + k))) ++ rem) (gB (.fn f x y) first k ++ [nB (first + k), L']) rfl h1).mono ?_
        rintro v H' ⟨H2, rfl, m1, m2, hv⟩
        have hgl2 := hGl H2 m1
        have hYB2 := hYB H2 m1 m2
        have hq2 := hGt H2 m1
        obtain ⟨G2, hG2⟩ : ∃ G, G = H2 ++ gB (.fn f x y) first k := ⟨_, rfl⟩
        rw [← List.append_assoc, ← hG2]
        rw [← hG2] at hgl2 hYB2 hq2
        have ht2 : (G2 ++ [nB (first + k), L']).take (n + (k + 1) + 1) = G2 ++ [nB (first + k)] := by
          rw [← hgl2, List.take_append, List.take_of_length_le (by omega)]; simp
        rcases hv with ⟨rfl, m3⟩ | ⟨rfl, m3⟩
        · simp only [go_sem, hy1 hgl2, ht2]
          exact ⟨hYB2, H2, q', by rw [hG2, List.append_assoc]; rfl, rfl, fun q hq => hqm q (List.mem_cons_of_mem _ hq), m3⟩
        · simp only [go_sem, hy1 hgl2, ht2]
          rw [hHl, hq2]
          exact ⟨hYB2, .inr m2, m3⟩
    · have hke : k = below - first := by simp only [decide_eq_false_iff_not] at hd; omega
      rw [List.drop_eq_nil_of_le (by simp; omega)] at hI0
      simp only [go_sem, hHl, hGt Hc hcl]
      exact ⟨.inr hcb, hend _ hI0⟩
end Go.Aw
end

section
set_option maxRecDepth 100000
namespace Go.Aw
open Go Go.Proofs.Try

theorem setsF_all (below : Nat) : ∀ (m first : Nat), first + m ≤ below → ∃ p ∈ setsF below m first, ∀ i, first ≤ i → i < first + m → p.2.testBit i = true
  | 0, first, _ => ⟨([], 0), by simp [setsF], fun i h1 h2 => by omega⟩
  | m + 1, first, h => by
    obtain ⟨p, hp, hb⟩ := setsF_all below m (first + 1) (by omega)
    refine ⟨(first :: p.1, p.2 ||| 2 ^ first), ?_, fun i h1 h2 => ?_⟩
    · simp only [setsF, List.mem_flatMap, List.mem_range, List.mem_map]
      exact ⟨0, by omega, p, by simpa using hp, by simp⟩
    · by_cases hi : i = first
      · subst hi
        simp [Nat.testBit_or, Nat.testBit_two_pow]
      · rw [Nat.testBit_or, hb i (by omega) (by omega), Bool.true_or]

theorem ozF_none {w : Works} {l : List Wgh} {but : Nat} (s : Nat) : ∀ i, (∀ k, k < i → but.testBit k = true) → ozF w l but s i = (w.sl s).ounces
  | 0, _ => rfl
  | i + 1, h => by
    rw [ozF, if_neg (by rw [h i (by omega)]; simp)]
    exact ozF_none s i fun k hk => h k (by omega)

theorem ozOk_none {w : Works} (hok : w.Ok) {l : List Wgh} {but : Nat} (h : ∀ k, k < l.length → but.testBit k = true) : ozOk w l but = true :=
  ozOk_true fun s _ => by rw [ozF_none s _ h]; exact (hok.sl s).ounces.2.1

def wrongF (w : Works) (l : List Wgh) : Option (List Nat × Nat) := ((List.range (l.length + 1)).flatMap fun m => setsF l.length m 0).find? fun p => ozOk w l p.2

def wrongP (w : Works) (l : List Wgh) : List Nat × Int := if wghE w l = 0 then (if ozOk w l 0 = true then ([], 6) else (match wrongF w l with | none => ([], 0) | some p => (p.1, 0))) else ([], wghE w l)

def wrongV (w : Works) (l : List Wgh) : V := if (wrongP w l).2 = 0 then .d (.sl (natsD (wrongP w l).1)) else .slx (some true) []

/-- The heap of Wrong. -/
def hG (w : Works) (l : List Wgh) (but : Nat) (v : V) (e : Int) : Heap := [wrkB w, .cells [v], .cells [.d (.int .i64 e)], wghB w l but]

theorem c38 (w : Works) (l : List Wgh) (hw : w.slips.length ≤ 4294967296) (hl : l.length ≤ 4294967296) : PC prog 38 [.d w.d, .d (.sl (l.map Wgh.d))] (.tup [wrongV w l, .d (.int .i64 (wrongP w l).2)]) := by
  refine PC.run (fun _ => false) tt_ok (fn := f38) (rs := [.cell 4 25, .cell 5 28]) rfl rfl rfl rfl rfl rfl rfl ?_
  simp only [go_sem, Works.d]
  refine (c93 w l hw hl).call rfl rfl rfl ?_
  simp only [go_sem, Works.d, Wghs.d]
  refine Br_split (fun h1 => ?_) (fun h1 => ?_) <;> simp only [go_sem, h1]
  · have hc : ¬ wghE w l = 0 := by simpa using h1
    have hP : wrongP w l = ([], wghE w l) := by rw [wrongP, if_neg hc]
    rw [wrongV, hP, if_neg hc]
  have hc : wghE w l = 0 := by simpa using h1
  obtain ⟨hok, hl6, hlo⟩ := wghE_ok hc
  have hP : wghP w l = ⟨w, l, 0⟩ := by rw [wghP, if_pos hc]
  rw [hP]
  refine (c94 hok hl6 hlo (but := 0) (by omega)).call rfl rfl rfl ?_
  simp only [go_sem]
  refine Br_split (fun h2 => ?_) (fun h2 => ?_) <;> simp only [go_sem, h2]
  · have hQ : wrongP w l = ([], 6) := by rw [wrongP, if_pos hc, if_pos h2]
    rw [wrongV, hQ]
    rfl
  have h2' : ¬ ozOk w l 0 = true := by rw [h2]; simp
  have hQ : wrongP w l = (match wrongF w l with | none => ([], 0) | some p => (p.1, 0)) := by rw [wrongP, if_pos hc, if_neg h2']
  have hpos : 0 < l.length := by
    rcases Nat.eq_zero_or_pos l.length with h | h
    · exact absurd (ozOk_none hok (but := 0) fun k hk => by omega) h2'
    · exact h
  refine ALoop.by (S := Nat × Nat) (fun s => [(10, .d (.int .i64 s.1)), (6, .ptr 3 0), (5, .ptr 2 0), (4, .ptr 1 0), (1, .d (.sl (l.map Wgh.d)))])
    (fun s => hG w l s.2 (.slx (some true) []) 0) (fun s => l.length + 1 - s.1)
    (fun s => (1 ≤ s.1 ∧ s.1 ≤ l.length) ∧ wrongF w l = (((List.range (l.length + 1)).drop s.1).flatMap fun m => setsF l.length m 0).find? fun p => ozOk w l p.2) (1, 0) (by simp) (fun _ h => nomatch h) ⟨⟨by simp, hpos⟩, ?_⟩ ?_ ?_
  · rw [wrongF, List.range_succ_eq_map]
    simp [setsF, h2]
  · exact ForgetTo.same' (by simp) (by simp [EWe, Env.look]) (by simp [hG, wrkB, wghB])
  rintro ⟨many, but⟩ ⟨⟨hm1, hm2⟩, hfst⟩ hn'
  dsimp only at hm1 hm2 hfst hn' ⊢
  refine AWP.run (fun _ => false) tt_ok (fun _ h => nomatch h) (by simp) rfl ?_
  simp only [go_sem, hG, List.length_map]
  refine (c95 0 l.length many).call rfl rfl rfl ?_
  simp only [go_sem]
  rw [List.drop_eq_getElem_cons (by simp; omega), List.flatMap_cons, List.find?_append, List.getElem_range] at hfst
  refine ARng.iterN (items := (setsF l.length many 0).map setI) (J := fun rest Hx => ∃ (but : Nat) (pre : List (List Nat × Nat)), Hx = hG w l but (.slx (some true) []) 0 ∧ rest = pre.map setI ∧ (∀ p ∈ pre, p ∈ setsF l.length many 0) ∧ (setsF l.length many 0).find? (fun p => ozOk w l p.2) = pre.find? (fun p => ozOk w l p.2))
    (by simp) (fun _ h => nomatch h) rfl (c118 (by omega) many 0 (by omega)) rfl (by simp [VBs, VB, setV]) ?_ ?_ ?_ ?_ ?_
  · rintro rest Hx ⟨b1, pre, rfl, _, _, _⟩
    exact ⟨rfl, by simp [hG, BBs, BB, VBs, VB, wrkB, wghB]⟩
  · exact ⟨but, _, by simp [hG], rfl, fun _ h => h, rfl⟩
  · rintro Hx ⟨b1, pre, rfl, hp, _, hf1⟩
    obtain rfl : pre = [] := by simpa using hp.symm
    simp only [go_sem]
    have hml : many + 1 ≤ l.length := by
      rcases Nat.lt_or_ge many l.length with h | h
      · exact h
      · have he : many = l.length := by omega
        subst he
        obtain ⟨p, hp1, hp2⟩ := setsF_all l.length l.length 0 (by omega)
        have := List.find?_eq_none.1 hf1 p hp1
        exact absurd (ozOk_none (w := w) (l := l) (but := p.2) hok fun k hk => hp2 k (by omega) (by omega)) (by simpa using this)
    refine ⟨(many + 1, b1), ⟨⟨by simp, hml⟩, ?_⟩, by dsimp only; omega, ?_⟩
    · rw [hfst, hf1, List.find?_nil, Option.none_or, List.range_succ]
    · exact ForgetTo.same' (Nat.zero_le _) (by simp [EWe, Env.look]; rw [w64 (by omega) (by omega)]) rfl
  · intro xs hxs
    obtain ⟨p, _, rfl⟩ := List.mem_map.1 hxs
    rfl
  · rintro L L' xs rest Hx hbL hxs ⟨b1, pre, rfl, hp, hpm, hf1⟩
    obtain ⟨p, rest', rfl⟩ : ∃ p rest', pre = p :: rest' := by cases pre with
      | nil => cases hp
      | cons p r => exact ⟨p, r, rfl⟩
    obtain ⟨rfl, rfl⟩ : xs = setI p ∧ rest = rest'.map setI := by simpa using hp
    refine AWP.run (fun _ => false) tt_ok (fun _ h => by cases h; simp) (by simp [hG]) rfl ?_
    simp only [go_sem, setI, hG]
    refine AWP.run (fun _ => false) tt_ok (fun _ h => by cases h; simp) (by simp) rfl ?_
    simp only [go_sem, wghB]
    have hpl := setsF_mem l.length many 0 p (hpm p List.mem_cons_self)
    have hp62 : p.2 < 2 ^ 62 := Nat.lt_of_lt_of_le hpl.2 (Nat.pow_le_pow_right (by omega) (by omega))
    refine (c94 hok hl6 hlo (but := p.2) hp62).call rfl rfl rfl ?_
    simp only [go_sem]
    refine Br_split (fun h3 => ?_) (fun h3 => ?_) <;> simp only [go_sem, h3]
    · rw [List.find?_cons_of_pos (by exact h3)] at hf1
      rw [hf1] at hfst
      have hlv : lvN p.1 = .d (.sl (natsD p.1)) := by
        obtain ⟨x, r, hx⟩ : ∃ x r, p.1 = x :: r := List.exists_cons_of_ne_nil fun e => by have := hpl.1; rw [e] at this; simp at this; omega
        simp [hx, lvN]
      have hW : wrongP w l = (p.1, 0) := by rw [hQ, hfst]; rfl
      simp only [go_sem, hlv]
      refine ⟨by simp [BB, VBs, VB, wrkB], ?_⟩
      rw [wrongV, hW]
      rfl
    · rw [List.find?_cons_of_neg (by rw [h3]; simp)] at hf1
      exact ⟨by simp [BB, VBs, VB, wrkB], p.2, rest', rfl, rfl, fun q hq => hpm q (List.mem_cons_of_mem _ hq), hf1⟩
end Go.Aw
end

section
set_option maxRecDepth 100000
namespace Go.Aw
open Go Go.Proofs.Try

/-- All truths that begin with some. -/
def trL (w : Works) : Nat → List Int → List (List Int)
  | 0, l => [l]
  | r + 1, l => (List.range ((w.sl l.length).thick.hi - (w.sl l.length).thick.lo + 1).toNat).flatMap fun (k : Nat) => trL w r (l ++ [(w.sl l.length).thick.lo + (k : Int)])

def lF (l : List Int) (k : Int) : Int := l.getD k.toNat 0

def thrI (l : List Int) : List V := [.d (cntD (lF l))]

theorem lF_splice (l : List Int) (a b : Int) {q : Nat} (hq : q = l.length) (h : q < 4) (c : List Int) (hc : c = l ∨ c = l ++ [a]) :
    List.take q [V.d (.int .i64 (lF c 0)), .d (.int .i64 (lF c 1)), .d (.int .i64 (lF c 2)), .d (.int .i64 (lF c 3))] ++ V.d (.int .i64 b) :: List.drop q [V.d (.int .i64 (lF c 1)), .d (.int .i64 (lF c 2)), .d (.int .i64 (lF c 3))] =
    [V.d (.int .i64 (lF (l ++ [b]) 0)), .d (.int .i64 (lF (l ++ [b]) 1)), .d (.int .i64 (lF (l ++ [b]) 2)), .d (.int .i64 (lF (l ++ [b]) 3))] := by
  have key : ∀ k : Nat, k ≠ q → lF c (k : Int) = lF (l ++ [b]) (k : Int) := fun k hk => by
    simp only [lF, Int.toNat_natCast, List.getD_eq_getElem?_getD]
    congr 1
    rcases hc with hc | hc <;> rw [hc]
    · rcases Nat.lt_or_ge k l.length with h1 | h1
      · rw [List.getElem?_append_left h1]
      · rw [List.getElem?_eq_none h1, List.getElem?_eq_none (by simp; omega)]
    · rcases Nat.lt_or_ge k l.length with h1 | h1
      · rw [List.getElem?_append_left h1, List.getElem?_append_left h1]
      · rw [List.getElem?_eq_none (by simp; omega), List.getElem?_eq_none (by simp; omega)]
  have kq : lF (l ++ [b]) (q : Int) = b := by
    subst hq
    simp [lF]
  have h4 : q = 0 ∨ q = 1 ∨ q = 2 ∨ q = 3 := by omega
  rcases h4 with h4 | h4 | h4 | h4 <;> rw [h4] at kq key ⊢
  · have k1 := key 1 (by omega); have k2 := key 2 (by omega); have k3 := key 3 (by omega)
    simp at k1 k2 k3 kq
    simp [k1, k2, k3, kq]
  · have k1 := key 0 (by omega); have k2 := key 2 (by omega); have k3 := key 3 (by omega)
    simp at k1 k2 k3 kq
    simp [k1, k2, k3, kq]
  · have k1 := key 0 (by omega); have k2 := key 1 (by omega); have k3 := key 3 (by omega)
    simp at k1 k2 k3 kq
    simp [k1, k2, k3, kq]
  · have k1 := key 0 (by omega); have k2 := key 1 (by omega); have k3 := key 2 (by omega)
    simp at k1 k2 k3 kq
    simp [k1, k2, k3, kq]

theorem hy3 {n : Nat} {Hs : Heap} (hn : Hs.length = n) (Y : Heap) : (Hs ++ Y)[n + 3]? = Y[3]? := by rw [List.getElem?_append_right (by omega), hn]; congr 1; omega
theorem hs3 {n : Nat} {Hs : Heap} (hn : Hs.length = n) (Y : Heap) (X : Blk) : (Hs ++ Y).set (n + 3) X = Hs ++ Y.set 3 X := by rw [List.set_append_right _ _ (by omega), hn]; congr 2; omega

section
variable {yv : V} {n : Nat} {I : List (List V) → Heap → Prop} {Q : V → Heap → Prop} {w : Works}

def onW (n : Nat) : V := .fn (.func 121) [] [.ptr n 0, .ptr (n + 1) 0, .ptr (n + 2) 0]

def SPost (w : Works) (yv : V) (n : Nat) (I : List (List V) → Heap → Prop) (Q : V → Heap → Prop) (rest : List (List V)) (v : V) (H' : Heap) : Prop :=
  ∃ H1, H' = H1 ++ [wrkB w, .cells [yv], .cells [onW n]] ∧ H1.length = n ∧ BBs n H1 ∧ ((v = .d (.bool true) ∧ I rest H1) ∨ (v = .d (.bool false) ∧ Q (.tup []) H1))

theorem c121 (hok : w.Ok) (hf : ∃ f x y, yv = .fn f x y) (hyv : VB n yv = true) (hI : ∀ l H, I l H → H.length = n ∧ BBs n H)
    (hy : ∀ a r H, I (a :: r) H → ACallV prog yv a H (fun v H' => (v = .d (.bool true) ∧ I r H') ∨ (v = .d (.bool false) ∧ H'.length = n ∧ BBs n H' ∧ Q (.tup []) H'))) :
    ∀ (r : Nat) (l : List Int) (rest : List (List V)) (H : Heap), l.length + r = w.slips.length → I ((trL w r l).map thrI ++ rest) H →
      ACalls prog 121 [.d (cntD (lF l)), .d (.int .i64 l.length), .ptr n 0, .ptr (n + 1) 0, .ptr (n + 2) 0] (H ++ [wrkB w, .cells [yv], .cells [onW n]]) (SPost w yv n I Q rest) := by
  obtain ⟨f, x, y, rfl⟩ := hf
  obtain ⟨l1, l2⟩ := hok.len
  intro r
  induction r with
  | zero =>
    intro l rest H hl hi
    have hHl := (hI _ _ hi).1
    have hHb := (hI _ _ hi).2
    have d1 : decide ((l.length : Int) = w.slips.length) = true := by simp only [decide_eq_true_eq]; omega
    refine ACalls.run (fun _ => false) tt_ok (fn := f121) (rs := [.tmp 7]) rfl rfl rfl rfl rfl rfl rfl ?_
    have hYB : ∀ H1 : Heap, H1.length = n → BBs n H1 → BBs (n + 3) (H1 ++ [wrkB w, .cells [.fn f x y], .cells [onW n]]) := fun H1 h1 h2 =>
      BBs_append (BBs_le (by omega) h2) ⟨by simp [BB, VBs, VB, wrkB], by simp only [BB, VBs, Bool.and_true]; exact VB_le (by omega) _ hyv, by simp [BB, VBs, VB, onW], trivial⟩
    have ht : ∀ H1 : Heap, H1.length = n → ∀ a b c d : Blk, (H1 ++ [a, b, c, d]).take (n + 3) = H1 ++ [a, b, c] := fun H1 h1 a b c d => by
      rw [← h1, List.take_append, List.take_of_length_le (by omega)]; simp
    simp only [go_sem, cntD, wrkB, hyl hHl, hy0 hHl, hy1 hHl, hy2 hHl, hy3 hHl, List.append_assoc, List.length_map, d1]
    refine (yield_frame hyv hI hy (r := rest) [wrkB w, .cells [.fn f x y], .cells [onW n], cntB (lF l)] rfl hi).mono ?_
    rintro v H' ⟨H1, rfl, k1, k2, k3⟩
    rcases k3 with ⟨rfl, k3⟩ | ⟨rfl, k3⟩
    · simp only [go_sem, ht H1 k1]
      exact ⟨.inr (hYB H1 k1 k2), H1, rfl, k1, k2, .inl ⟨rfl, k3⟩⟩
    · simp only [go_sem, ht H1 k1]
      exact ⟨.inr (hYB H1 k1 k2), H1, rfl, k1, k2, .inr ⟨rfl, k3⟩⟩
  | succ r ih =>
    intro l rest H hl hi
    have hHl := (hI _ _ hi).1
    have hHb := (hI _ _ hi).2
    have hlt : l.length < w.slips.length := by omega
    have d1 : decide ((l.length : Int) = w.slips.length) = false := by simp only [decide_eq_false_iff_not]; omega
    have hat := Works.at hlt
    have hth := (hok.sl l.length).thick
    refine ACalls.run (fun _ => false) tt_ok (fn := f121) (rs := [.tmp 7]) rfl rfl rfl rfl rfl rfl rfl ?_
    have hYB : ∀ H1 : Heap, H1.length = n → BBs n H1 → BBs (n + 3) (H1 ++ [wrkB w, .cells [.fn f x y], .cells [onW n]]) := fun H1 h1 h2 =>
      BBs_append (BBs_le (by omega) h2) ⟨by simp [BB, VBs, VB, wrkB], by simp only [BB, VBs, Bool.and_true]; exact VB_le (by omega) _ hyv, by simp [BB, VBs, VB, onW], trivial⟩
    have ht : ∀ H1 : Heap, H1.length = n → ∀ a b c d : Blk, (H1 ++ [a, b, c, d]).take (n + 3) = H1 ++ [a, b, c] := fun H1 h1 a b c d => by
      rw [← h1, List.take_append, List.take_of_length_le (by omega)]; simp
    simp only [go_sem, cntD, wrkB, hyl hHl, hy0 hHl, hy1 hHl, hy2 hHl, hy3 hHl, List.append_assoc, List.length_map, d1, hat, Slip.d]
    simp only [trL] at hi
    obtain ⟨lo, hlo⟩ : ∃ lo, lo = (w.sl l.length).thick.lo := ⟨_, rfl⟩
    obtain ⟨hh, hhi⟩ : ∃ hh, hh = (w.sl l.length).thick.hi := ⟨_, rfl⟩
    rw [← hlo, ← hhi] at hth hi
    refine ALoop.by (S := Nat × Heap) (fun s => [(8, .d (.int .i64 (lo + s.1))), (5, .ptr (n + 3) 0), (4, .ptr (n + 2) 0), (3, .ptr (n + 1) 0), (2, .ptr n 0), (1, .d (.int .i64 l.length))])
      (fun s => s.2 ++ [wrkB w, .cells [.fn f x y], .cells [onW n], cntB (lF (if s.1 = 0 then l else l ++ [lo + s.1 - 1]))]) (fun s => (hh - lo + 1).toNat - s.1)
      (fun s => s.1 ≤ (hh - lo + 1).toNat ∧ I ((((List.range (hh - lo + 1).toNat).drop s.1).flatMap fun (k : Nat) => trL w r (l ++ [lo + (k : Int)])).map thrI ++ rest) s.2) (0, H) (by simp [hHl]) (fun _ h => nomatch h) ⟨Nat.zero_le _, hi⟩ ?_ ?_
    · exact ForgetTo.same' (by simp [hHl]) (by simp [EWe, Env.look, hlo]) (by simp [wrkB, cntB])
    rintro ⟨k, Hc⟩ ⟨hk, hI0⟩ hn2
    dsimp only at hk hI0 hn2 ⊢
    have hcl := (hI _ _ hI0).1
    have hcb := (hI _ _ hI0).2
    refine AWP.run (fun _ => false) tt_ok (fun _ h => nomatch h) (by simp [hcl]) rfl ?_
    simp only [go_sem, cntB, wrkB, hyl hcl, hy0 hcl, hy1 hcl, hy2 hcl, hy3 hcl, List.append_assoc, List.length_map, hat, Slip.d]
    rw [← hhi]
    refine Br_split (fun hd => ?_) (fun hd => ?_) <;> simp only [go_sem, hd]
    · have hkl : k < (hh - lo + 1).toNat := by simp only [decide_eq_true_eq] at hd; omega
      have c0 : (0 : Int) ≤ (l.length : Int) := by omega
      have c1 : (l.length : Int) < 4 := by omega
      have hsp := lF_splice l (lo + k - 1) (lo + k) rfl (by omega) (if k = 0 then l else l ++ [lo + (k : Int) - 1]) (by split <;> simp)
      have hq3 : l.length ≤ 3 := by omega
      have w1 : IntKind.i64.wrap ((l.length : Int) + 1) = ((l.length + 1 : Nat) : Int) := by rw [w64 (by omega) (by omega)]; omega
      have w2 : IntKind.i64.wrap (lo + (k : Int) + 1) = lo + ((k + 1 : Nat) : Int) := by rw [w64 (by omega) (by omega)]; omega
      generalize (if k = 0 then l else l ++ [lo + (k : Int) - 1]) = cc at *
      simp only [go_sem, c0, c1, Int.toNat_natCast, Nat.mul_one, Nat.zero_add, hq3, hsp, hyl hcl, hy0 hcl, hy1 hcl, hy2 hcl, hy3 hcl, hs3 hcl, List.append_assoc]
      rw [w1]
      rw [List.drop_eq_getElem_cons (by simpa using hkl), List.flatMap_cons, List.map_append, List.append_assoc, List.getElem_range] at hI0
      generalize hrem : (((List.range (hh - lo + 1).toNat).drop (k + 1)).flatMap fun (k : Nat) => trL w r (l ++ [lo + (k : Int)])).map thrI ++ rest = rem at hI0
      have hc := ih (l ++ [lo + (k : Int)]) rem Hc (by simp; omega) hI0
      have hlen1 : (l ++ [lo + (k : Int)]).length = l.length + 1 := by simp
      rw [hlen1] at hc
      have hBl : (Hc ++ [wrkB w, .cells [.fn f x y], .cells [onW n]]).length = n + 3 := by simp [hcl]
      have hfr := ACallV.frame (X := [cntB (lF (l ++ [lo + (k : Int)]))]) (f := onW n) (vs := [.d (cntD (lF (l ++ [lo + (k : Int)]))), .d (.int .i64 ((l.length + 1 : Nat) : Int))])
        (fun id b hb => by rw [hBl]; exact BBs_get (hYB Hc hcl hcb) id b hb) (by rw [hBl]; simp [VB, VBs, onW]) (by simp [VBs, VB]) (fun v H' ⟨H1, e1, e2, _⟩ => by rw [e1, hBl]; simp [e2]) (ACallV.of (x := []) rfl hc)
      rw [List.append_assoc] at hfr
      refine hfr.mono ?_
      rintro v H' ⟨H1, rfl, H2, rfl, k1, k2, k3⟩
      rcases k3 with ⟨rfl, k3⟩ | ⟨rfl, k3⟩
      · simp only [go_sem]
        refine ⟨(k + 1, H2), ⟨hkl, by dsimp only; rw [hrem]; exact k3⟩, by dsimp only; omega, ?_⟩
        dsimp only
        have hif : (if k + 1 = 0 then l else l ++ [lo + ((k + 1 : Nat) : Int) - 1]) = l ++ [lo + (k : Int)] := by
          rw [if_neg (by omega), show lo + ((k + 1 : Nat) : Int) - 1 = lo + (k : Int) by omega]
        rw [hif]
        exact ForgetTo.same' (by simp [k1]) (by simp [EWe, Env.look, w2]) (by simp [wrkB, cntB])
      · simp only [go_sem, List.append_assoc, List.cons_append, List.nil_append]
        rw [ht H2 k1]
        exact ⟨.inr (hYB H2 k1 k2), H2, rfl, k1, k2, .inr ⟨rfl, k3⟩⟩
    · have hke : k = (hh - lo + 1).toNat := by simp only [decide_eq_false_iff_not] at hd; omega
      subst hke
      rw [List.drop_eq_nil_of_le (by simp)] at hI0
      rw [ht Hc hcl]
      exact ⟨.inr (hYB Hc hcl hcb), Hc, rfl, hcl, hcb, .inl ⟨rfl, hI0⟩⟩
end

theorem c101 {w : Works} (hok : w.Ok) : Iter prog (.fn (.func 101) [.d w.d] []) ((trL w w.slips.length []).map thrI) := by
  intro yv n I Q hf hyv hI hy hend H hH
  have hHl := (hI _ _ hH).1
  have hHb := (hI _ _ hH).2
  have hf' := hf
  obtain ⟨f, x, y, rfl⟩ := hf'
  refine ACallV.of rfl ?_
  refine ACalls.run (fun _ => false) tt_ok (fn := f101) (rs := []) rfl rfl rfl rfl rfl rfl rfl ?_
  simp only [go_sem, Works.d, hyl hHl, hy0 hHl, hy1 hHl, hy2 hHl, hs2 hHl, List.append_assoc]
  rw [hHl]
  have hc := c121 hok hf hyv hI hy w.slips.length [] [] H (by simp) (by rw [List.append_nil]; exact hH)
  refine ACallV.of rfl (ACalls.dz (ACalls.mono hc ?_))
  rintro v H' ⟨H1, rfl, k1, k2, k3⟩
  have hq : Q (.tup []) H1 := by
    rcases k3 with ⟨_, k3⟩ | ⟨_, k3⟩
    · exact hend _ k3
    · exact k3
  simp only [go_sem, htk k1]
  exact ⟨.inr k2, hq⟩
end Go.Aw
end

section
set_option maxRecDepth 100000
namespace Go.Aw
open Go Go.Proofs.Try

structure Look where
  coats : List Int
  how : Int
deriving DecidableEq

def Look.d (a : Look) : D := .agg [.sl (a.coats.map (.int .i64)), .int .i64 a.how]

theorem enc_look : Enc 2 (Tt 83) Look.d := fun x => ⟨rfl, rfl⟩

def badLook (w : Works) (a : Look) : Bool := !coatsP w a.coats || decide (a.how < 1) || decide (3 < a.how)

theorem c99 {w : Works} (hw : w.slips.length ≤ 4294967296) {a : Look} (ha : a.coats.length ≤ 4294967296) {i : Nat} {H : Heap} {Q : V → Heap → Prop} (h0 : H[i]? = some (wrkB w)) (hbb : BBs H.length H) (h : Q (.d (.bool (badLook w a))) H) :
    ACalls prog 99 [.d a.d, .ptr i 0] H Q := by
  have hi := lt_of_getElem? h0
  simp only [wrkB] at h0
  have h0' : ∀ Y : Heap, (H ++ Y)[i]? = some (.cells [.d (.sl (w.slips.map Slip.d)), .d (.int .i64 w.hides), .d (.int .i64 w.drops)]) := fun Y => by rw [List.getElem?_append_left hi]; exact h0
  refine ACalls.run (fun _ => false) tt_ok (fn := f99) (rs := [.tmp 3]) rfl rfl rfl rfl rfl rfl rfl ?_
  have ht : ∀ Y : Blk, (H ++ [Y]).take H.length = H := fun Y => by rw [List.take_append_of_le_length (Nat.le_refl _), List.take_length]
  simp only [go_sem, Look.d, ap0, h0']
  refine (c71 w hw a.coats ha).call rfl rfl rfl ?_
  cases h1 : coatsP w a.coats with
  | false =>
    have hb : badLook w a = true := by rw [badLook, h1]; rfl
    simp only [go_sem]
    rw [hb] at h
    rw [ht]
    exact ⟨.inr hbb, h⟩
  | true =>
  have hb : badLook w a = (decide (a.how < 1) || decide (3 < a.how)) := by rw [badLook, h1]; rfl
  rw [hb] at h
  simp only [go_sem, ap0]
  cases h2 : decide (a.how < 1) with
  | true =>
    rw [h2] at h
    simp only [go_sem]
    rw [ht]
    exact ⟨.inr hbb, h⟩
  | false =>
    rw [h2] at h
    simp only [go_sem, ap0]
    rw [ht]
    exact ⟨.inr hbb, by simpa using h⟩

def lookE (w : Works) (l : List Look) : Int := if checkP w = 0 then (if l.length > 6 then 5 else if l.any (badLook w) = true then 2 else 0) else checkP w

theorem lookE_ok {w : Works} {l : List Look} (h : lookE w l = 0) : w.Ok ∧ l.length ≤ 6 ∧ ∀ a ∈ l, coatsP w a.coats = true := by
  unfold lookE at h
  split at h
  · rename_i h1
    split at h
    · omega
    rename_i h2
    split at h
    · omega
    rename_i h3
    refine ⟨checkP_iff.1 h1, by omega, fun a ha => ?_⟩
    have h4 : badLook w a = false := by
      rw [← Bool.not_eq_true]
      exact fun h => h3 (List.any_eq_true.2 ⟨a, ha, h⟩)
    simp only [badLook, Bool.or_eq_false_iff, Bool.not_eq_false'] at h4
    exact h4.1.1
  · omega

/-- How thick coats are in a truth. -/
def dotT (coats t : List Int) (n : Nat) : Int := ((List.range n).map fun s : Nat => cntF coats s * lF t s).sum

def fitsT (w : Works) (l : List Look) (t : List Int) : Bool := l.all fun a => decide (howF w (dotT a.coats t w.slips.length) = a.how)

def baseT (w : Works) (acc : List Sp) (t : List Int) : List Sp := if acc = [] then (List.range w.slips.length).map fun s : Nat => ⟨lF t s, lF t s⟩ else acc

def widT (w : Works) (base : List Sp) (t : List Int) (n : Nat) : List Sp := (List.range w.slips.length).map fun s : Nat => if s < n then ⟨min (base.getD s ⟨0, 0⟩).lo (lF t s), max (base.getD s ⟨0, 0⟩).hi (lF t s)⟩ else base.getD s ⟨0, 0⟩

def lookS (w : Works) (l : List Look) (acc : List Sp) (t : List Int) : List Sp := if fitsT w l t = true then widT w (baseT w acc t) t w.slips.length else acc

def lookL (w : Works) (l : List Look) : List Sp := (trL w w.slips.length []).foldl (lookS w l) []

def lookP (w : Works) (l : List Look) : List Sp × Int := if lookE w l = 0 then (if lookL w l = [] then ([], 9) else (lookL w l, 0)) else ([], lookE w l)

def lookV (w : Works) (l : List Look) : V := if (lookP w l).2 = 0 then .d (.sl ((lookP w l).1.map Sp.d)) else .slx (some true) []

def looksB (l : List Look) : Blk := .cells [.d (.sl (l.map Look.d))]
def coatsD (l : List Look) : List D := l.map fun a => cntD (cntF a.coats)

/-- The heap of Looks. -/
def hL (w : Works) (l : List Look) (acc : List Sp) : Heap := [wrkB w, looksB l, .cells [.ref 6 acc.length 0 acc.length], wrkB w, .cells [.ref 5 l.length 0 l.length], .arr 4 (decide (l.length = 0)) (coatsD l), .arr 2 (decide (acc.length = 0)) (acc.map Sp.d)]

theorem hL_BBs (w : Works) (l : List Look) (acc : List Sp) : BBs 7 (hL w l acc) := by simp [hL, BBs, BB, VBs, VB, wrkB, looksB]

theorem widT_len (w : Works) (base : List Sp) (t : List Int) (n : Nat) : (widT w base t n).length = w.slips.length := by simp [widT]

theorem widT_zero {w : Works} {base : List Sp} (h : base.length = w.slips.length) (t : List Int) : widT w base t 0 = base := by
  refine List.ext_getElem (by simp [widT, h]) fun i h1 h2 => ?_
  simp [widT, List.getD_eq_getElem?_getD, List.getElem?_eq_getElem h2]

theorem widT_succ {w : Works} (base : List Sp) (t : List Int) {s : Nat} (hs : s < w.slips.length) : widT w base t (s + 1) = (widT w base t s).set s ⟨min (base.getD s ⟨0, 0⟩).lo (lF t s), max (base.getD s ⟨0, 0⟩).hi (lF t s)⟩ := by
  refine List.ext_getElem (by simp [widT]) fun i h1 h2 => ?_
  rw [List.getElem_set]
  by_cases h : s = i
  · subst h
    rw [if_pos rfl]
    simp [widT]
  · rw [if_neg h]
    simp only [widT, List.getElem_map, List.getElem_range]
    by_cases h3 : i < s
    · rw [if_pos h3, if_pos (by omega)]
    · rw [if_neg h3, if_neg (by omega)]

theorem dotT_succ (c t : List Int) (n : Nat) : dotT c t (n + 1) = dotT c t n + cntF c n * lF t n := by
  simp [dotT, List.range_succ]

theorem trL_mem {w : Works} : ∀ (r : Nat) (l t : List Int), t ∈ trL w r l → t.length = l.length + r ∧ (∀ k, k < l.length → t[k]? = l[k]?) ∧ ∀ k, l.length ≤ k → k < l.length + r → (w.sl k).thick.lo ≤ lF t k ∧ lF t k ≤ (w.sl k).thick.hi
  | 0, l, t, h => by
    simp only [trL, List.mem_singleton] at h
    subst h
    exact ⟨rfl, fun _ _ => rfl, fun k h1 h2 => by omega⟩
  | r + 1, l, t, h => by
    simp only [trL, List.mem_flatMap, List.mem_range] at h
    obtain ⟨k, hk, ht⟩ := h
    obtain ⟨h1, h2, h3⟩ := trL_mem r _ t ht
    simp only [List.length_append, List.length_cons, List.length_nil] at h1 h2 h3
    refine ⟨by omega, fun j hj => ?_, fun j hj1 hj2 => ?_⟩
    · rw [h2 j (by omega), List.getElem?_append_left hj]
    · by_cases hjl : j = l.length
      · subst hjl
        have := h2 l.length (by omega)
        simp only [List.getElem?_append_right (Nat.le_refl _), Nat.sub_self, List.getElem?_cons_zero] at this
        simp only [lF, Int.toNat_natCast, List.getD_eq_getElem?_getD, this, Option.getD_some]
        omega
      · exact h3 j (by omega) (by omega)

theorem trL_bnd {w : Works} (hok : w.Ok) {t : List Int} (h : t ∈ trL w w.slips.length []) : t.length = w.slips.length ∧ ∀ k : Nat, 0 ≤ lF t k ∧ lF t k ≤ 60 := by
  obtain ⟨h1, _, h3⟩ := trL_mem _ _ _ h
  simp only [List.length_nil, Nat.zero_add] at h1 h3
  refine ⟨h1, fun k => ?_⟩
  rcases Nat.lt_or_ge k w.slips.length with hk | hk
  · have := h3 k (Nat.zero_le _) hk
    have := (hok.sl k).thick
    omega
  · simp only [lF, Int.toNat_natCast, List.getD_eq_getElem?_getD]
    rw [List.getElem?_eq_none (by omega)]
    simp

theorem cnt60 {c t : List Int} (hc : c.length ≤ 8) {n : Nat} (ht : ∀ k : Nat, 0 ≤ lF t k ∧ lF t k ≤ 60) : 0 ≤ cntF c n * lF t n ∧ cntF c n * lF t n ≤ 480 := by
  have h1 := cntF_le c n
  have h2 := ht n
  have h3 := Int.mul_le_mul (show cntF c n ≤ 8 by omega) h2.2 h2.1 (by omega)
  exact ⟨Int.mul_nonneg h1.1 h2.1, by omega⟩

theorem dotT_bnd {c t : List Int} (hc : c.length ≤ 8) (ht : ∀ k : Nat, 0 ≤ lF t k ∧ lF t k ≤ 60) : ∀ n, 0 ≤ dotT c t n ∧ dotT c t n ≤ 480 * n
  | 0 => by simp [dotT]
  | n + 1 => by
    have ih := dotT_bnd hc ht n
    have := cnt60 hc (n := n) ht
    rw [dotT_succ]
    omega

theorem c43 (w : Works) (l : List Look) (hw : w.slips.length ≤ 4294967296) (hl : l.length ≤ 4294967296) (hj : ∀ a ∈ l, a.coats.length ≤ 4294967296) : PC prog 43 [.d w.d, .d (.sl (l.map Look.d))] (.tup [lookV w l, .d (.int .i64 (lookP w l).2)]) := by
  refine PC.run (fun k => false) tt_ok (fn := f43) (rs := [.cell 4 46, .tmp 5]) rfl rfl rfl rfl rfl rfl rfl ?_
  simp only [go_sem, Works.d]
  refine (c70 w hw).call rfl rfl rfl ?_
  simp only [go_sem, Works.d]
  have bad : ∀ e : Int, lookE w l = e → e ≠ 0 → lookV w l = .slx (some true) [] ∧ (lookP w l).2 = e := fun e h h0 => by
    have hP : lookP w l = ([], e) := by rw [lookP, if_neg (by rw [h]; exact h0), h]
    rw [lookV, hP, if_neg h0]
    exact ⟨rfl, rfl⟩
  refine Br_split (fun h1 => ?_) (fun h1 => ?_) <;> simp only [go_sem, h1]
  · have hc : ¬ checkP w = 0 := by simpa using h1
    obtain ⟨b1, b2⟩ := bad (checkP w) (by rw [lookE, if_neg hc]) hc
    rw [b1, b2]
  have hc : checkP w = 0 := by simpa using h1
  have hok := checkP_iff.1 hc
  obtain ⟨l1, l2⟩ := hok.len
  simp only [go_sem, List.length_map]
  refine Br_split (fun h2 => ?_) (fun h2 => ?_) <;> simp only [go_sem, h2]
  · have h2' : l.length > 6 := by simp only [decide_eq_true_eq] at h2; omega
    obtain ⟨b1, b2⟩ := bad 5 (by rw [lookE, if_pos hc, if_pos h2']) (by omega)
    rw [b1, b2]
  have h2' : ¬ l.length > 6 := by simp only [decide_eq_false_iff_not] at h2; omega
  refine ACallV.of rfl (c100 enc_look l (by omega) 99 [] [.ptr 3 0] (badLook w) (fun x hx Q h => ACallV.of rfl (c99 hw (hj x hx) rfl (by simp [BBs, BB, VBs, VB]) h)) ?_)
  simp only [go_sem]
  refine Br_split (fun h3 => ?_) (fun h3 => ?_) <;> simp only [go_sem, h3]
  · obtain ⟨b1, b2⟩ := bad 2 (by rw [lookE, if_pos hc, if_neg h2', if_pos h3]) (by omega)
    rw [b1, b2]
  have hE : lookE w l = 0 := by rw [lookE, if_pos hc, if_neg h2', if_neg (by rw [h3]; simp)]
  obtain ⟨_, hl6, hlo⟩ := lookE_ok hE
  clear bad
  change AWP _ _ _ _ _ _ _ _
  refine AWP.nilrow 4 0 4 rfl rfl (Nat.zero_le _) ?_
  refine ALoop.by (S := Nat) (fun i => [(38, .d (.int .i64 i)), (37, .d (.int .i64 l.length)), (36, .d (.sl (l.map Look.d))), (8, .ptr 4 0), (6, .ptr 3 0), (4, .ptr 2 0), (3, .ptr 1 0)])
    (fun i => [wrkB w, looksB l, .cells [.slx (some true) []], wrkB w, .cells [.ref 5 i 0 i], .arr 4 (decide (i = 0)) (coatsD (l.take i))]) (fun i => l.length - i) (fun i => i ≤ l.length) 0 (Nat.zero_le _) (fun _ h => nomatch h) (Nat.zero_le _) ?_ ?_
  · exact ForgetTo.same' (Nat.zero_le _) (by simp [EWe, Env.look]) (by simp [wrkB, looksB, coatsD])
  rintro i hi hn
  refine AWP.run (fun k => false) tt_ok (fun _ h => nomatch h) (Nat.zero_le _) rfl ?_
  simp only [go_sem, wrkB]
  refine Br_split (fun hd => ?_) (fun hd => ?_) <;> simp only [go_sem, hd]
  · have hlt : i < l.length := by simpa using hd
    have hix : idx? (l.map Look.d) (i : Int) = some (l[i]).d := by simp [idx?, List.getElem?_eq_getElem hlt]
    have hcp := hlo _ (List.getElem_mem hlt)
    obtain ⟨hl8, hlm⟩ := coatsP_iff.1 hcp
    have hst : coatsD (l.take (i + 1)) = coatsD (l.take i) ++ [cntD (cntF l[i].coats)] := by rw [List.take_succ_eq_append_getElem hlt, coatsD, List.map_append]; rfl
    have hnx : IntKind.i64.wrap ((i : Int) + 1) = (i : Int) + 1 := w64 (by omega) (by omega)
    have hi1 : i + 1 ≤ 4294967296 := by omega
    have hlT : (coatsD (l.take i)).length = i := by simp [coatsD]; omega
    generalize coatsD (l.take i) = A at *
    generalize l[i] = a at *
    simp only [go_sem, hix, Look.d]
    refine ADrw.treeG (fun k => false) tt_ok (by kernel_rfl) (fun k => if k = 0 ∨ k = 2 then some .L else if k = 5 ∨ k = 6 then some .W else some .S) (.ones [0, 1, 2, 3, 4, 5, 6] .done) (Nat.zero_le _) (fun _ h => nomatch h) rfl rfl (by kernel_rfl) ?_
    simp only [go_sem]
    refine (c72 a.coats (by omega) (fun n hn => by have := hlm n hn; omega)).callS rfl rfl rfl rfl rfl rfl ?_
    simp only [go_sem, hlT, hi1, cntD]
    refine ⟨i + 1, hlt, by omega, ?_⟩
    refine ForgetTo.drop (H0 := [_, _, _, _, _, _]) (Y := [_]) (Nat.zero_le _) ?_ (by simp [BBs, BB, VBs, VB, wrkB, looksB]) ?_
    · simp [wrkB, hst, cntD]
    · simp [EWp, Env.look, pubV, hnx]
  · have hie : i = l.length := by simp only [decide_eq_false_iff_not] at hd; omega
    subst hie
    simp only [go_sem]
    change AWP _ _ _ _ _ _ _ _
    refine AWP.nilrow 2 0 2 rfl rfl (Nat.zero_le _) ?_
    refine ARng.iterN (items := (trL w w.slips.length []).map thrI) (J := fun rest Hx => ∃ (acc : List Sp) (q : List (List Int)), Hx = hL w l acc ∧ rest = q.map thrI ∧ (∀ t ∈ q, t ∈ trL w w.slips.length []) ∧ (acc.length = 0 ∨ acc.length = w.slips.length) ∧ q.foldl (lookS w l) acc = lookL w l)
      (by simp) (fun _ h => nomatch h) rfl (c101 hok) rfl (by simp [VBs, VB]) ?_ ?_ ?_ ?_ ?_
    · rintro rest Hx ⟨acc, q, rfl, _, _, _, _⟩
      exact ⟨by simp [hL], hL_BBs w l acc⟩
    · exact ⟨[], _, by simp [hL, wrkB, looksB], rfl, fun _ h => h, .inl rfl, rfl⟩
    · rintro Hx ⟨acc, q, rfl, hq, _, hacc, hfo⟩
      obtain rfl : q = [] := by simpa using hq.symm
      simp only [List.foldl_nil] at hfo
      simp only [go_sem, hL, wrkB]
      refine Br_split (fun h4 => ?_) (fun h4 => ?_) <;> simp only [go_sem, h4]
      · have ha : acc = [] := List.length_eq_zero_iff.1 (by simpa using h4)
        have hP : lookP w l = ([], 9) := by rw [lookP, if_pos hE, if_pos (by rw [← hfo]; exact ha)]
        rw [lookV, hP]
        rfl
      · have ha : ¬ acc = [] := fun h => by rw [h] at h4; simp at h4
        have hP : lookP w l = (acc, 0) := by rw [lookP, if_pos hE, if_neg (by rw [← hfo]; exact ha), ← hfo]
        rw [lookV, hP]
        have : (acc.map Sp.d).take acc.length = acc.map Sp.d := List.take_of_length_le (by simp)
        rw [this]
        rfl
    · intro xs hxs
      obtain ⟨p, _, rfl⟩ := List.mem_map.1 hxs
      rfl
    · rintro L L' xs rest Hx hbL hxs ⟨acc, q, rfl, hq, hqm, hacc, hfo⟩
      obtain ⟨t, q', rfl⟩ : ∃ t q', q = t :: q' := by cases q with
        | nil => cases hq
        | cons p r => exact ⟨p, r, rfl⟩
      obtain ⟨rfl, rfl⟩ : xs = thrI t ∧ rest = q'.map thrI := by simpa using hq
      refine AWP.run (fun _ => false) tt_ok (fun _ h => by cases h; simp) (by simp [hL]) rfl ?_
      simp only [go_sem, thrI, cntD, hL, wrkB]
      refine AWP.run (fun _ => false) tt_ok (fun _ h => by cases h; simp) (by simp) rfl ?_
      simp only [go_sem]
      have htm := trL_bnd hok (hqm t List.mem_cons_self)
      obtain ⟨htl, htb⟩ := htm
      have hcdl : (coatsD l).length = l.length := by simp [coatsD]
      have hTB : BBs 9 (hL w l acc ++ [L', cntB (lF t)]) := by
        refine BBs_append (BBs_le (by omega) (hL_BBs w l acc)) ⟨BB_le (by simp [hL]) hbL, by simp [BB, VBs, VB, cntB], trivial⟩
      simp only [List.foldl_cons] at hfo
      have FIN : ∀ acc', lookS w l acc t = acc' → BB 7 L' → (acc'.length = 0 ∨ acc'.length = w.slips.length) → ∃ (acc : List Sp) (q : List (List Int)), hL w l acc' = hL w l acc ∧ q'.map thrI = q.map thrI ∧ (∀ t ∈ q, t ∈ trL w w.slips.length []) ∧ (acc.length = 0 ∨ acc.length = w.slips.length) ∧ q.foldl (lookS w l) acc = lookL w l := fun acc' h _ hl' =>
        ⟨acc', q', rfl, rfl, fun t ht => hqm t (List.mem_cons_of_mem _ ht), hl', by rw [← h]; exact hfo⟩
      simp only [go_sem, hcdl]
      refine ALoop.by (S := Nat) (fun i => [(54, .d (.int .i64 i)), (53, .d (.int .i64 l.length)), (52, .ref 5 l.length 0 l.length), (11, .ptr 8 0), (6, .ptr 3 0), (4, .ptr 2 0), (3, .ptr 1 0)])
        (fun i => hL w l acc ++ [L', cntB (lF t)]) (fun i => l.length - i) (fun i => i ≤ l.length ∧ ∀ a ∈ l.take i, howF w (dotT a.coats t w.slips.length) = a.how) 0 (by simp) (fun _ h => by cases h; simp) ⟨Nat.zero_le _, fun a ha => by simp at ha⟩ ?_ ?_
      · exact ForgetTo.same' (by simp) (by simp [EWe, Env.look]) (by simp [hL, cntB, wrkB])
      rintro i ⟨hi, hfit⟩ hn
      refine AWP.run (fun _ => false) tt_ok (fun _ h => by cases h; simp) (by simp [hL]) rfl ?_
      simp only [go_sem, hL, cntB, wrkB, List.cons_append, List.nil_append]
      refine Br_split (fun hd => ?_) (fun hd => ?_) <;> simp only [go_sem, hd]
      · have hlt : i < l.length := by simpa using hd
        have hcg : (coatsD l)[i]? = some (cntD (cntF l[i].coats)) := by simp [coatsD, List.getElem?_eq_getElem hlt]
        have hq0 : (0 : Int) ≤ (i : Int) := by omega
        have hq1 : (i : Int) < l.length := by omega
        have hix : idx? (l.map Look.d) (i : Int) = some (l[i]).d := by simp [idx?, List.getElem?_eq_getElem hlt]
        have hnx : IntKind.i64.wrap ((i : Int) + 1) = (i : Int) + 1 := w64 (by omega) (by omega)
        have hst : l.take (i + 1) = l.take i ++ [l[i]] := List.take_succ_eq_append_getElem hlt
        have hcp := hlo _ (List.getElem_mem hlt)
        have hmem := List.getElem_mem hlt
        obtain ⟨hl8, hlm⟩ := coatsP_iff.1 hcp
        generalize l[i] = a at *
        have hdb := dotT_bnd hl8 htb
        simp only [cntD] at hcg
        simp only [go_sem, hcdl, hq0, hq1, hcg, Int.toNat_natCast, List.length_map]
        refine ALoop.by (S := Nat) (fun s => [(63, .d (.int .i64 s)), (62, .d (.int .i64 w.slips.length)), (54, .d (.int .i64 i)), (53, .d (.int .i64 l.length)), (52, .ref 5 l.length 0 l.length), (14, .d (.int .i64 (dotT a.coats t s))), (13, .ptr 9 0), (12, .d (.int .i64 i)), (11, .ptr 8 0), (6, .ptr 3 0), (4, .ptr 2 0), (3, .ptr 1 0)])
          (fun s => hL w l acc ++ [L', cntB (lF t), cntB (cntF a.coats)]) (fun s => w.slips.length - s) (fun s => s ≤ w.slips.length) 0 (by simp) (fun _ h => by cases h; simp) (Nat.zero_le _) ?_ ?_
        · exact ForgetTo.same' (by simp) (by simp [EWe, Env.look, dotT]) (by simp [hL, cntB, wrkB])
        rintro s hs hns
        refine AWP.run (fun _ => false) tt_ok (fun _ h => by cases h; simp) (by simp [hL]) rfl ?_
        simp only [go_sem, hL, cntB, wrkB, List.cons_append, List.nil_append]
        refine Br_split (fun he => ?_) (fun he => ?_) <;> simp only [go_sem, he]
        · have hsl : s < w.slips.length := by simpa using he
          have hs0 : (0 : Int) ≤ (s : Int) := by omega
          have hs4 : (s : Int) < 4 := by omega
          have hh1 := cnt_head (cntF a.coats) (i := s) (by omega)
          have hh2 := cnt_head (lF t) (i := s) (by omega)
          have hm := cnt60 (c := a.coats) (n := s) hl8 htb
          have hd1 := hdb s
          have w1 : IntKind.i64.wrap (cntF a.coats s * lF t s) = cntF a.coats s * lF t s := w64 (by omega) (by omega)
          have w2 : IntKind.i64.wrap (dotT a.coats t s + cntF a.coats s * lF t s) = dotT a.coats t (s + 1) := by rw [dotT_succ]; exact w64 (by omega) (by omega)
          have w3 : IntKind.i64.wrap ((s : Int) + 1) = (s : Int) + 1 := w64 (by omega) (by omega)
          refine ADrw.treeG (fun k => false) tt_ok (by kernel_rfl) (fun k => if k = 3 ∨ k = 6 then some .L else some .S) (.ones [0, 1, 2, 3, 4, 5, 6, 7, 8, 9] .done) (by simp) (fun _ h => by cases h; simp) rfl rfl (by kernel_rfl) ?_
          simp only [go_sem, hs0, hs4, Int.toNat_natCast, Nat.mul_one, Nat.zero_add, hh1, hh2, w1, w2]
          exact ⟨s + 1, hsl, by omega, ForgetTo.same' (by simp) (by simp [EWe, Env.look, w3]) (by simp [hL, cntB, wrkB])⟩
        · have hse : s = w.slips.length := by simp only [decide_eq_false_iff_not] at he; omega
          subst hse
          simp only [go_sem]
          refine ADrw.treeG (fun k => false) tt_ok (by kernel_rfl) (fun k => if k = 0 ∨ k = 3 ∨ k = 7 then some .L else some .S) (.ones [0, 1, 2, 3, 4, 5, 6, 7, 8] .done) (by simp) (fun _ h => by cases h; simp) rfl rfl (by kernel_rfl) ?_
          simp only [go_sem]
          refine (c74 w (dotT a.coats t w.slips.length)).callS rfl rfl rfl rfl rfl rfl ?_
          simp only [go_sem, looksB, hix, Look.d]
          refine Br_split (fun hf => ?_) (fun hf => ?_) <;> simp only [go_sem, hf]
          · have hne : ¬ howF w (dotT a.coats t w.slips.length) = a.how := by simpa using hf
            have hF : fitsT w l t = false := by
              rw [fitsT, ← Bool.not_eq_true, List.all_eq_true]
              intro h
              exact hne (by simpa using h a hmem)
            have hS : lookS w l acc t = acc := by rw [lookS, if_neg (by rw [hF]; simp)]
            rw [hS] at hfo
            exact ⟨acc, q', rfl, rfl, fun t ht => hqm t (List.mem_cons_of_mem _ ht), hacc, hfo⟩
          · have heq : howF w (dotT a.coats t w.slips.length) = a.how := by simpa using hf
            refine ⟨i + 1, ⟨hlt, fun b hb => ?_⟩, by omega, ?_⟩
            · rw [hst] at hb
              rcases List.mem_append.1 hb with hb | hb
              · exact hfit b hb
              · simp only [List.mem_singleton] at hb; subst hb; exact heq
            · refine ForgetTo.drop (H0 := [_, _, _, _, _, _, _, _, _]) (Y := [_]) (by simp) ?_ (by simpa [hL, cntB, looksB, wrkB] using hTB) ?_
              · simp [hL, cntB, wrkB, looksB]
              · simp [EWp, Env.look, pubV, hnx]
      · have hie : i = l.length := by simp only [decide_eq_false_iff_not] at hd; omega
        subst hie
        rw [List.take_length] at hfit
        have hF : fitsT w l t = true := by
          rw [fitsT, List.all_eq_true]
          intro a ha
          simpa using hfit a ha
        have hS : lookS w l acc t = widT w (baseT w acc t) t w.slips.length := by rw [lookS, if_pos hF]
        rw [hS] at hfo
        clear FIN hS
        refine Br_split (fun hb => ?_) (fun hb => ?_) <;> simp only [go_sem, hb]
        have hpre : ∀ s, ((List.range s).map fun k : Nat => (⟨lF t k, lF t k⟩ : Sp)).length = s := fun s => by simp
        case' refine_2.refine_2.refine_2.refine_2.refine_2.refine_5.refine_2.refine_2.refine_1 =>
          obtain rfl : acc = [] := List.length_eq_zero_iff.1 (by simpa using hb)
          have hbase : baseT w [] t = (List.range w.slips.length).map fun k : Nat => (⟨lF t k, lF t k⟩ : Sp) := rfl
          simp only [go_sem, List.length_map]
          refine ALoop.by (S := Nat) (fun s => [(92, .d (.int .i64 s)), (91, .d (.int .i64 w.slips.length)), (11, .ptr 8 0), (6, .ptr 3 0), (4, .ptr 2 0)])
            (fun s => hL w l ((List.range s).map fun k : Nat => (⟨lF t k, lF t k⟩ : Sp)) ++ [L', cntB (lF t)]) (fun s => w.slips.length - s) (fun s => s ≤ w.slips.length) 0 (by simp) (fun _ h => by cases h; simp) (Nat.zero_le _) ?_ ?_
          · exact ForgetTo.same' (by simp) (by simp [EWe, Env.look]) (by simp [hL, cntB, wrkB])
          rintro s hs hns
          refine AWP.run (fun k => false) tt_ok (fun _ h => by cases h; simp) (by simp [hL]) rfl ?_
          have hpl := hpre s
          have hpst : (List.range (s + 1)).map (fun k : Nat => (⟨lF t k, lF t k⟩ : Sp)) = (List.range s).map (fun k : Nat => (⟨lF t k, lF t k⟩ : Sp)) ++ [⟨lF t s, lF t s⟩] := by simp [List.range_succ]
          generalize hgp : (List.range s).map (fun k : Nat => (⟨lF t k, lF t k⟩ : Sp)) = P at *
          simp only [go_sem, hL, cntB, wrkB, List.cons_append, List.nil_append, hpl]
          refine Br_split (fun he => ?_) (fun he => ?_) <;> simp only [go_sem, he]
          · have hsl : s < w.slips.length := by simpa using he
            have hs0 : (0 : Int) ≤ (s : Int) := by omega
            have hs4 : (s : Int) < 4 := by omega
            have hh2 := cnt_head (lF t) (i := s) (by omega)
            have w3 : IntKind.i64.wrap ((s : Int) + 1) = (s : Int) + 1 := w64 (by omega) (by omega)
            have hs1 : s + 1 ≤ 4294967296 := by omega
            refine ADrw.treeG (fun k => false) tt_ok (by kernel_rfl) (fun k => if k = 0 ∨ k = 3 ∨ k = 6 then some .L else if k = 9 ∨ k = 10 then some .W else some .S) (.ones [0, 1, 2, 3, 4, 5, 6, 7, 8, 9, 10] .done) (by simp) (fun _ h => by cases h; simp) rfl rfl (by kernel_rfl) ?_
            simp only [go_sem, hs0, hs4, Int.toNat_natCast, Nat.mul_one, Nat.zero_add, hh2, List.length_map, hpl, hs1]
            refine ⟨s + 1, hsl, by omega, ?_⟩
            refine ForgetTo.same' (by simp) (by simp [EWe, Env.look, w3]) ?_
            rw [hpst]
            simp [hL, cntB, wrkB, hpl, Sp.d]
          have hse : s = w.slips.length := by simp only [decide_eq_false_iff_not] at he; omega
          subst hse
          rw [hgp] at hbase
          obtain ⟨base, hB⟩ : ∃ base, base = baseT w [] t := ⟨_, rfl⟩
          rw [← hB] at hbase hfo
          have hbl : base.length = w.slips.length := by rw [hbase]; exact hpl
        case' refine_2.refine_2.refine_2.refine_2.refine_2.refine_5.refine_2.refine_2.refine_2 =>
          have hbase : baseT w acc t = acc := by rw [baseT, if_neg (fun h => by rw [h] at hb; simp at hb)]
          have hpl : acc.length = w.slips.length := by
            rcases hacc with h | h
            · rw [h] at hb; simp at hb
            · exact h
          obtain ⟨base, hB⟩ : ∃ base, base = baseT w acc t := ⟨_, rfl⟩
          rw [← hB] at hbase hfo
          have hbl : base.length = w.slips.length := by rw [hbase]; exact hpl
        all_goals
          have hw0 := widT_zero hbl t
          have hwl := widT_len w base t
          have hsne : w.slips ≠ [] := by intro h; simp [h] at l1
          simp only [go_sem, List.length_map]
          refine ALoop.by (S := Nat) (fun s => [(110, .d (.int .i64 s)), (109, .d (.int .i64 w.slips.length)), (11, .ptr 8 0), (4, .ptr 2 0)])
            (fun s => hL w l (widT w base t s) ++ [L', cntB (lF t)]) (fun s => w.slips.length - s) (fun s => s ≤ w.slips.length) 0 (by simp) (fun _ h => by cases h; simp) (Nat.zero_le _) ?_ ?_
          · exact ForgetTo.same' (by simp) (by simp [EWe, Env.look]) (by rw [hw0]; simp [hL, cntB, wrkB, hbase, hpl, hsne])
          rintro s hs hns
          refine AWP.run (fun k => false) tt_ok (fun _ h => by cases h; simp) (by simp [hL]) rfl ?_
          simp only [go_sem, hL, cntB, wrkB, List.cons_append, List.nil_append, hwl]
          refine Br_split (fun he => ?_) (fun he => ?_) <;> simp only [go_sem, he]
          · have hsl : s < w.slips.length := by simpa using he
            have hs0 : (0 : Int) ≤ (s : Int) := by omega
            have hs4 : (s : Int) < 4 := by omega
            have hsn : (s : Int) < w.slips.length := by omega
            have hh2 := cnt_head (lF t) (i := s) (by omega)
            have w3 : IntKind.i64.wrap ((s : Int) + 1) = (s : Int) + 1 := w64 (by omega) (by omega)
            have hst := widT_succ base t hsl
            have hgt : ((widT w base t s).map Sp.d)[s]? = some (.agg [.int .i64 (base.getD s ⟨0, 0⟩).lo, .int .i64 (base.getD s ⟨0, 0⟩).hi]) := by
              simp [widT, List.getElem?_range hsl, Sp.d]
            refine ADrw.treeG (fun k => false) tt_ok (by kernel_rfl) (fun k => if k = 0 ∨ k = 2 ∨ k = 4 ∨ k = 6 ∨ k = 9 ∨ k = 11 ∨ k = 13 ∨ k = 15 ∨ k = 18 ∨ k = 21 then some .L else if k = 22 then some .W else some .S) (.ones [0, 1, 2, 3, 4, 5, 6, 7, 8, 9, 10, 11, 12, 13, 14, 15, 16, 17, 18, 19, 20, 21, 22] .done) (by simp) (fun _ h => by cases h; simp) rfl rfl (by kernel_rfl) ?_
            simp only [go_sem, hs0, hs4, hsn, Int.toNat_natCast, Nat.mul_one, Nat.zero_add, hh2, List.length_map, hwl, hgt]
            refine ⟨s + 1, hsl, by omega, ?_⟩
            refine ForgetTo.same' (by simp) (by simp [EWe, Env.look, w3]) ?_
            rw [hst]
            simp [hL, cntB, wrkB, Sp.d, hwl]
          · have hse : s = w.slips.length := by simp only [decide_eq_false_iff_not] at he; omega
            subst hse
            refine ⟨by simp [looksB, BB, VBs, VB], widT w base t w.slips.length, q', ?_, rfl, fun t ht => hqm t (List.mem_cons_of_mem _ ht), .inr (hwl _), hfo⟩
            simp only [hwl]
end Go.Aw
end

section
set_option maxRecDepth 100000
namespace Go.Aw
open Go Go.Proofs.Try

theorem take_succ_eq {α : Type} {a b : List α} {i : Nat} (ha : i < a.length) (hb : i < b.length) (h : a.take i = b.take i) : a.take (i + 1) = b.take (i + 1) ↔ a[i] = b[i] := by
  rw [List.take_succ_eq_append_getElem ha, h, List.take_succ_eq_append_getElem hb]
  simp only [List.append_cancel_left_eq, List.cons.injEq, and_true]

theorem c20 (a b : List Int) (ha : a.length ≤ 4294967296) (hb : b.length ≤ 4294967296) : PC prog 20 [.d (.sl (a.map (.int .i64))), .d (.sl (b.map (.int .i64)))] (.d (.bool (decide (a = b)))) := by
  refine PC.run (fun _ => false) tt_ok (fn := f20) (rs := [.tmp 4]) rfl rfl rfl rfl rfl rfl rfl ?_
  simp only [go_sem]
  refine Br_split (fun hc => ?_) (fun hc => ?_) <;> simp only [go_sem, hc]
  · have : a ≠ b := fun e => by subst e; simp at hc
    simp [this]
  · have hlen : a.length = b.length := by simp at hc; omega
    refine ALoop.by (S := Nat) (fun i => [(5, .d (.int .i64 i)), (0, .d (.sl (a.map (.int .i64)))), (1, .d (.sl (b.map (.int .i64))))]) (fun i => []) (fun i => a.length - i) (fun i => i ≤ a.length ∧ a.take i = b.take i) 0 (by simp) (fun _ h => nomatch h) ⟨Nat.zero_le _, rfl⟩ ?_ ?_
    · simp [ForgetTo, EW, VW, BBq, BBs, BB, VBs, VB, Env.look, pubV]
    · rintro i ⟨hi, hx⟩ hn
      refine AWP.run (fun _ => false) tt_ok (fun _ h => nomatch h) (by simp) rfl ?_
      simp only [go_sem]
      refine Br_split (fun hd => ?_) (fun hd => ?_) <;> simp only [go_sem, hd]
      · have hlt : i < a.length := by simpa using hd
        have hlt' : i < b.length := by omega
        have hs := take_succ_eq hlt hlt' hx
        have hne : a[i] ≠ b[i] → a ≠ b := fun h e => h (by subst e; rfl)
        refine ADrw.treeG (fun _ => false) tt_ok (by kernel_rfl) (fun k => .some .S) (.ones [0, 1, 2, 3, 4, 5, 6, 7, 8] .done) (by simp) (fun _ h => nomatch h) rfl rfl (by kernel_rfl) ?_
        simp only [go_sem, idx_nat, List.getElem?_map, List.getElem?_eq_getElem hlt, List.getElem?_eq_getElem hlt', Sp.d]
        generalize a[i] = x at hs hne
        generalize b[i] = y at hs hne
        refine Br_split (fun he => ?_) (fun he => ?_) <;> simp only [go_sem, he]
        · have hxy : x ≠ y := fun e => by subst e; simp at he
          simp [hne hxy]
        · have heq : x = y := by first | (simpa using he) | (cases x; cases y; simpa using he)
          refine ⟨i + 1, ⟨hlt, hs.2 heq⟩, by omega, ?_⟩
          simp [ForgetTo, EW, VW, BBq, BBs, BB, VBs, VB, Env.look, pubV, w64 (n := (i : Int) + 1) (by omega) (by omega)]
      · have hlt : ¬ i < a.length := by simpa using hd
        rw [List.take_of_length_le (by omega), List.take_of_length_le (by omega)] at hx
        simp [hx]

theorem c24 (a b : List Int) (ha : a.length ≤ 4294967296) (hb : b.length ≤ 4294967296) : PC prog 24 [.d (.sl (a.map (.int .i64))), .d (.sl (b.map (.int .i64)))] (.d (.bool (decide (a = b)))) := by
  refine PC.run (fun _ => false) tt_ok (fn := f24) (rs := [.tmp 4]) rfl rfl rfl rfl rfl rfl rfl ?_
  simp only [go_sem]
  refine Br_split (fun hc => ?_) (fun hc => ?_) <;> simp only [go_sem, hc]
  · have : a ≠ b := fun e => by subst e; simp at hc
    simp [this]
  · have hlen : a.length = b.length := by simp at hc; omega
    refine ALoop.by (S := Nat) (fun i => [(5, .d (.int .i64 i)), (0, .d (.sl (a.map (.int .i64)))), (1, .d (.sl (b.map (.int .i64))))]) (fun i => []) (fun i => a.length - i) (fun i => i ≤ a.length ∧ a.take i = b.take i) 0 (by simp) (fun _ h => nomatch h) ⟨Nat.zero_le _, rfl⟩ ?_ ?_
    · simp [ForgetTo, EW, VW, BBq, BBs, BB, VBs, VB, Env.look, pubV]
    · rintro i ⟨hi, hx⟩ hn
      refine AWP.run (fun _ => false) tt_ok (fun _ h => nomatch h) (by simp) rfl ?_
      simp only [go_sem]
      refine Br_split (fun hd => ?_) (fun hd => ?_) <;> simp only [go_sem, hd]
      · have hlt : i < a.length := by simpa using hd
        have hlt' : i < b.length := by omega
        have hs := take_succ_eq hlt hlt' hx
        have hne : a[i] ≠ b[i] → a ≠ b := fun h e => h (by subst e; rfl)
        refine ADrw.treeG (fun _ => false) tt_ok (by kernel_rfl) (fun k => .some .S) (.ones [0, 1, 2, 3, 4, 5, 6, 7, 8] .done) (by simp) (fun _ h => nomatch h) rfl rfl (by kernel_rfl) ?_
        simp only [go_sem, idx_nat, List.getElem?_map, List.getElem?_eq_getElem hlt, List.getElem?_eq_getElem hlt', Sp.d]
        generalize a[i] = x at hs hne
        generalize b[i] = y at hs hne
        refine Br_split (fun he => ?_) (fun he => ?_) <;> simp only [go_sem, he]
        · have hxy : x ≠ y := fun e => by subst e; simp at he
          simp [hne hxy]
        · have heq : x = y := by first | (simpa using he) | (cases x; cases y; simpa using he)
          refine ⟨i + 1, ⟨hlt, hs.2 heq⟩, by omega, ?_⟩
          simp [ForgetTo, EW, VW, BBq, BBs, BB, VBs, VB, Env.look, pubV, w64 (n := (i : Int) + 1) (by omega) (by omega)]
      · have hlt : ¬ i < a.length := by simpa using hd
        rw [List.take_of_length_le (by omega), List.take_of_length_le (by omega)] at hx
        simp [hx]

theorem c30 (a b : List Sp) (ha : a.length ≤ 4294967296) (hb : b.length ≤ 4294967296) : PC prog 30 [.d (.sl (a.map Sp.d)), .d (.sl (b.map Sp.d))] (.d (.bool (decide (a = b)))) := by
  refine PC.run (fun _ => false) tt_ok (fn := f30) (rs := [.tmp 4]) rfl rfl rfl rfl rfl rfl rfl ?_
  simp only [go_sem]
  refine Br_split (fun hc => ?_) (fun hc => ?_) <;> simp only [go_sem, hc]
  · have : a ≠ b := fun e => by subst e; simp at hc
    simp [this]
  · have hlen : a.length = b.length := by simp at hc; omega
    refine ALoop.by (S := Nat) (fun i => [(5, .d (.int .i64 i)), (0, .d (.sl (a.map Sp.d))), (1, .d (.sl (b.map Sp.d)))]) (fun i => []) (fun i => a.length - i) (fun i => i ≤ a.length ∧ a.take i = b.take i) 0 (by simp) (fun _ h => nomatch h) ⟨Nat.zero_le _, rfl⟩ ?_ ?_
    · simp [ForgetTo, EW, VW, BBq, BBs, BB, VBs, VB, Env.look, pubV]
    · rintro i ⟨hi, hx⟩ hn
      refine AWP.run (fun _ => false) tt_ok (fun _ h => nomatch h) (by simp) rfl ?_
      simp only [go_sem]
      refine Br_split (fun hd => ?_) (fun hd => ?_) <;> simp only [go_sem, hd]
      · have hlt : i < a.length := by simpa using hd
        have hlt' : i < b.length := by omega
        have hs := take_succ_eq hlt hlt' hx
        have hne : a[i] ≠ b[i] → a ≠ b := fun h e => h (by subst e; rfl)
        refine ADrw.treeG (fun _ => false) tt_ok (by kernel_rfl) (fun k => .some .S) (.ones [0, 1, 2, 3, 4, 5, 6, 7, 8] .done) (by simp) (fun _ h => nomatch h) rfl rfl (by kernel_rfl) ?_
        simp only [go_sem, idx_nat, List.getElem?_map, List.getElem?_eq_getElem hlt, List.getElem?_eq_getElem hlt', Sp.d]
        generalize a[i] = x at hs hne
        generalize b[i] = y at hs hne
        refine Br_split (fun he => ?_) (fun he => ?_) <;> simp only [go_sem, he]
        · have hxy : x ≠ y := fun e => by subst e; simp at he
          simp [hne hxy]
        · have heq : x = y := by first | (simpa using he) | (cases x; cases y; simpa using he)
          refine ⟨i + 1, ⟨hlt, hs.2 heq⟩, by omega, ?_⟩
          simp [ForgetTo, EW, VW, BBq, BBs, BB, VBs, VB, Env.look, pubV, w64 (n := (i : Int) + 1) (by omega) (by omega)]
      · have hlt : ¬ i < a.length := by simpa using hd
        rw [List.take_of_length_le (by omega), List.take_of_length_le (by omega)] at hx
        simp [hx]
theorem c22 (a b : Int) : PC prog 22 [.d (.int .i64 a), .d (.int .i64 b)] (.d (Sp.mk a b).d) := by
  refine PC.run (fun _ => false) tt_ok (fn := f22) (rs := [.cell 4 31]) rfl rfl rfl rfl rfl rfl rfl ?_
  simp only [go_sem, Sp.d]

def exW : Works := ⟨[⟨⟨10, 12⟩, ⟨2, 3⟩, 5⟩, ⟨⟨20, 25⟩, ⟨4, 4⟩, 9⟩, ⟨⟨5, 6⟩, ⟨1, 2⟩, 2⟩], 40, 60⟩
def exJ : List Job := [⟨10, [0, 0, 1]⟩, ⟨5, [2]⟩]

theorem c64 : PC prog 64 [] (.d exW.d) := by
  refine PC.run (fun _ => false) tt_ok (fn := f64) (rs := [.cell 0 24]) rfl rfl rfl rfl rfl rfl rfl ?_
  simp only [go_sem]
  refine (c22 10 12).call rfl rfl rfl ?_
  simp only [go_sem]
  refine (c22 2 3).call rfl rfl rfl ?_
  simp only [go_sem, Sp.d]
  refine (c22 20 25).call rfl rfl rfl ?_
  simp only [go_sem, Sp.d]
  refine (c22 4 4).call rfl rfl rfl ?_
  simp only [go_sem, Sp.d]
  refine (c22 5 6).call rfl rfl rfl ?_
  simp only [go_sem, Sp.d]
  refine (c22 1 2).call rfl rfl rfl ?_
  simp only [go_sem, Sp.d]
  rfl

theorem c65 : PC prog 65 [] (.d (.sl (exJ.map Job.d))) := by
  refine PC.run (fun k => k == 5) tt_ok (fn := f65) (rs := [.tmp 0]) rfl rfl rfl rfl rfl rfl rfl ?_
  simp only [go_sem]
  rfl

theorem ex_thick : thickP exW [1, 1, 0] = (⟨50, 62⟩, [2, 3], 0) := by decide +kernel
theorem ex_coats : coatsM exW [1] 2 = (⟨4, 5⟩, 0) := by decide +kernel
theorem ex_plan : planP exW [1] = ([2, 2, 2, 2], 8, 0) := by decide +kernel
theorem ex_jobs : jobsE exW exJ = 0 := by decide +kernel
theorem ex_uses : usesL exW exJ = [⟨40, 60⟩, ⟨40, 40⟩, ⟨5, 10⟩] := by decide +kernel
theorem ex_done : doneP exW exJ [50, 40, 20] = (0, 2, 0) := by decide +kernel
theorem ex_mix : mixP [⟨80, 5, 6⟩, ⟨0, 60, 1⟩, ⟨0, 0, 0⟩] ⟨10, 40, ⟨5, 10⟩⟩ = ([5, 1, 4], 31, 0) := by decide +kernel
theorem ex_told : toldP exW [⟨0, 20, ⟨45, 65⟩⟩] = ([⟨3, 3⟩, ⟨4, 4⟩, ⟨1, 2⟩], 0) := by decide +kernel
theorem ex_wrong : wrongP exW [⟨1, 10, ⟨50, 60⟩⟩] = ([0], 0) := by decide +kernel
theorem ex_looks : lookP exW [⟨[1, 1, 0], 3⟩] = ([⟨11, 12⟩, ⟨25, 25⟩, ⟨5, 6⟩], 0) := by decide +kernel
end Go.Aw
end

section
set_option maxRecDepth 100000
namespace Go.Aw
open Go Go.Proofs.Try

theorem c14 : PC prog 14 [] (.d (.bool true)) := by
  refine PC.run (fun _ => false) tt_ok (fn := f14) (rs := [.tmp 0]) rfl rfl rfl rfl rfl rfl rfl ?_
  simp only [go_sem]
  refine c64.call rfl rfl rfl ?_
  simp only [go_sem]
  refine (c17 exW [1, 1, 0] (by simp [exW]) (by simp)).call rfl rfl rfl ?_
  rw [ex_thick]
  simp only [go_sem, Sp.d]
  refine c64.call rfl rfl rfl ?_
  simp only [go_sem]
  refine (c58 exW [1] 2 (by simp [exW]) (by simp)).call rfl rfl rfl ?_
  rw [ex_coats]
  simp only [go_sem, Sp.d]
  refine c64.call rfl rfl rfl ?_
  simp only [go_sem]
  refine (c55 exW [1] (by simp [exW]) (by simp)).call rfl rfl rfl ?_
  rw [ex_plan]
  simp only [go_sem, lvI]
  refine c64.call rfl rfl rfl ?_
  simp only [go_sem]
  refine c65.call rfl rfl rfl ?_
  simp only [go_sem]
  refine (c26 exW exJ (by simp [exW]) (by simp [exJ]) (by simp [exJ])).call rfl rfl (by rw [usesV, if_pos ex_jobs, ex_uses]; rfl) ?_
  rw [usesV, if_pos ex_jobs, ex_uses, ex_jobs]
  simp only [go_sem]
  refine c64.call rfl rfl rfl ?_
  simp only [go_sem]
  refine c65.call rfl rfl rfl ?_
  simp only [go_sem]
  refine (c27 exW exJ [50, 40, 20] (by simp [exW]) (by simp [exJ]) (by simp [exJ]) (by simp)).call rfl rfl rfl ?_
  rw [ex_done]
  simp only [go_sem]
  refine (c22 5 10).call rfl rfl rfl ?_
  simp only [go_sem, Sp.d]
  refine (c34 [⟨80, 5, 6⟩, ⟨0, 60, 1⟩, ⟨0, 0, 0⟩] ⟨10, 40, ⟨5, 10⟩⟩ (by simp)).call rfl rfl rfl ?_
  rw [ex_mix]
  simp only [go_sem, lvI]
  refine c64.call rfl rfl rfl ?_
  simp only [go_sem]
  refine (c22 45 65).call rfl rfl rfl ?_
  simp only [go_sem, Sp.d]
  refine (c37 exW [⟨0, 20, ⟨45, 65⟩⟩] (by simp [exW]) (by simp)).call rfl rfl (by rw [toldV, ex_told]; rfl) ?_
  rw [toldV, ex_told]
  simp only [go_sem]
  refine c64.call rfl rfl rfl ?_
  simp only [go_sem]
  refine (c22 50 60).call rfl rfl rfl ?_
  simp only [go_sem, Sp.d]
  refine (c38 exW [⟨1, 10, ⟨50, 60⟩⟩] (by simp [exW]) (by simp)).call rfl rfl (by rw [wrongV, ex_wrong]; rfl) ?_
  rw [wrongV, ex_wrong]
  simp only [go_sem]
  refine c64.call rfl rfl rfl ?_
  simp only [go_sem]
  refine (c43 exW [⟨[1, 1, 0], 3⟩] (by simp [exW]) (by simp) (by simp)).call rfl rfl (by rw [lookV, ex_looks]; rfl) ?_
  rw [lookV, ex_looks]
  simp only [go_sem]
  have hd0 : ∀ {α : Type} [DecidableEq α] (l : List α), decide (l = l) = true := fun l => by simp
  refine ADrw.treeG (fun _ => false) tt_ok (by kernel_rfl) (fun k => if k = 0 ∨ k = 10 then some .L else some .S) (.ones [0, 1, 2, 3, 4, 5, 6, 7, 8, 9, 10, 11, 12, 13, 14, 15, 16, 17, 18, 19, 20, 21, 22, 23, 24, 25, 26, 27, 28, 29, 30, 31, 32, 33, 34, 35, 36, 37, 38, 39, 40] .done) (by simp) (fun _ h => nomatch h) rfl rfl (by kernel_rfl) ?_
  simp only [go_sem]
  refine (c22 50 62).callS rfl rfl rfl rfl rfl rfl ?_
  simp only [go_sem, Sp.d, hd0]
  refine (c24 [2, 3] [2, 3] (by simp) (by simp)).callS rfl rfl rfl rfl rfl rfl ?_
  simp only [go_sem, Sp.d, hd0]
  refine (c22 4 5).callS rfl rfl rfl rfl rfl rfl ?_
  simp only [go_sem, Sp.d, hd0]
  refine (c20 [2, 2, 2, 2] [2, 2, 2, 2] (by simp) (by simp)).callS rfl rfl rfl rfl rfl rfl ?_
  simp only [go_sem, Sp.d, hd0]
  refine (c22 40 60).callS rfl rfl rfl rfl rfl rfl ?_
  simp only [go_sem, Sp.d, hd0]
  refine (c22 40 40).callS rfl rfl rfl rfl rfl rfl ?_
  simp only [go_sem, Sp.d, hd0]
  refine (c22 5 10).callS rfl rfl rfl rfl rfl rfl ?_
  simp only [go_sem, Sp.d, hd0]
  refine (c30 [⟨40, 60⟩, ⟨40, 40⟩, ⟨5, 10⟩] [⟨40, 60⟩, ⟨40, 40⟩, ⟨5, 10⟩] (by simp) (by simp)).callS rfl rfl rfl rfl rfl rfl ?_
  simp only [go_sem, Sp.d, hd0]
  refine (c20 [5, 1, 4] [5, 1, 4] (by simp) (by simp)).call rfl rfl rfl ?_
  simp only [go_sem, Sp.d, hd0]
  refine (c22 3 3).call rfl rfl rfl ?_
  simp only [go_sem, Sp.d, hd0]
  refine (c22 4 4).call rfl rfl rfl ?_
  simp only [go_sem, Sp.d, hd0]
  refine (c22 1 2).call rfl rfl rfl ?_
  simp only [go_sem, Sp.d, hd0]
  refine (c30 [⟨3, 3⟩, ⟨4, 4⟩, ⟨1, 2⟩] [⟨3, 3⟩, ⟨4, 4⟩, ⟨1, 2⟩] (by simp) (by simp)).call rfl rfl rfl ?_
  simp only [go_sem, Sp.d, hd0]
  refine (c20 [0] [0] (by simp) (by simp)).call rfl rfl rfl ?_
  simp only [go_sem, Sp.d, hd0]
  refine (c22 11 12).call rfl rfl rfl ?_
  simp only [go_sem, Sp.d, hd0]
  refine (c22 25 25).call rfl rfl rfl ?_
  simp only [go_sem, Sp.d, hd0]
  refine (c22 5 6).call rfl rfl rfl ?_
  simp only [go_sem, Sp.d, hd0]
  refine (c30 [⟨11, 12⟩, ⟨25, 25⟩, ⟨5, 6⟩] [⟨11, 12⟩, ⟨25, 25⟩, ⟨5, 6⟩] (by simp) (by simp)).call rfl rfl rfl ?_
  simp only [go_sem, Sp.d, hd0]
end Go.Aw
end

section
set_option maxRecDepth 100000
namespace Go.Aw
open Go Go.Proofs.Try

theorem lF_idx {t : List Int} {c : Int} (h : 0 ≤ c ∧ c < t.length) : idx? (t.map (D.int .i64)) c = some (.int .i64 (lF t c)) := by
  obtain ⟨k, rfl⟩ : ∃ k : Nat, c = k := ⟨c.toNat, by omega⟩
  have hk : k < t.length := by omega
  simp [idx?, lF, List.getElem?_eq_getElem hk, List.getD_eq_getElem?_getD]

end Go.Aw
end

section
set_option maxRecDepth 100000
namespace Go.Aw
open Go Go.Proofs.Try

/-- Can coats be so thick? -/
def isT (w : Works) (t : List Int) : Prop := ∀ k, k < t.length → (w.sl k).thick.lo ≤ lF t k ∧ lF t k ≤ (w.sl k).thick.hi

end Go.Aw
end

section
set_option maxRecDepth 100000
namespace Go.Aw
open Go Go.Proofs

theorem has_list {α : Type} {enc : α → D} {p : D → Prop} (he : ∀ y, p y → ∃ s, y = enc s) : ∀ l : List D, (∀ y ∈ l, p y) → ∃ ss : List α, l = ss.map enc
  | [], _ => ⟨[], rfl⟩
  | y :: r, h => by
    obtain ⟨s, rfl⟩ := he y (h y (by simp))
    obtain ⟨ss, rfl⟩ := has_list he r fun z hz => h z (List.mem_cons_of_mem _ hz)
    exact ⟨s :: ss, rfl⟩

end Go.Aw
end

section
set_option maxRecDepth 100000
namespace Go.Aw
open Go Go.Proofs.Try

def jobB (j : Job) : Blk := .cells [.d (.int .i64 j.feet), .d (.sl (j.coats.map (.int .i64)))]

theorem take_bnd {f o : Int} {c m : Int} (hc : 0 ≤ c ∧ c ≤ m) (hm : m ≤ 8) (hf : 0 ≤ f ∧ f ≤ 200) (ho : 0 ≤ o ∧ o ≤ 20) : (0 ≤ f * o ∧ f * o ≤ 4000) ∧ (0 ≤ c * f * o ∧ c * f * o ≤ 32000) := by
  have h1 := Int.mul_le_mul hf.2 ho.2 ho.1 (by omega)
  have h2 := Int.mul_nonneg hf.1 ho.1
  have h3 := Int.mul_le_mul (show c ≤ 8 by omega) (show f * o ≤ 4000 by omega) h2 (by omega)
  have h4 := Int.mul_nonneg hc.1 h2
  rw [Int.mul_assoc]
  omega

theorem usesL_get {w : Works} {l : List Job} {s : Nat} (h : s < w.slips.length) : (usesL w l)[s]? = some (useS w l s) := by simp [usesL, List.getElem?_range h]

end Go.Aw
end

section
set_option maxRecDepth 100000
namespace Go.Aw
open Go Go.Proofs.Try

/-- A mixture. -/
structure Cont where
  f : Int
  c : Int
  p : Int

def contF (l : List Stuff) (o : List Int) : Nat → Cont
  | 0 => ⟨0, 0, 0⟩
  | i + 1 => ⟨(contF l o i).f + lF o i * (l.getD i ⟨0, 0, 0⟩).frit, (contF l o i).c + lF o i * (l.getD i ⟨0, 0, 0⟩).clay, (contF l o i).p + lF o i * (l.getD i ⟨0, 0, 0⟩).pence⟩

end Go.Aw
end

section
set_option maxRecDepth 100000
namespace Go.Aw
open Go Go.Proofs.Try

/-- A byte. -/
def Byte (n : Int) : Prop := 0 ≤ n ∧ n < 256

theorem byte_conv {n : Int} (h : Byte n) : IntKind.i64.wrap n = n := by simp only [Byte] at h; exact w64 (by omega) (by omega)

/-- Five bytes. -/
structure B5 where
  a : Int
  b : Int
  c : Int
  e : Int
  f : Int
deriving DecidableEq

def B5.d (s : B5) : D := .agg [.int .u8 s.a, .int .u8 s.b, .int .u8 s.c, .int .u8 s.e, .int .u8 s.f]

structure B5.Ok (s : B5) : Prop where
  a : Byte s.a
  b : Byte s.b
  c : Byte s.c
  e : Byte s.e
  f : Byte s.f

structure Shop where
  slips : List B5
  p : Int
  q : Int

def Shop.d (x : Shop) : D := .agg [.sl (x.slips.map B5.d), .int .u8 x.p, .int .u8 x.q]

structure Shop.Ok (x : Shop) : Prop where
  s : ∀ v ∈ x.slips, v.Ok
  p : Byte x.p
  q : Byte x.q

def v0 : B5 := ⟨20, 3, 40, 18, 4⟩

theorem v0_ok : v0.Ok := by constructor <;> simp [Byte, v0]

/-- How many slips there are; the bytes of each. -/
def Shop.n (x : Shop) : Nat := max 1 (min x.slips.length 4)
def Shop.v (x : Shop) (i : Nat) : B5 := x.slips.getD i v0

theorem Shop.v_ok {x : Shop} (hx : x.Ok) (i : Nat) : (x.v i).Ok := by
  rw [Shop.v, List.getD_eq_getElem?_getD]
  cases h : x.slips[i]? with
  | none => exact v0_ok
  | some v => exact hx.s _ (List.mem_of_getElem? h)

def slipOf (v : B5) : Slip := ⟨⟨max 1 (1 + v.a % 40 - v.c % 5), 1 + v.a % 40 + v.c / 5 % 5⟩, ⟨max 0 (v.b % 16 - v.e % 4), v.b % 16 + v.e / 4 % 4⟩, v.f % 30⟩

def Shop.hides (x : Shop) : Int := 1 + x.p % 90
def Shop.w (x : Shop) : Works := ⟨(List.range x.n).map fun i => slipOf (x.v i), x.hides, x.hides + x.q % 60⟩
def Shop.thick (x : Shop) : List Int := (List.range x.n).map fun i => 1 + (x.v i).a % 40
def Shop.ounces (x : Shop) : List Int := (List.range x.n).map fun i => (x.v i).b % 16

theorem slipOf_ok {v : B5} (hv : v.Ok) : (slipOf v).Ok := by
  have k1 := hv.a
  have k2 := hv.b
  have k3 := hv.c
  have k4 := hv.e
  have k5 := hv.f
  simp only [Byte] at k1 k2 k3 k4 k5
  exact ⟨by simp only [slipOf]; omega, by simp only [slipOf]; omega, by simp only [slipOf]; omega⟩

theorem Shop.w_len (x : Shop) : x.w.slips.length = x.n := by simp [Shop.w]
theorem Shop.n_bnd (x : Shop) : 1 ≤ x.n ∧ x.n ≤ 4 := by simp only [Shop.n]; omega

theorem c47 {x : Shop} (hx : x.Ok) : PC prog 47 [.d x.d] (.tup [.d x.w.d, .d (.sl (x.thick.map (.int .i64))), .d (.sl (x.ounces.map (.int .i64)))]) := by
  refine PC.run (fun k => k == 18 || k == 28 || k == 29) tt_ok (fn := f47) (rs := [.cell 2 24, .tmp 3, .tmp 4]) rfl rfl rfl rfl rfl rfl rfl ?_
  have h1 := hx.p
  have h2 := hx.q
  have e1 := byte_conv h1
  have e2 := byte_conv h2
  simp only [Byte] at h1 h2
  have m1 : x.p.tmod 90 = x.p % 90 := Int.tmod_eq_emod_of_nonneg h1.1
  have m2 : x.q.tmod 60 = x.q % 60 := Int.tmod_eq_emod_of_nonneg h2.1
  have z90 : (90 : Int) ≠ 0 := by omega
  have z60 : (60 : Int) ≠ 0 := by omega
  have hhi : x.hides = 1 + x.p % 90 := rfl
  have w1 : IntKind.i64.wrap (1 + x.p % 90) = x.hides := w64 (by omega) (by omega)
  have w2 : IntKind.i64.wrap (x.hides + x.q % 60) = x.hides + x.q % 60 := w64 (by omega) (by omega)
  have hn4 := x.n_bnd
  have hnd : x.n = max 1 (min x.slips.length 4) := rfl
  simp only [go_sem, Shop.d, e1, e2, m1, m2, remO_ne z90, remO_ne z60, w1, w2, Bool.or_true, Bool.true_or, Bool.or_false, Bool.false_or]
  change AWP _ _ _ _ _ _ _ _
  refine AWP.nilrow 2 0 5 rfl rfl (Nat.zero_le _) ?_
  refine ALoop.by (S := Nat) (fun i => [(8, .d (.int .i64 i)), (7, .ref 4 i 0 i), (6, .ref 3 i 0 i), (5, .ptr 2 0), (2, .ptr 1 0), (1, .ptr 0 0)])
    (fun i => [.cells [.d (.sl (x.slips.map B5.d)), .d (.int .u8 x.p), .d (.int .u8 x.q)], .cells [.d (.sl []), .d (.int .i64 0), .d (.int .i64 0)],
      .cells [.ref 5 i 0 i, .d (.int .i64 x.hides), .d (.int .i64 (x.hides + x.q % 60))], .arr 1 false (((List.range i).map fun k => 1 + (x.v k).a % 40).map (.int .i64)), .arr 1 false (((List.range i).map fun k => (x.v k).b % 16).map (.int .i64)), .arr 5 (decide (i = 0)) (((List.range i).map fun k => slipOf (x.v k)).map Slip.d)])
    (fun i => 4 - i) (fun i => i ≤ x.n) 0 (Nat.zero_le _) (fun _ h => nomatch h) (Nat.zero_le _) ?_ ?_
  · exact ForgetTo.same' (Nat.zero_le _) (by simp [EWe, Env.look]) (by simp)
  rintro i hi hn
  have hwd : i = x.n → x.w.d = .agg [.sl (((List.range i).map fun k => slipOf (x.v k)).map Slip.d), .int .i64 x.hides, .int .i64 (x.hides + x.q % 60)] ∧ x.thick = ((List.range i).map fun k => 1 + (x.v k).a % 40) ∧ x.ounces = ((List.range i).map fun k => (x.v k).b % 16) := fun h => by subst h; exact ⟨rfl, rfl, rfl⟩
  refine AWP.run (fun k => k == 18 || k == 28 || k == 29) tt_ok (fun _ h => nomatch h) (Nat.zero_le _) rfl ?_
  simp only [go_sem, Bool.or_true, Bool.true_or, Bool.or_false, Bool.false_or, List.length_map]
  by_cases hin : i < x.n
  · have hv := x.v_ok hx i
    have hst1 : ((List.range (i + 1)).map fun k => 1 + (x.v k).a % 40) = ((List.range i).map fun k => 1 + (x.v k).a % 40) ++ [1 + (x.v i).a % 40] := by rw [List.range_succ, List.map_append]; rfl
    have hst2 : ((List.range (i + 1)).map fun k => (x.v k).b % 16) = ((List.range i).map fun k => (x.v k).b % 16) ++ [(x.v i).b % 16] := by rw [List.range_succ, List.map_append]; rfl
    have hst3 : ((List.range (i + 1)).map fun k => slipOf (x.v k)) = ((List.range i).map fun k => slipOf (x.v k)) ++ [slipOf (x.v i)] := by rw [List.range_succ, List.map_append]; rfl
    have hix : i < x.slips.length → idx? (x.slips.map B5.d) (i : Int) = some (x.v i).d := fun h => by simp [idx?, List.getElem?_eq_getElem h, Shop.v, List.getD_eq_getElem?_getD]
    have hnil : x.slips.length ≤ i → x.v i = v0 := fun h => by rw [Shop.v, List.getD_eq_getElem?_getD, List.getElem?_eq_none h]; rfl
    have hnx : IntKind.i64.wrap ((i : Int) + 1) = (i : Int) + 1 := w64 (by omega) (by omega)
    have l1 : (((List.range i).map fun k => 1 + (x.v k).a % 40).map (D.int .i64)).length = i := by simp
    have l2 : (((List.range i).map fun k => (x.v k).b % 16).map (D.int .i64)).length = i := by simp
    have l3 : (((List.range i).map fun k => slipOf (x.v k)).map Slip.d).length = i := by simp
    have hi1 : i + 1 ≤ 4294967296 := by omega
    have hi2 : decide (i ≤ 4294967295) = true := by simp only [decide_eq_true_eq]; omega
    generalize ((List.range i).map fun k => 1 + (x.v k).a % 40) = M1 at *
    generalize ((List.range i).map fun k => (x.v k).b % 16) = M2 at *
    generalize ((List.range i).map fun k => slipOf (x.v k)) = M3 at *
    generalize x.v i = v at *
    have b1 := hv.a
    have b2 := hv.b
    have b3 := hv.c
    have b4 := hv.e
    have b5 := hv.f
    have f1 := byte_conv b1
    have f2 := byte_conv b2
    have f3 := byte_conv b3
    have f4 := byte_conv b4
    have f5 := byte_conv b5
    simp only [Byte] at b1 b2 b3 b4 b5
    have z40 : (40 : Int) ≠ 0 := by omega
    have z16 : (16 : Int) ≠ 0 := by omega
    have z5 : (5 : Int) ≠ 0 := by omega
    have z4 : (4 : Int) ≠ 0 := by omega
    have z30 : (30 : Int) ≠ 0 := by omega
    have n1 : v.a.tmod 40 = v.a % 40 := Int.tmod_eq_emod_of_nonneg b1.1
    have n2 : v.b.tmod 16 = v.b % 16 := Int.tmod_eq_emod_of_nonneg b2.1
    have n3 : v.c.tmod 5 = v.c % 5 := Int.tmod_eq_emod_of_nonneg b3.1
    have n4 : v.c.tdiv 5 = v.c / 5 := Int.tdiv_eq_ediv_of_nonneg b3.1
    have n5 : (v.c / 5).tmod 5 = v.c / 5 % 5 := Int.tmod_eq_emod_of_nonneg (by omega)
    have n6 : v.e.tmod 4 = v.e % 4 := Int.tmod_eq_emod_of_nonneg b4.1
    have n7 : v.e.tdiv 4 = v.e / 4 := Int.tdiv_eq_ediv_of_nonneg b4.1
    have n8 : (v.e / 4).tmod 4 = v.e / 4 % 4 := Int.tmod_eq_emod_of_nonneg (by omega)
    have n9 : v.f.tmod 30 = v.f % 30 := Int.tmod_eq_emod_of_nonneg b5.1
    have v1 : IntKind.i64.wrap (1 + v.a % 40) = 1 + v.a % 40 := w64 (by omega) (by omega)
    have v2 : IntKind.i64.wrap (v.c / 5) = v.c / 5 := w64 (by omega) (by omega)
    have v3 : IntKind.i64.wrap (v.e / 4) = v.e / 4 := w64 (by omega) (by omega)
    have v4 : IntKind.i64.wrap (1 + v.a % 40 - v.c % 5) = 1 + v.a % 40 - v.c % 5 := w64 (by omega) (by omega)
    have v5 : IntKind.i64.wrap (1 + v.a % 40 + v.c / 5 % 5) = 1 + v.a % 40 + v.c / 5 % 5 := w64 (by omega) (by omega)
    have v6 : IntKind.i64.wrap (v.b % 16 - v.e % 4) = v.b % 16 - v.e % 4 := w64 (by omega) (by omega)
    have v7 : IntKind.i64.wrap (v.b % 16 + v.e / 4 % 4) = v.b % 16 + v.e / 4 % 4 := w64 (by omega) (by omega)
    have tail : (i = 0 ∧ x.slips.length = 0) ∨ (i = 0 ∧ 0 < x.slips.length) ∨ (i ≠ 0 ∧ i < x.slips.length ∧ i < 4) := by omega
    rcases tail with ⟨r1, r2⟩ | ⟨r1, r2⟩ | ⟨r1, r2, r3⟩
    case' inl =>
      have d1 : decide ((i : Int) = 0) = true := by simp only [decide_eq_true_eq]; omega
      have d2 : decide ((i : Int) < x.slips.length) = false := by simp only [decide_eq_false_iff_not]; omega
      have hv0 := hnil (by omega)
      simp only [go_sem, Bool.or_true, Bool.true_or, Bool.or_false, Bool.false_or, d1, d2, List.length_map]
      have hB : Blk.cells [.d (.int .u8 20), .d (.int .u8 3), .d (.int .u8 40), .d (.int .u8 18), .d (.int .u8 4)] = Blk.cells [.d (.int .u8 v.a), .d (.int .u8 v.b), .d (.int .u8 v.c), .d (.int .u8 v.e), .d (.int .u8 v.f)] := by rw [hv0]; rfl
      rw [hB]
    case' inr.inl =>
      have d1 : decide ((i : Int) = 0) = true := by simp only [decide_eq_true_eq]; omega
      have d2 : decide ((i : Int) < x.slips.length) = true := by simp only [decide_eq_true_eq]; omega
      have hvx := hix (by omega)
      simp only [go_sem, Bool.or_true, Bool.true_or, Bool.or_false, Bool.false_or, d1, d2, List.length_map, hvx, B5.d]
    case' inr.inr =>
      have d1 : decide ((i : Int) = 0) = false := by simp only [decide_eq_false_iff_not]; omega
      have d2 : decide ((i : Int) < x.slips.length) = true := by simp only [decide_eq_true_eq]; omega
      have d3 : decide ((i : Int) < 4) = true := by simp only [decide_eq_true_eq]; omega
      have hvx := hix (by omega)
      simp only [go_sem, Bool.or_true, Bool.true_or, Bool.or_false, Bool.false_or, d1, d2, d3, List.length_map, hvx, B5.d]
    all_goals
      refine ADrw.treeG (fun k => k == 18 || k == 28 || k == 29) tt_ok (by kernel_rfl) (fun k => if k = 1 ∨ k = 6 then some .L else some .S) (.ones [0, 1, 2, 3, 4, 5, 6, 7, 8, 9, 10] .done) (Nat.zero_le _) (fun _ h => nomatch h) rfl rfl (by kernel_rfl) ?_
      simp only [go_sem, Bool.or_true, Bool.true_or, Bool.or_false, Bool.false_or, f1, f2, n1, n2, v1, remO_ne z40, remO_ne z16, l1, l2, hi1, hi2]
      refine ADrw.treeG (fun k => k == 18 || k == 28 || k == 29) tt_ok (by kernel_rfl) (fun k => if k = 1 ∨ k = 4 ∨ k = 11 ∨ k = 19 ∨ k = 26 ∨ k = 33 then some .L else if k = 38 ∨ k = 40 then some .W else some .S) (.ones [0, 1, 2, 3, 4, 5, 6, 7, 8, 9, 10, 11, 12, 13, 14, 15, 16, 17, 18, 19, 20, 21, 22, 23, 24, 25, 26, 27, 28, 29, 30, 31, 32, 33, 34, 35, 36, 37, 38, 39, 40] .done) (Nat.zero_le _) (fun _ h => nomatch h) rfl rfl (by kernel_rfl) ?_
      simp only [go_sem, Bool.or_true, Bool.true_or, Bool.or_false, Bool.false_or, f3, n3, n4, n5, v2, v4, v5, remO_ne z5, quoO_ne z5]
      refine (c22 (max 1 (1 + v.a % 40 - v.c % 5)) (1 + v.a % 40 + v.c / 5 % 5)).callS rfl rfl rfl rfl rfl rfl ?_
      simp only [go_sem, Bool.or_true, Bool.true_or, Bool.or_false, Bool.false_or, f4, n6, n7, n8, v3, v6, v7, remO_ne z4, quoO_ne z4]
      refine (c22 (max 0 (v.b % 16 - v.e % 4)) (v.b % 16 + v.e / 4 % 4)).callS rfl rfl rfl rfl rfl rfl ?_
      simp only [go_sem, Bool.or_true, Bool.true_or, Bool.or_false, Bool.false_or, f5, n9, remO_ne z30, Sp.d, l3, hi1, hi2, List.length_map]
      refine ⟨i + 1, by omega, by omega, ?_⟩
      refine ForgetTo.drop (H0 := [_, _, _, _, _, _]) (Y := [_]) (Nat.zero_le _) ?_ (by simp [BBs, BB, VBs, VB]) ?_
      · rw [hst1, hst2, hst3]; simp [slipOf, Slip.d, Sp.d]
      · simp [EWp, Env.look, pubV, hnx]
  · have hie : i = x.n := by omega
    obtain ⟨p1, p2, p3⟩ := hwd hie
    rw [p1, p2, p3]
    have hle : (((List.range i).map fun k => 1 + (x.v k).a % 40).map (D.int .i64)).take i = ((List.range i).map fun k => 1 + (x.v k).a % 40).map (D.int .i64) := List.take_of_length_le (by simp)
    have hle2 : (((List.range i).map fun k => (x.v k).b % 16).map (D.int .i64)).take i = ((List.range i).map fun k => (x.v k).b % 16).map (D.int .i64) := List.take_of_length_le (by simp)
    have hle3 : (((List.range i).map fun k => slipOf (x.v k)).map Slip.d).take i = ((List.range i).map fun k => slipOf (x.v k)).map Slip.d := List.take_of_length_le (by simp)
    have hl1 : ((List.range i).map fun k => 1 + (x.v k).a % 40).length = i := by simp
    have hl2 : ((List.range i).map fun k => (x.v k).b % 16).length = i := by simp
    have hl3 : ((List.range i).map fun k => slipOf (x.v k)).length = i := by simp
    generalize ((List.range i).map fun k => 1 + (x.v k).a % 40) = M1 at *
    generalize ((List.range i).map fun k => (x.v k).b % 16) = M2 at *
    generalize ((List.range i).map fun k => slipOf (x.v k)) = M3 at *
    have d1 : decide ((i : Int) = 0) = false := by simp only [decide_eq_false_iff_not]; omega
    by_cases h4 : i < x.slips.length
    · have d2 : decide ((i : Int) < x.slips.length) = true := by simp only [decide_eq_true_eq]; omega
      have d3 : decide ((i : Int) < 4) = false := by simp only [decide_eq_false_iff_not]; omega
      simp only [go_sem, Bool.or_true, Bool.true_or, Bool.or_false, Bool.false_or, d1, d2, d3, List.length_map, hle, hle2, hle3, hl1, hl2, hl3]
    · have d2 : decide ((i : Int) < x.slips.length) = false := by simp only [decide_eq_false_iff_not]; omega
      simp only [go_sem, Bool.or_true, Bool.true_or, Bool.or_false, Bool.false_or, d1, d2, List.length_map, hle, hle2, hle3, hl1, hl2, hl3]
end Go.Aw
end

section
set_option maxRecDepth 100000
namespace Go.Aw
open Go Go.Proofs.Try

theorem Shop.w_ok {x : Shop} (hx : x.Ok) : x.w.Ok := by
  have h1 := hx.p
  have h2 := hx.q
  simp only [Byte] at h1 h2
  refine ⟨by rw [x.w_len]; exact x.n_bnd, by simp only [Shop.w, Shop.hides]; omega, fun s hs => ?_⟩
  obtain ⟨i, _, rfl⟩ := List.mem_map.1 hs
  exact slipOf_ok (x.v_ok hx i)

theorem Shop.sl_eq (x : Shop) {i : Nat} (h : i < x.n) : x.w.sl i = slipOf (x.v i) := by
  simp [Works.sl, Shop.w, List.getD_eq_getElem?_getD, List.getElem?_range h]

theorem Shop.ounces_len (x : Shop) : x.ounces.length = x.n := by simp [Shop.ounces]

/-- Coats by bytes. -/
def coatsB (n : Nat) (l : List Int) : List Int := (l.take 8).map fun b => b % (n : Int)

theorem coatsB_ok {w : Works} (h : 1 ≤ w.slips.length) (l : List Int) : coatsP w (coatsB w.slips.length l) = true := by
  rw [coatsP_iff]
  refine ⟨by simp [coatsB]; omega, fun n hn => ?_⟩
  obtain ⟨b, _, rfl⟩ := List.mem_map.1 hn
  exact ⟨Int.emod_nonneg _ (by omega), Int.emod_lt_of_pos _ (by omega)⟩

theorem c48 (w : Works) (h1 : 1 ≤ w.slips.length) (h4 : w.slips.length ≤ 4) (l : List Int) (hl : ∀ b ∈ l, Byte b) : PC prog 48 [.d w.d, .d (.sl (l.map (.int .u8)))] (.d (.sl ((coatsB w.slips.length l).map (.int .i64)))) := by
  refine PC.run (fun k => k == 7) tt_ok (fn := f48) (rs := [.tmp 4]) rfl rfl rfl rfl rfl rfl rfl ?_
  simp only [go_sem, Works.d]
  refine ALoop.by (S := Nat) (fun i => [(6, .d (.int .i64 i)), (5, .ref 1 i 0 i), (2, .ptr 0 0), (1, .d (.sl (l.map (.int .u8))))])
    (fun i => [wrkB w, .arr 1 false (((l.take i).map fun b => b % (w.slips.length : Int)).map (.int .i64))]) (fun i => 8 - i) (fun i => i ≤ l.length ∧ i ≤ 8) 0 (Nat.zero_le _) (fun _ h => nomatch h) ⟨Nat.zero_le _, by omega⟩ ?_ ?_
  · exact ForgetTo.same' (Nat.zero_le _) (by simp [EWe, Env.look]) (by simp [wrkB])
  rintro i ⟨hi, hi8⟩ hn
  have hln : (((l.take i).map fun b => b % (w.slips.length : Int)).map (D.int .i64)).length = i := by simp; omega
  have fin : l.take i = l.take 8 → ((l.take i).map fun b => b % (w.slips.length : Int)) = coatsB w.slips.length l := fun h => by rw [h]; rfl
  refine AWP.run (fun k => k == 7) tt_ok (fun _ h => nomatch h) (Nat.zero_le _) rfl ?_
  simp only [go_sem, wrkB, List.length_map]
  cases d1 : decide ((i : Int) < l.length) with
  | true =>
    have hlt : i < l.length := by simpa using d1
    cases d2 : decide ((i : Int) < 8) with
    | true =>
      have hix : idx? (l.map (D.int .u8)) (i : Int) = some (.int .u8 l[i]) := by simp [idx?, List.getElem?_eq_getElem hlt]
      have hst : ((l.take (i + 1)).map fun b => b % (w.slips.length : Int)) = ((l.take i).map fun b => b % (w.slips.length : Int)) ++ [l[i] % (w.slips.length : Int)] := by rw [List.take_succ_eq_append_getElem hlt, List.map_append]; rfl
      have hb := hl _ (List.getElem_mem hlt)
      have hnx : IntKind.i64.wrap ((i : Int) + 1) = (i : Int) + 1 := w64 (by omega) (by omega)
      have hi1 : i + 1 ≤ 4294967296 := by omega
      have hi2 : decide (i ≤ 4294967295) = true := by simp only [decide_eq_true_eq]; omega
      generalize l[i] = b at *
      generalize ((l.take i).map fun b => b % (w.slips.length : Int)) = M at *
      have hc := byte_conv hb
      have hz : (w.slips.length : Int) ≠ 0 := by omega
      have hm : b.tmod w.slips.length = b % w.slips.length := Int.tmod_eq_emod_of_nonneg (by simp only [Byte] at hb; omega)
      simp only [go_sem, d2]
      refine ADrw.treeG (fun k => k == 7) tt_ok (by kernel_rfl) (fun k => if k = 7 then some .L else if k = 11 then some .W else some .S) (.ones [0, 1, 2, 3, 4, 5, 6, 7, 8, 9, 10, 11, 12] .done) (Nat.zero_le _) (fun _ h => nomatch h) rfl rfl (by kernel_rfl) ?_
      simp only [go_sem, hix, hc, hm, remO_ne hz, hln, hi1, hi2, List.length_map]
      refine ⟨i + 1, ⟨hlt, by simp only [decide_eq_true_eq] at d2; omega⟩, by simp only [decide_eq_true_eq] at d2; omega, ?_⟩
      exact ForgetTo.same' (Nat.zero_le _) (by simp [EWe, Env.look, hnx]) (by rw [hst]; simp [wrkB])
    | false =>
      have hf := fin (by rw [show i = 8 by simp only [decide_eq_false_iff_not] at d2; omega])
      rw [← hf]
      have ht : (((l.take i).map fun b => b % (w.slips.length : Int)).map (D.int .i64)).take i = ((l.take i).map fun b => b % (w.slips.length : Int)).map (.int .i64) := List.take_of_length_le (by rw [hln]; exact Nat.le_refl _)
      have hln2 : ((l.take i).map fun b => b % (w.slips.length : Int)).length = i := by simpa using hln
      generalize ((l.take i).map fun b => b % (w.slips.length : Int)) = M at *
      simp only [go_sem, List.length_map, hln2, ht, d2]
  | false =>
    have hf := fin (by rw [List.take_of_length_le (show l.length ≤ i by simp only [decide_eq_false_iff_not] at d1; omega), List.take_of_length_le (show l.length ≤ 8 by simp only [decide_eq_false_iff_not] at d1; omega)])
    rw [← hf]
    have ht : (((l.take i).map fun b => b % (w.slips.length : Int)).map (D.int .i64)).take i = ((l.take i).map fun b => b % (w.slips.length : Int)).map (.int .i64) := List.take_of_length_le (by rw [hln]; exact Nat.le_refl _)
    have hln2 : ((l.take i).map fun b => b % (w.slips.length : Int)).length = i := by simpa using hln
    generalize ((l.take i).map fun b => b % (w.slips.length : Int)) = M at *
    simp only [go_sem, List.length_map, hln2, ht]

theorem c49 (w : Works) (hw : w.slips.length ≤ 4294967296) : PC prog 49 [.d w.d] (.d w.d) := by
  refine PC.run (fun _ => false) tt_ok (fn := f49) (rs := [.cell 2 24]) rfl rfl rfl rfl rfl rfl rfl ?_
  have hsz : sized 5 (w.slips.map Slip.d) = true := by simp [sized, Slip.d, dcells]
  have hs0 : sized 5 [] = true := rfl
  simp only [go_sem, Works.d, hsz, hs0, List.length_map, hw]

theorem c50 (l : List Int) (hl : l.length ≤ 4294967296) : PC prog 50 [.d (.sl (l.map (.int .i64)))] (.d (.sl (l.map (.int .i64)))) := by
  refine PC.run (fun _ => false) tt_ok (fn := f50) (rs := [.tmp 2]) rfl rfl rfl rfl rfl rfl rfl ?_
  simp only [go_sem, sized_ints, show sized 1 [] = true from rfl, List.length_map, hl]

def inB (n : Int) (s : Sp) : Bool := decide (s.lo ≤ n) && decide (n ≤ s.hi)

theorem c53 (n : Int) (s : Sp) : PC prog 53 [.d (.int .i64 n), .d s.d] (.d (.bool (inB n s))) := by
  refine PC.run (fun _ => false) tt_ok (fn := f53) (rs := [.tmp 4]) rfl rfl rfl rfl rfl rfl rfl ?_
  simp only [go_sem, Sp.d]
  have hge : decide (n ≥ s.lo) = decide (s.lo ≤ n) := rfl
  cases h1 : decide (s.lo ≤ n) <;> simp only [go_sem, h1, inB]

end Go.Aw
end

section
set_option maxRecDepth 100000
namespace Go.Aw
open Go Go.Proofs.Try

def EWq (n : Nat) (H : Heap) (E : Env) : Env → Prop
  | [] => True
  | (k, v) :: r => pubV n H (E.look k) = some v ∧ EWq n H E r

theorem EWq_ew {n : Nat} {H : Heap} {E : Env} : ∀ {E' : Env}, EWq n H E E' → EW n H E E'
  | [], _ => trivial
  | (_, _) :: _, h => ⟨.inr (.inr (.inl h.1)), EWq_ew h.2⟩

/-- The newest blocks are dropped; rows among them turn into data. -/
theorem ForgetTo.dropR {n0 : Nat} {E E' : Env} {H0 Y H' : Heap} (hn : n0 ≤ H'.length) (hH : H0 = H') (hbb : BBs H'.length H') (he : EWq H'.length (H0 ++ Y) E E') : ForgetTo n0 E (H0 ++ Y) E' H' := by
  subst hH
  exact ⟨hn, by simp, .inr (by rw [List.take_left]; exact hbb), List.take_left, EWq_ew he⟩

def shopB (x : Shop) : Blk := .cells [.d (.sl (x.slips.map B5.d)), .d (.int .u8 x.p), .d (.int .u8 x.q)]

end Go.Aw
end

section
set_option maxRecDepth 100000
namespace Go.Aw
open Go Go.Proofs

theorem has_u8 {f : Nat} {y : D} (h : HasT Try.prog (f + 1) 5 y) : ∃ n, y = .int .u8 n ∧ Byte n := by
  unfold HasT at h
  rw [Try.underlying5] at h
  obtain ⟨n, rfl, h⟩ := h
  refine ⟨n, rfl, ?_⟩
  simp [Lit.wf, IntKind.min, IntKind.max, IntKind.bits, IntKind.signed] at h
  simp only [Byte]; omega

theorem has_b5 {f : Nat} {y : D} (h : HasT Try.prog (f + 3) 183 y) : ∃ s : B5, y = s.d ∧ s.Ok := by
  unfold HasT at h
  rw [Try.underlying183] at h
  obtain ⟨l, rfl, h⟩ := h
  simp only [HasN] at h
  obtain ⟨y1, r1, rfl, h1, y2, r2, rfl, h2, y3, r3, rfl, h3, y4, r4, rfl, h4, y5, r5, rfl, h5, rfl⟩ := h
  obtain ⟨n1, rfl, b1⟩ := has_u8 h1
  obtain ⟨n2, rfl, b2⟩ := has_u8 h2
  obtain ⟨n3, rfl, b3⟩ := has_u8 h3
  obtain ⟨n4, rfl, b4⟩ := has_u8 h4
  obtain ⟨n5, rfl, b5⟩ := has_u8 h5
  exact ⟨⟨n1, n2, n3, n4, n5⟩, rfl, ⟨b1, b2, b3, b4, b5⟩⟩

theorem has_b5s {f : Nat} {y : D} (h : HasT Try.prog (f + 4) 90 y) : ∃ l : List B5, y = .sl (l.map B5.d) ∧ ∀ p ∈ l, p.Ok := by
  unfold HasT at h
  rw [Try.underlying90] at h
  obtain ⟨l, rfl, _, hl⟩ := h
  obtain ⟨ss, rfl⟩ := has_list (enc := fun n : {n : B5 // n.Ok} => n.1.d) (fun y hy => by obtain ⟨n, rfl, hn⟩ := has_b5 hy; exact ⟨⟨n, hn⟩, rfl⟩) l hl
  refine ⟨ss.map Subtype.val, by simp, fun n hn => ?_⟩
  obtain ⟨x, _, rfl⟩ := List.mem_map.1 hn
  exact x.2

theorem has_b2 {f : Nat} {y : D} (h : HasT Try.prog (f + 3) 91 y) : ∃ a b : Int, y = .agg [.int .u8 a, .int .u8 b] ∧ Byte a ∧ Byte b := by
  unfold HasT at h
  rw [Try.underlying91] at h
  obtain ⟨l, rfl, h⟩ := h
  simp only [HasN] at h
  obtain ⟨y1, r1, rfl, h1, y2, r2, rfl, h2, rfl⟩ := h
  obtain ⟨n1, rfl, b1⟩ := has_u8 h1
  obtain ⟨n2, rfl, b2⟩ := has_u8 h2
  exact ⟨n1, n2, rfl, b1, b2⟩

theorem has_shop {f : Nat} {y : D} (h : HasT Try.prog (f + 5) 93 y) : ∃ x : Shop, y = x.d ∧ x.Ok := by
  unfold HasT at h
  rw [Try.underlying93] at h
  obtain ⟨l, rfl, h⟩ := h
  simp only [HasFs] at h
  obtain ⟨y1, r1, rfl, h1, y2, r2, rfl, h2, rfl⟩ := h
  obtain ⟨s, rfl, hs⟩ := has_b5s h1
  obtain ⟨a, b, rfl, ha, hb⟩ := has_b2 h2
  exact ⟨⟨s, a, b⟩, rfl, ⟨hs, ha, hb⟩⟩
end Go.Aw
end

section
set_option maxRecDepth 100000
namespace Go.Aw
open Go Go.Proofs.Try

def penceF (w : Works) (l : List Int) : Int := (l.map fun c => (w.sl c.toNat).pence).sum

/-- Ascending lists of so many slips at most. -/
structure Asc (N k : Nat) (m : List Int) : Prop where
  len : m.length ≤ k
  mem : ∀ x ∈ m, 0 ≤ x ∧ x < (N : Int)
  asc : m.Pairwise (· ≤ ·)

def lexI : List Int → List Int → Bool
  | x :: r, y :: s => if x ≠ y then decide (x < y) else lexI r s
  | _, _ => false

/-- Is a list cheaper, or as cheap and shorter, or as long and smaller? -/
def betterK (w : Works) (a b : List Int) : Bool := decide (penceF w a < penceF w b) || (decide (penceF w a = penceF w b) && (decide (a.length < b.length) || (decide (a.length = b.length) && lexI a b)))

structure PlanInv (w : Works) (u : List Int) (L : List (List Int)) (s : PlanS) : Prop where
  no : s.found = false → s.best = [] ∧ s.pence = 0 ∧ ∀ m ∈ L, goodP w (cntF (u ++ m)) = false
  yes : s.found = true → (s.best ∈ L ∧ goodP w (cntF (u ++ s.best)) = true) ∧ s.pence = penceF w s.best ∧ ∀ m ∈ L, goodP w (cntF (u ++ m)) = true → betterK w m s.best = false

end Go.Aw
end

section
set_option maxRecDepth 100000
namespace Go.Aw
open Go Go.Proofs.Try

/-- What a plan is. -/
structure PlanOk (w : Works) (u plan : List Int) (pence e : Int) : Prop where
  no : e ≠ 0 → (e = 9 ∧ plan = [] ∧ pence = 0) ∧ ∀ m, Asc w.slips.length (8 - u.length) m → goodP w (cntF (u ++ m)) = false
  yes : e = 0 → (goodP w (cntF (u ++ plan)) = true ∧ pence = penceF w plan) ∧ ∀ m, Asc w.slips.length (8 - u.length) m → goodP w (cntF (u ++ m)) = true → betterK w m plan = false
  asc : Asc w.slips.length (8 - u.length) plan

end Go.Aw
end

section
set_option maxRecDepth 100000
namespace Go.Aw
open Go Go.Proofs

structure B4 where
  a : Int
  b : Int
  c : Int
  e : Int
deriving DecidableEq

def B4.d (s : B4) : D := .agg [.int .u8 s.a, .int .u8 s.b, .int .u8 s.c, .int .u8 s.e]

structure B4.Ok (s : B4) : Prop where
  a : Byte s.a
  b : Byte s.b
  c : Byte s.c
  e : Byte s.e

structure B3 where
  a : Int
  b : Int
  c : Int
deriving DecidableEq

def B3.d (s : B3) : D := .agg [.int .u8 s.a, .int .u8 s.b, .int .u8 s.c]

structure B3.Ok (s : B3) : Prop where
  a : Byte s.a
  b : Byte s.b
  c : Byte s.c

theorem has_b4 {f : Nat} {y : D} (h : HasT Try.prog (f + 3) 115 y) : ∃ s : B4, y = s.d ∧ s.Ok := by
  unfold HasT at h
  rw [Try.underlying115] at h
  obtain ⟨l, rfl, h⟩ := h
  simp only [HasN] at h
  obtain ⟨y1, r1, rfl, h1, y2, r2, rfl, h2, y3, r3, rfl, h3, y4, r4, rfl, h4, rfl⟩ := h
  obtain ⟨n1, rfl, b1⟩ := has_u8 h1
  obtain ⟨n2, rfl, b2⟩ := has_u8 h2
  obtain ⟨n3, rfl, b3⟩ := has_u8 h3
  obtain ⟨n4, rfl, b4⟩ := has_u8 h4
  exact ⟨⟨n1, n2, n3, n4⟩, rfl, ⟨b1, b2, b3, b4⟩⟩

theorem has_b4s {f : Nat} {y : D} (h : HasT Try.prog (f + 4) 112 y) : ∃ l : List B4, y = .sl (l.map B4.d) ∧ ∀ p ∈ l, p.Ok := by
  unfold HasT at h
  rw [Try.underlying112] at h
  obtain ⟨l, rfl, _, hl⟩ := h
  obtain ⟨ss, rfl⟩ := has_list (enc := fun n : {n : B4 // n.Ok} => n.1.d) (fun y hy => by obtain ⟨n, rfl, hn⟩ := has_b4 hy; exact ⟨⟨n, hn⟩, rfl⟩) l hl
  refine ⟨ss.map Subtype.val, by simp, fun n hn => ?_⟩
  obtain ⟨x, _, rfl⟩ := List.mem_map.1 hn
  exact x.2

theorem has_u16 {f : Nat} {y : D} (h : HasT Try.prog (f + 1) 113 y) : ∃ n, y = .int .u16 n ∧ (0 ≤ n ∧ n < 65536) := by
  unfold HasT at h
  rw [Try.underlying113] at h
  obtain ⟨n, rfl, h⟩ := h
  refine ⟨n, rfl, ?_⟩
  simp [Lit.wf, IntKind.min, IntKind.max, IntKind.bits, IntKind.signed] at h
  omega

/-- Four numbers of two bytes. -/
structure W4 where
  a : Int
  b : Int
  c : Int
  e : Int

def W4.d (s : W4) : D := .agg [.int .u16 s.a, .int .u16 s.b, .int .u16 s.c, .int .u16 s.e]

structure W4.Ok (s : W4) : Prop where
  a : 0 ≤ s.a ∧ s.a < 65536
  b : 0 ≤ s.b ∧ s.b < 65536
  c : 0 ≤ s.c ∧ s.c < 65536
  e : 0 ≤ s.e ∧ s.e < 65536

theorem has_w4 {f : Nat} {y : D} (h : HasT Try.prog (f + 3) 114 y) : ∃ s : W4, y = s.d ∧ s.Ok := by
  unfold HasT at h
  rw [Try.underlying114] at h
  obtain ⟨l, rfl, h⟩ := h
  simp only [HasN] at h
  obtain ⟨y1, r1, rfl, h1, y2, r2, rfl, h2, y3, r3, rfl, h3, y4, r4, rfl, h4, rfl⟩ := h
  obtain ⟨n1, rfl, b1⟩ := has_u16 h1
  obtain ⟨n2, rfl, b2⟩ := has_u16 h2
  obtain ⟨n3, rfl, b3⟩ := has_u16 h3
  obtain ⟨n4, rfl, b4⟩ := has_u16 h4
  exact ⟨⟨n1, n2, n3, n4⟩, rfl, ⟨b1, b2, b3, b4⟩⟩

end Go.Aw
end

section
set_option maxRecDepth 100000
namespace Go.Aw
open Go Go.Proofs.Try

/-- Is a mixture as wanted? -/
def goodM (l : List Stuff) (w : Want) (t : List Int) : Bool := mixW w (contF l t l.length).f (contF l t l.length).c

structure MixInv (l : List Stuff) (w : Want) (L : List (List Int)) (s : PlanS) : Prop where
  no : s.found = false → s.best = [] ∧ s.pence = 0 ∧ ∀ t ∈ L, goodM l w t = false
  yes : s.found = true → (s.best ∈ L ∧ goodM l w s.best = true) ∧ s.pence = (contF l s.best l.length).p ∧ ∀ t ∈ L, goodM l w t = true → s.pence ≤ (contF l t l.length).p ∧ ((contF l t l.length).p = s.pence → lexI t s.best = false)

/-- A list of ounces, one of each kind of stuff, together as many as are wanted. -/
structure OzOk (n : Nat) (w : Want) (t : List Int) : Prop where
  len : t.length = n
  pos : ∀ x ∈ t, 0 ≤ x
  sum : t.sum = w.ounces

/-- What the program answers about stuff that is as it must be. -/
structure MixOk (l : List Stuff) (w : Want) (best : List Int) (pence e : Int) : Prop where
  no : e ≠ 0 → (e = 9 ∧ best = [] ∧ pence = 0) ∧ ∀ t, OzOk l.length w t → goodM l w t = false
  yes : e = 0 → (OzOk l.length w best ∧ goodM l w best = true) ∧ pence = (contF l best l.length).p ∧ ∀ t, OzOk l.length w t → goodM l w t = true → pence ≤ (contF l t l.length).p ∧ ((contF l t l.length).p = pence → lexI t best = false)

end Go.Aw
end

section
set_option maxRecDepth 100000
namespace Go.Aw
open Go Go.Proofs.Try

def outQ (but : List Nat) (skip : Int) (i : Nat) : Nat → Bool
  | 0 => false
  | k + 1 => outQ but skip i k || (decide (but.getD k 0 = i) && decide ((k : Int) ≠ skip))

/-- Do so many ounces agree with a weighing? -/
def inq (q : Int) (a : Wgh) : Prop := a.used.lo ≤ q * a.feet ∧ q * a.feet ≤ a.used.hi

/-- Weighings without some. -/
def restL (A : List Wgh) (o : Nat → Bool) (n : Nat) : List Wgh := ((List.range n).filter fun i => !o i).map fun i => A.getD i wgh00

end Go.Aw
end

section
set_option maxRecDepth 100000
namespace Go.Aw
open Go Go.Proofs.Try

/-- Weighings with which these ounces agree. -/
structure TrueW (w : Works) (oz : List Int) (R : List Wgh) : Prop where
  ok : w.Ok
  len : R.length ≤ 6
  all : ∀ a ∈ R, a.Ok w
  ozl : oz.length = w.slips.length
  span : ∀ s, s < w.slips.length → (w.sl s).ounces.lo ≤ lF oz s ∧ lF oz s ≤ (w.sl s).ounces.hi
  agr : ∀ a ∈ R, ∀ s : Nat, a.slip = (s : Int) → inq (lF oz s) a

end Go.Aw
end

section
set_option maxRecDepth 100000
namespace Go.Aw
open Go Go.Proofs.Try

/-- What is said to be wrong: without it there is a truth, with any one of it there is none. -/
structure WrongOk (w : Works) (A : List Wgh) (many : Nat) (ws : List Nat) : Prop where
  len : ws.length ≤ 6
  few : ws.length ≤ many
  rest : (restL A (fun i => outQ ws (-1) i ws.length) A.length).length + ws.length = A.length
  yes : ozOk w (restL A (fun i => outQ ws (-1) i ws.length) A.length) 0 = true
  no : ∀ k : Nat, k < ws.length → ozOk w (restL A (fun i => outQ ws (k : Int) i ws.length) A.length) 0 = false

end Go.Aw
end

section
set_option maxRecDepth 100000
namespace Go.Aw
open Go Go.Proofs.Try

def sp00 : Sp := ⟨0, 0⟩

/-- What is known after some truths: the least and the greatest of those that fit. -/
structure LookInv (w : Works) (l : List Look) (P : List (List Int)) (acc : List Sp) : Prop where
  no : acc = [] → ∀ t ∈ P, fitsT w l t = false
  len : acc ≠ [] → acc.length = w.slips.length
  yes : acc ≠ [] → ∀ s, s < w.slips.length → (∃ t ∈ P, fitsT w l t = true ∧ (acc.getD s sp00).lo = lF t s) ∧ (∃ t ∈ P, fitsT w l t = true ∧ (acc.getD s sp00).hi = lF t s) ∧ ∀ t ∈ P, fitsT w l t = true → (acc.getD s sp00).lo ≤ lF t s ∧ lF t s ≤ (acc.getD s sp00).hi

/-- Looks that are as they must be, and a truth that fits. -/
structure SeenOk (w : Works) (thick : List Int) (l : List Look) : Prop where
  ok : w.Ok
  len : l.length ≤ 6
  all : ∀ a ∈ l, badLook w a = false
  tl : thick.length = w.slips.length
  ti : isT w thick
  fits : fitsT w l thick = true

end Go.Aw
end

section
set_option maxRecDepth 100000
namespace Go.Aw
open Go Go.Proofs.Try

/-- A job by bytes. -/
def jobU (N : Nat) (v : B4) : Job := ⟨1 + v.a % 200, coatsB N [v.b, v.c, v.e]⟩
def b4z : B4 := ⟨0, 0, 0, 0⟩
def jobsU (N : Nat) (l : List B4) (n : Nat) : List Job := (List.range n).map fun k => jobU N (l.getD k b4z)

theorem jobsU_snoc (N : Nat) (l : List B4) (n : Nat) : jobsU N l (n + 1) = jobsU N l n ++ [jobU N (l.getD n b4z)] := by simp [jobsU, List.range_succ]
theorem jobsU_len (N : Nat) (l : List B4) (n : Nat) : (jobsU N l n).length = n := by simp [jobsU]
theorem jobsU_take (N : Nat) (l : List B4) {m k : Nat} (h : k ≤ m) : (jobsU N l m).take k = jobsU N l k := by
  rw [jobsU, jobsU, ← List.map_take, List.take_range, Nat.min_eq_left h]

theorem b4_getD {l : List B4} (hl : ∀ p ∈ l, p.Ok) (n : Nat) : (l.getD n b4z).Ok := by
  rw [List.getD_eq_getElem?_getD]
  cases h : l[n]? with
  | none => constructor <;> simp [Byte, b4z]
  | some v => exact hl _ (List.mem_of_getElem? h)

theorem jobU_ok {w : Works} (hok : w.Ok) {v : B4} (hv : v.Ok) : JobOk w (jobU w.slips.length v) := by
  have := hv.a
  simp only [Byte] at this
  exact ⟨by simp only [jobU]; omega, coatsB_ok hok.len.1 _⟩

theorem jobsU_ok {w : Works} (hok : w.Ok) {l : List B4} (hl : ∀ p ∈ l, p.Ok) (n : Nat) : ∀ j ∈ jobsU w.slips.length l n, JobOk w j := fun j hj => by
  obtain ⟨k, _, rfl⟩ := List.mem_map.1 hj
  exact jobU_ok hok (b4_getD hl k)

/-- What a job truly takes of a slip; and jobs. -/
def takeT (o : List Int) (j : Job) (s : Nat) : Int := cntF j.coats s * (j.feet * lF o s)
def takesT (o : List Int) (A : List Job) (s : Nat) : Int := (A.map fun j => takeT o j s).sum

theorem takesT_snoc (o : List Int) (A : List Job) (j : Job) (s : Nat) : takesT o (A ++ [j]) s = takesT o A s + takeT o j s := by simp [takesT]

def isO (w : Works) (o : List Int) : Prop := ∀ s : Nat, s < w.slips.length → (w.sl s).ounces.lo ≤ lF o s ∧ lF o s ≤ (w.sl s).ounces.hi

theorem takeT_in {w : Works} (hok : w.Ok) {o : List Int} (ho : isO w o) {j : Job} (hj : JobOk w j) {s : Nat} (hs : s < w.slips.length) : (takeS w j s).lo ≤ takeT o j s ∧ takeT o j s ≤ (takeS w j s).hi := by
  obtain ⟨hf, hc⟩ := hj
  have hcn := cntF_le j.coats s
  have h := ho s hs
  simp only [takeS, takeT]
  rw [← Int.mul_assoc]
  have m0 : 0 ≤ cntF j.coats s * j.feet := Int.mul_nonneg hcn.1 (by omega)
  exact ⟨Int.mul_le_mul_of_nonneg_left h.1 m0, Int.mul_le_mul_of_nonneg_left h.2 m0⟩

theorem takesT_in {w : Works} (hok : w.Ok) {o : List Int} (ho : isO w o) {s : Nat} (hs : s < w.slips.length) : ∀ A : List Job, (∀ j ∈ A, JobOk w j) → (useS w A s).lo ≤ takesT o A s ∧ takesT o A s ≤ (useS w A s).hi
  | [], _ => by simp [useS, takesT]
  | j :: A, h => by
    have ih := takesT_in hok ho hs A fun x hx => h x (List.mem_cons_of_mem _ hx)
    have hj := takeT_in hok ho (h j List.mem_cons_self) hs
    simp only [useS, takesT, List.map_cons, List.sum_cons] at ih ⊢
    omega

theorem takesT_bnd {w : Works} (hok : w.Ok) {o : List Int} (ho : isO w o) {s : Nat} (hs : s < w.slips.length) {A : List Job} (hA : ∀ j ∈ A, JobOk w j) (h6 : A.length ≤ 6) : 0 ≤ takesT o A s ∧ takesT o A s ≤ 192000 := by
  have h1 := takesT_in hok ho hs A hA
  have h2 := useS_bnd hok s A hA
  omega

/-- In the middle of a job. -/
def goneT (o : List Int) (A : List Job) (f : Int) (cs : List Int) (s : Nat) : Int := takesT o A s + cntF cs s * (f * lF o s)

theorem goneT_nil (o : List Int) (A : List Job) (f : Int) (s : Nat) : goneT o A f [] s = takesT o A s := by simp [goneT, cntF]
theorem goneT_end (o : List Int) (A : List Job) (j : Job) (s : Nat) : goneT o A j.feet j.coats s = takesT o (A ++ [j]) s := by rw [takesT_snoc]; rfl
theorem goneT_snoc (o : List Int) (A : List Job) (f : Int) (cs : List Int) (c : Int) (s : Nat) : goneT o A f (cs ++ [c]) s = goneT o A f cs s + if c = (s : Int) then f * lF o s else 0 := by
  rw [goneT, goneT, cntF_snoc]
  by_cases h : c = (s : Int)
  · rw [if_pos h, if_pos h, Int.add_mul]; omega
  · rw [if_neg h, if_neg h]; simp

theorem goneT_bnd {w : Works} (hok : w.Ok) {o : List Int} (ho : isO w o) {s : Nat} (hs : s < w.slips.length) {A : List Job} (hA : ∀ j ∈ A, JobOk w j) (h6 : A.length ≤ 6) {f : Int} (hf : 0 ≤ f ∧ f ≤ 200) {cs : List Int} (hc : cs.length ≤ 8) : 0 ≤ goneT o A f cs s ∧ goneT o A f cs s ≤ 224000 := by
  have h1 := takesT_bnd hok ho hs hA h6
  have h2 := ho s hs
  have h3 := (hok.sl s).ounces
  have h4 := take_bnd (f := f) (o := lF o s) (cntF_le cs s) (by omega) hf (by omega)
  rw [Int.mul_assoc] at h4
  simp only [goneT]
  omega

def intL (N : Nat) (g : Nat → Int) : List Int := (List.range N).map g
def rowI (N : Nat) (g : Nat → Int) : List D := (intL N g).map (.int .i64)
theorem intL_len (N : Nat) (g : Nat → Int) : (intL N g).length = N := by simp [intL]
theorem intL_getD {N : Nat} (g : Nat → Int) {s : Nat} (h : s < N) : (intL N g).getD s 0 = g s := by simp [intL, List.getD_eq_getElem?_getD, List.getElem?_range h]
theorem rowI_len (N : Nat) (g : Nat → Int) : (rowI N g).length = N := by simp [rowI, intL]
theorem rowI_get {N : Nat} (g : Nat → Int) {s : Nat} (h : s < N) : (rowI N g)[s]? = some (.int .i64 (g s)) := by simp [rowI, intL, List.getElem?_range h]
theorem rowI_snoc (N : Nat) (g : Nat → Int) : rowI (N + 1) g = rowI N g ++ [.int .i64 (g N)] := by simp [rowI, intL, List.range_succ]
theorem rowI_set {N : Nat} (g g' : Nat → Int) {c : Nat} {x : Int} (hx : g' c = x) (hne : ∀ s, s ≠ c → g' s = g s) : rowI N g' = (rowI N g).set c (.int .i64 x) := by
  refine List.ext_getElem (by simp [rowI, intL]) fun q h1 h2 => ?_
  rw [List.getElem_set]
  by_cases h : c = q
  · subst h; simp [rowI, intL, hx]
  · rw [if_neg h]; simp [rowI, intL, hne q (fun e => h e.symm)]
theorem rowI_zero (N : Nat) : rowI N (fun _ => 0) = List.replicate N (.int .i64 0) := by
  refine List.ext_getElem (by simp [rowI, intL]) fun q h1 h2 => ?_
  simp [rowI, intL]

/-- Can so many jobs truly be done? -/
def canT (o : List Int) (N : Nat) (b : Nat → Int) (A : Nat → List Job) (i : Nat) : Bool := (List.range N).all fun s => decide (0 ≤ b s - takesT o (A (i + 1)) s)

def openN (p : Nat → Bool) (n : Nat) : Bool := (List.range n).all p
theorem openN_succ (p : Nat → Bool) (n : Nat) : openN p (n + 1) = (openN p n && p n) := by simp [openN, List.range_succ, List.all_append]

def trulyN (p : Nat → Bool) : Nat → Nat
  | 0 => 0
  | n + 1 => trulyN p n + if openN p (n + 1) = true then 1 else 0

theorem trulyN_le (p : Nat → Bool) : ∀ n, trulyN p n ≤ n
  | 0 => Nat.le_refl _
  | n + 1 => by have := trulyN_le p n; simp only [trulyN]; split <;> omega

theorem trulyN_all {p : Nat → Bool} : ∀ n, openN p n = true → trulyN p n = n
  | 0, _ => rfl
  | n + 1, h => by
    rw [trulyN, if_pos h, trulyN_all n]
    rw [openN_succ, Bool.and_eq_true] at h
    exact h.1

theorem trulyN_stop {p : Nat → Bool} {i : Nat} (h : ∀ j, j < i → p j = true) (hp : p i = false) : ∀ m, trulyN p (i + m) = i
  | 0 => trulyN_all i (List.all_eq_true.2 fun j hj => h j (List.mem_range.1 hj))
  | m + 1 => by
    have hf : ¬ openN p (i + m + 1) = true := fun ho => by
      have := List.all_eq_true.1 ho i (List.mem_range.2 (by omega))
      rw [hp] at this; cases this
    rw [← Nat.add_assoc, trulyN, if_neg hf, trulyN_stop h hp m]; rfl

theorem truly_wide {p q : Nat → Bool} : ∀ n, (∀ i, i < n → p i = true → q i = true) → trulyN p n ≤ trulyN q n
  | 0, _ => Nat.le_refl _
  | n + 1, h => by
    have ih := truly_wide n fun i hi => h i (by omega)
    simp only [trulyN]
    by_cases ho : openN p (n + 1) = true
    · have hq : openN q (n + 1) = true := List.all_eq_true.2 fun j hj => h j (List.mem_range.1 hj) (List.all_eq_true.1 ho j hj)
      rw [if_pos ho, if_pos hq]; omega
    · rw [if_neg ho]; omega

theorem truly_while (p : Nat → Bool) (n : Nat) : ((List.range n).takeWhile p).length = trulyN p n := by
  cases ho : openN p n with
  | true => rw [takeWhile_all n fun i hi => List.all_eq_true.1 ho i (List.mem_range.2 hi), trulyN_all n ho]
  | false =>
    have : ∃ i, i < n ∧ p i = false := by
      rw [openN, List.all_eq_false] at ho
      obtain ⟨x, hx, hp⟩ := ho
      exact ⟨x, List.mem_range.1 hx, by simpa using hp⟩
    have key : ∀ k, k ≤ n → (∃ i, i < k ∧ p i = false) → ∃ i, i < k ∧ p i = false ∧ ∀ j, j < i → p j = true := by
      intro k
      induction k with
      | zero => intro _ ⟨i, hi, _⟩; omega
      | succ k ih =>
        intro hk ⟨i, hi, hp⟩
        by_cases h : ∃ i, i < k ∧ p i = false
        · obtain ⟨i, h1, h2⟩ := ih (by omega) h
          exact ⟨i, by omega, h2⟩
        · have hik : i = k := by
            by_cases hik : i < k
            · exact absurd ⟨i, hik, hp⟩ h
            · omega
          subst hik
          refine ⟨i, by omega, hp, fun j hj => ?_⟩
          cases hpj : p j with
          | true => rfl
          | false => exact absurd ⟨j, hj, hpj⟩ h
    obtain ⟨i, hi, hp, hj⟩ := key n (Nat.le_refl _) this
    rw [takeWhile_stop hi hj hp]
    obtain ⟨m, rfl⟩ : ∃ m, n = i + m := ⟨n - i, by omega⟩
    rw [trulyN_stop hj hp m]

theorem useS_lo (w : Works) (l : List Job) (s : Nat) : (l.map fun j => Sp.lo (takeS w j s)).sum = (useS w l s).lo := rfl
theorem useS_hi (w : Works) (l : List Job) (s : Nat) : (l.map fun j => Sp.hi (takeS w j s)).sum = (useS w l s).hi := rfl

/-- As many as are surely done truly are; no more truly are than possibly. -/
theorem done_truly {w : Works} (hok : w.Ok) {o : List Int} (ho : isO w o) {l : List B4} (hl : ∀ p ∈ l, p.Ok) {m : Nat} (b : List Int) :
    doneN Sp.hi w (jobsU w.slips.length l m) b ≤ trulyN (canT o w.slips.length (fun s => b.getD s 0) (jobsU w.slips.length l)) m ∧ trulyN (canT o w.slips.length (fun s => b.getD s 0) (jobsU w.slips.length l)) m ≤ doneN Sp.lo w (jobsU w.slips.length l m) b := by
  rw [doneN, doneN, truly_while, truly_while, jobsU_len]
  constructor
  · refine truly_wide m fun i hi h => ?_
    rw [canD, List.all_eq_true] at h
    rw [canT, List.all_eq_true]
    intro s hs
    have h1 := h s hs
    rw [decide_eq_true_eq, leftD, jobsU_take _ _ (by omega)] at h1
    have h2 := takesT_in hok ho (List.mem_range.1 hs) (jobsU w.slips.length l (i + 1)) (jobsU_ok hok hl _)
    rw [useS_hi] at h1
    rw [decide_eq_true_eq]
    omega
  · refine truly_wide m fun i hi h => ?_
    rw [canT, List.all_eq_true] at h
    rw [canD, List.all_eq_true]
    intro s hs
    have h1 := h s hs
    rw [decide_eq_true_eq] at h1
    have h2 := takesT_in hok ho (List.mem_range.1 hs) (jobsU w.slips.length l (i + 1)) (jobsU_ok hok hl _)
    rw [decide_eq_true_eq, leftD, jobsU_take _ _ (by omega), useS_lo]
    omega

/-- With more in the barrels no fewer are done. -/
theorem done_more (of : Sp → Int) (w : Works) (l : List Job) (b b' : List Int) (h : ∀ s : Nat, s < w.slips.length → b.getD s 0 ≤ b'.getD s 0) : doneN of w l b ≤ doneN of w l b' := by
  rw [doneN, doneN, truly_while, truly_while]
  refine truly_wide _ fun i hi hc => ?_
  rw [canD, List.all_eq_true] at hc ⊢
  intro s hs
  have h1 := hc s hs
  have h2 := h s (List.mem_range.1 hs)
  rw [decide_eq_true_eq, leftD] at h1 ⊢
  omega

theorem jobsE_zero {w : Works} (hok : w.Ok) {l : List Job} (hl : l.length ≤ 6) (hj : ∀ j ∈ l, JobOk w j) : jobsE w l = 0 := by
  unfold jobsE
  rw [if_pos (checkP_iff.2 hok), if_neg (by omega), if_neg]
  rw [List.any_eq_true]
  rintro ⟨j, h1, h2⟩
  rw [badJob_iff.2 (hj j h1)] at h2
  cases h2
end Go.Aw
end

section
set_option maxRecDepth 100000
namespace Go.Aw
open Go Go.Proofs.Try

theorem sized_job (l : List Job) : sized 2 (l.map Job.d) = true := by simp [sized, Job.d, dcells]

theorem c59 (l : List Job) (hl : l.length ≤ 1000) (hj : ∀ j ∈ l, j.coats.length ≤ 4294967296) : PC prog 59 [.d (.sl (l.map Job.d))] (.d (.sl (l.map Job.d))) := by
  refine PC.run (fun k => k == 5) tt_ok (fn := f59) (rs := [.tmp 2]) rfl rfl rfl rfl rfl rfl rfl ?_
  simp only [go_sem]
  refine ALoop.by (S := Nat) (fun i => [(4, .d (.int .i64 i)), (3, .ref 0 i 0 i), (0, .d (.sl (l.map Job.d)))]) (fun i => [.arr 2 false ((l.take i).map Job.d)]) (fun i => l.length - i) (fun i => i ≤ l.length) 0 (Nat.zero_le _) (fun _ h => nomatch h) (Nat.zero_le _) ?_ ?_
  · exact ForgetTo.same' (Nat.zero_le _) (by simp [EWe, Env.look]) (by simp)
  rintro i hi hn
  refine AWP.run (fun k => k == 5) tt_ok (fun _ h => nomatch h) (Nat.zero_le _) rfl ?_
  simp only [go_sem, List.length_map]
  refine Br_split (fun hd => ?_) (fun hd => ?_) <;> simp only [go_sem, hd]
  · have hlt : i < l.length := by simpa using hd
    have hix : idx? (l.map Job.d) (i : Int) = some (l[i]).d := by simp [idx?, List.getElem?_eq_getElem hlt]
    have hst : (l.take (i + 1)).map Job.d = (l.take i).map Job.d ++ [(l[i]).d] := by rw [List.take_succ_eq_append_getElem hlt, List.map_append]; rfl
    have hji := hj _ (List.getElem_mem hlt)
    have hml : ((l.take i).map Job.d).length = i := by simp; omega
    have hnx : IntKind.i64.wrap ((i : Int) + 1) = (i : Int) + 1 := w64 (by omega) (by omega)
    have hi1 : i + 1 ≤ 4294967296 := by omega
    generalize l[i] = j at *
    generalize (l.take i).map Job.d = M at *
    have hsz := sized_ints j.coats
    refine ADrw.treeG (fun k => k == 5) tt_ok (by kernel_rfl) (fun k => if k = 14 then some .W else some .S) (.ones [0, 1, 2, 3, 4, 5, 6, 7, 8, 9, 10, 11, 12, 13, 14, 15] .done) (Nat.zero_le _) (fun _ h => nomatch h) rfl rfl (by kernel_rfl) ?_
    simp only [go_sem, hix, Job.d]
    refine (c50 j.coats hji).callS rfl rfl rfl rfl rfl rfl ?_
    simp only [go_sem, hix, Job.d, hml, hi1, List.length_map]
    refine ⟨i + 1, hlt, by omega, ?_⟩
    exact ForgetTo.same' (Nat.zero_le _) (by simp [EWe, Env.look, hnx]) (by rw [hst]; rfl)
  · have hie : i = l.length := by simp only [decide_eq_false_iff_not] at hd; omega
    subst hie
    have htk : (l.map Job.d).take l.length = l.map Job.d := List.take_of_length_le (by simp)
    rw [List.take_length]
    simp only [go_sem, List.length_map, htk]


def w4At (v : W4) (i : Nat) : Int := match i with
  | 0 => v.a
  | 1 => v.b
  | 2 => v.c
  | _ => v.e

theorem w4At_ok {v : W4} (hv : v.Ok) (i : Nat) : 0 ≤ w4At v i ∧ w4At v i < 65536 := by
  unfold w4At; split
  · exact hv.a
  · exact hv.b
  · exact hv.c
  · exact hv.e

theorem w4_head (v : W4) {i : Nat} (h : i < 4) : headV (List.drop i [V.d (.int .u16 v.a), .d (.int .u16 v.b), .d (.int .u16 v.c), .d (.int .u16 v.e)]) = some (.d (.int .u16 (w4At v i))) := by
  have h4 : i = 0 ∨ i = 1 ∨ i = 2 ∨ i = 3 := by omega
  rcases h4 with rfl | rfl | rfl | rfl <;> rfl

def barF (v : W4) (s : Nat) : Int := w4At v s % 20000
theorem barF_bnd (v : W4) (s : Nat) : 0 ≤ barF v s ∧ barF v s < 20000 := by simp only [barF]; omega

def w4B (v : W4) : Blk := .cells [.d (.int .u16 v.a), .d (.int .u16 v.b), .d (.int .u16 v.c), .d (.int .u16 v.e)]
def h10 (x : Shop) (v : W4) : Heap := [shopB x, w4B v, wrkB x.w]
theorem h10_BBs (x : Shop) (v : W4) (n : Nat) : BBs n (h10 x v) := by simp [h10, BBs, BB, VBs, VB, shopB, w4B, wrkB]

def e10a (x : Shop) (l : List B4) (v : W4) : Env := [(18, .d (.sl ((intL x.w.slips.length (barF v)).map (.int .i64)))), (15, .d (.bool true)), (14, .d (.int .i64 0)), (13, .d (.sl ((intL x.w.slips.length fun s => barF v s + 1).map (.int .i64)))), (12, .ref 4 x.w.slips.length 0 x.w.slips.length), (11, .ref 3 x.w.slips.length 0 x.w.slips.length), (10, .ref 5 0 0 0), (9, .d (.sl (x.ounces.map (.int .i64)))), (7, .ptr 2 0), (1, .d (.sl (l.map B4.d)))]
def h10a (x : Shop) (v : W4) (t b : Nat → Int) (A : List Job) : Heap := [shopB x, w4B v, wrkB x.w, .arr 1 false (rowI x.w.slips.length t), .arr 1 false (rowI x.w.slips.length b), .arr 2 false (A.map Job.d)]

/-- A nil slice in a slot that will grow is given a row of its own. -/
theorem AWP.nilslot {P : Program} {N n0 : Nat} {r : Option Nat} (k es : Nat) {c : Code} {E : Env} {H : Heap} {Q : Ex → Env → Heap → Prop} {nl : Bool} (hk : E.look k = .slx (some nl) []) (hn : n0 ≤ H.length)
    (h : AWP P N n0 r c ((k, .ref H.length 0 0 0) :: E) (H ++ [.arr es nl []]) Q) : AWP P N n0 r c E H Q := by
  refine ⟨hn, h.2.1, fun g w a l m0 hrel => ?_⟩
  have hr := hrel.hr
  obtain ⟨h1, h2, h3⟩ := alloc_nil hr es nl
  have hz : Zk g.Z g.Z w w := fun b o z => ⟨z, rfl⟩
  have hrel2 : Rel N r l m0 ⟨g.Z, g.φ ++ [none]⟩ ((k, .ref H.length 0 0 0) :: E) (H ++ [.arr es nl []]) a w :=
    hrel.of_agn h.2.1 h1 (fun t => by
      have ht := hrel.er t
      rw [Env.look]
      split
      · rename_i e
        subst e
        rw [hk] at ht
        simp only [VR] at ht ⊢
        obtain ⟨a', e0, e1, e2, _⟩ := ht
        rw [e0]
        exact ⟨⟨_, _, _, rfl⟩, es, nl, [], by simp, Nat.le_refl _, fun _ => ⟨Nat.le_refl _, .inl ⟨⟨by rw [← hr.len]; simp, rfl, trivial⟩, by simp, a', rfl, e1 nl rfl⟩⟩⟩
      · exact VR_mono (g' := ⟨g.Z, g.φ ++ [none]⟩) hz h3 _ _ ht) hrel.sz rfl h2 (AgN.of_ag hn h3)
  refine wpIn_mono (h.2.2 _ w a l m0 hrel2) ?_
  rintro e a' w' ⟨x, E', H', g', e1, e2, e3, e4, e5⟩
  exact ⟨x, E', H', g', e1, e2, e3, h2.trans e4, (AgN.of_ag hn h3).trans e5⟩

/-- A copy of a row. -/
theorem c50h (a b c d e f : Blk) (n : Nat) (hn : n ≤ 4294967295) (els : List D) (hl : els.length = n) (hs : sized 1 els = true) : ACalls prog 50 [.ref 4 n 0 n] [a, b, c, d, .arr 1 false els, e, f] (fun r H' => H' = [a, b, c, d, .arr 1 false els, e, f, .arr 1 false els] ∧ r = .ref 7 n 0 n) := by
  refine ACalls.of_bodyK tt_ok (fn := f50) (m := 8) rfl rfl rfl (show 1 ≤ f50.ntmps by decide) (by simp) ?_
  refine AWP.run (fun k => k == 3) tt_ok (fun _ h => nomatch h) (by simp) rfl ?_
  have htk : els.take n = els := List.take_of_length_le (by omega)
  have hd1 : decide (n ≤ 4294967296) = true := by simp only [decide_eq_true_eq]; omega
  simp only [go_sem, hs, hl, htk, hd1]
  exact ⟨.inl (by simp), rfl, rfl⟩

abbrev P10 : V → Heap → Prop := fun r H' => H' = [] ∧ r = .d (.bool true)

theorem c10_a {x : Shop} (hx : x.Ok) {l : List B4} {v : W4} (hv : v.Ok)
    (hrest : AWP prog f10.ntmps 0 none (restC 6 (bodyOf f10)) (e10a x l v) (h10a x v (fun _ => 0) (barF v) []) (FnPost Tt [.tmp 6] 0 P10)) :
    PC prog 10 [.d x.d, .d (.sl (l.map B4.d)), .d v.d] (.d (.bool true)) := by
  have hok := x.w_ok hx
  obtain ⟨l1, l2⟩ := hok.len
  refine PC.of_body tt_ok (fn := f10) (c := bodyOf f10) (rs := [.tmp 6]) rfl rfl rfl rfl rfl rfl ?_
  refine AWP.stepN 6 _ _ (fun k => k == 43 || k == 44) tt_ok (fun _ h => nomatch h) (Nat.zero_le _) rfl ?_ hrest
  clear hrest
  have hz : hasSl (D.int .i64 0) = false := rfl
  have hn0 : (0 : Int) ≤ (x.w.slips.length : Int) := by omega
  have hn1 : (x.w.slips.length : Int) ≤ 4294967296 := by omega
  have hd1 : decide ((x.w.slips.length : Int) ≤ 4294967296) = true := by simpa using hn1
  simp only [go_sem, Shop.d, W4.d]
  refine (c47 hx).call rfl rfl rfl ?_
  simp only [go_sem, Works.d]
  refine ADrw.treeG (fun k => k == 43 || k == 44) tt_ok (by kernel_rfl) (fun k => if k = 2 then some .L else if k = 4 then some .A else some .S) (.ones [0, 1, 2, 3, 4, 5, 6] .done) (Nat.zero_le _) (fun _ h => nomatch h) rfl rfl (by kernel_rfl) ?_
  simp only [go_sem, List.length_map, Int.toNat_natCast, hz, hn0, hn1, hd1]
  have hbF := barF_bnd v
  change AWP _ _ _ _ _ _ _ _
  refine AWP.nilslot 10 2 rfl (Nat.zero_le _) (AWP.nilslot 13 1 rfl (Nat.zero_le _) ?_)
  refine ALoop.by (S := Nat) (fun i => [(16, .d (.int .i64 i)), (15, .d (.bool true)), (14, .d (.int .i64 0)), (13, .ref 6 i 0 i), (12, .ref 4 i 0 i), (11, .ref 3 x.w.slips.length 0 x.w.slips.length), (10, .ref 5 0 0 0), (9, .d (.sl (x.ounces.map (.int .i64)))), (7, .ptr 2 0), (5, .ptr 1 0), (1, .d (.sl (l.map B4.d)))])
    (fun i => [shopB x, w4B v, wrkB x.w, .arr 1 false (rowI x.w.slips.length (fun _ => 0)), .arr 1 false (rowI i (barF v)), .arr 2 false [], .arr 1 false (rowI i fun s => barF v s + 1)]) (fun i => x.w.slips.length - i) (fun i => i ≤ x.w.slips.length) 0 (Nat.zero_le _) (fun _ h => nomatch h) (Nat.zero_le _) ?_ ?_
  · rw [rowI_zero]
    exact ForgetTo.same' (Nat.zero_le _) (by simp [EWe, Env.look]) (by simp [shopB, w4B, wrkB, rowI, intL])
  rintro i hi hn
  have hln := rowI_len i (barF v)
  have hl1 := rowI_len i (fun s => barF v s + 1)
  refine AWP.run (fun k => k == 43 || k == 44) tt_ok (fun _ h => nomatch h) (Nat.zero_le _) rfl ?_
  simp only [go_sem, wrkB, w4B, List.length_map]
  refine Br_split (fun hd => ?_) (fun hd => ?_) <;> simp only [go_sem, hd]
  · have hlt : i < x.w.slips.length := by simpa using hd
    have hh := w4_head v (i := i) (by omega)
    have hB := w4At_ok hv i
    have c1 : (0 : Int) ≤ (i : Int) := by omega
    have c2 : (i : Int) < 4 := by omega
    have hcv : IntKind.i64.wrap (w4At v i) = w4At v i := w64 (by omega) (by omega)
    have z : (20000 : Int) ≠ 0 := by omega
    have hm : (w4At v i).tmod 20000 = barF v i := Int.tmod_eq_emod_of_nonneg hB.1
    have hb := hbF i
    have w1 : IntKind.i64.wrap (barF v i + 1) = barF v i + 1 := w64 (by omega) (by omega)
    have s1 := rowI_snoc i (barF v)
    have s2 := rowI_snoc i (fun s => barF v s + 1)
    have hnx : IntKind.i64.wrap ((i : Int) + 1) = (i : Int) + 1 := w64 (by omega) (by omega)
    have hi2 : decide (i ≤ 4294967295) = true := by simp only [decide_eq_true_eq]; omega
    generalize rowI i (barF v) = R at *
    generalize rowI i (fun s => barF v s + 1) = M at *
    generalize w4At v i = q at *
    simp only [go_sem, c1, c2, Int.toNat_natCast, Nat.mul_one, Nat.zero_add, hh, hcv, hm, remO_ne z, hln, hi2, w1, hl1]
    refine ⟨i + 1, hlt, by omega, ?_⟩
    exact ForgetTo.same' (Nat.zero_le _) (by simp [EWe, Env.look, hnx]) (by simp [s1, s2, wrkB, w4B])
  · have hie : i = x.w.slips.length := by simp only [decide_eq_false_iff_not] at hd; omega
    subst hie
    have hsz := sized_ints (intL x.w.slips.length (barF v))
    refine ACallV.of rfl (ACalls.mono (c50h _ _ _ _ _ _ x.w.slips.length (by omega) (rowI x.w.slips.length (barF v)) hln hsz) ?_)
    rintro r H' ⟨rfl, rfl⟩
    have htk : (rowI x.w.slips.length (barF v)).take x.w.slips.length = rowI x.w.slips.length (barF v) := List.take_of_length_le (by omega)
    have ht1 : (rowI x.w.slips.length (fun s => barF v s + 1)).take x.w.slips.length = rowI x.w.slips.length (fun s => barF v s + 1) := List.take_of_length_le (by omega)
    simp only [go_sem]
    refine ForgetTo.dropR (H0 := [_, _, _, _, _, _]) (Y := [_, _]) (Nat.zero_le _) (by simp [h10a, wrkB, w4B]) (by simp [BBs, BB, VBs, VB, h10a, shopB, w4B, wrkB]) ?_
    simp only [rowI] at htk hln ht1 hl1
    generalize hR : (intL x.w.slips.length (barF v)).map (D.int .i64) = R at *
    generalize hM : (intL x.w.slips.length fun s => barF v s + 1).map (D.int .i64) = M at *
    simp [EWq, Env.look, pubV, e10a, h10a, hM, hR, hln, hl1, htk, ht1, rowI]
end Go.Aw
end

section
set_option maxRecDepth 100000
namespace Go.Aw
open Go Go.Proofs.Try

theorem Shop.ounces_is {x : Shop} (hx : x.Ok) : isO x.w x.ounces := by
  intro k hk
  rw [x.w_len] at hk
  have hv := x.v_ok hx k
  have k2 := hv.b
  have k4 := hv.e
  simp only [Byte] at k2 k4
  have e : lF x.ounces k = (x.v k).b % 16 := by simp [lF, Shop.ounces, List.getD_eq_getElem?_getD, List.getElem?_range hk]
  rw [x.sl_eq hk, e]
  simp only [slipOf]
  omega

abbrev canX (x : Shop) (l : List B4) (v : W4) : Nat → Bool := canT x.ounces x.w.slips.length (barF v) (jobsU x.w.slips.length l)

def e10b (x : Shop) (l : List B4) (v : W4) (m : Nat) : Env := [(18, .d (.sl ((intL x.w.slips.length (barF v)).map (.int .i64)))), (14, .d (.int .i64 (trulyN (canX x l v) m))), (13, .d (.sl ((intL x.w.slips.length fun s => barF v s + 1).map (.int .i64)))), (11, .d (.sl (rowI x.w.slips.length (takesT x.ounces (jobsU x.w.slips.length l m))))), (10, .d (.sl ((jobsU x.w.slips.length l m).map Job.d))), (7, .ptr 2 0)]

theorem c10_b {x : Shop} (hx : x.Ok) {l : List B4} (hl : ∀ p ∈ l, p.Ok) {v : W4}
    (hrest : AWP prog f10.ntmps 0 none (restC 1 (restC 6 (bodyOf f10))) (e10b x l v (min l.length 6)) (h10 x v) (FnPost Tt [.tmp 6] 0 P10)) :
    AWP prog f10.ntmps 0 none (restC 6 (bodyOf f10)) (e10a x l v) (h10a x v (fun _ => 0) (barF v) []) (FnPost Tt [.tmp 6] 0 P10) := by
  have hok := x.w_ok hx
  obtain ⟨l1, l2⟩ := hok.len
  have hoi := x.ounces_is hx
  have hol : x.ounces.length = x.w.slips.length := by rw [x.ounces_len, x.w_len]
  refine AWP.stepN 1 _ _ (fun _ => false) tt_ok (fun _ h => nomatch h) (Nat.zero_le _) rfl ?_ hrest
  clear hrest
  have hJ := fun n => jobsU_ok (w := x.w) hok hl n
  have hJ1 : ∀ n, JobOk x.w (jobU x.w.slips.length (l.getD n b4z)) := fun n => jobU_ok hok (b4_getD hl n)
  generalize hN : x.w.slips.length = N at *
  generalize ho : x.ounces = o at *
  have hcs : ∀ i, canT o N (barF v) (jobsU N l) i = (List.range N).all fun s => decide (0 ≤ barF v s - takesT o (jobsU N l (i + 1)) s) := fun i => rfl
  have hop := openN_succ (canT o N (barF v) (jobsU N l))
  have htu : ∀ n, trulyN (canT o N (barF v) (jobsU N l)) (n + 1) = trulyN (canT o N (barF v) (jobsU N l)) n + if openN (canT o N (barF v) (jobsU N l)) (n + 1) = true then 1 else 0 := fun n => rfl
  have htl := trulyN_le (canT o N (barF v) (jobsU N l))
  have hop0 : openN (canT o N (barF v) (jobsU N l)) 0 = true := rfl
  have htu0 : trulyN (canT o N (barF v) (jobsU N l)) 0 = 0 := rfl
  have hcX : canX x l v = canT o N (barF v) (jobsU N l) := by rw [canX, hN, ho]
  simp only [e10a, e10b, h10, h10a, hcX, hN, ho]
  generalize hc : canT o N (barF v) (jobsU N l) = c at *
  generalize hF : V.d (.sl ((intL N (barF v)).map (D.int .i64))) = F at *
  have hFd : F.one = true := by subst hF; rfl
  generalize hM : V.d (.sl ((intL N fun s => barF v s + 1).map (D.int .i64))) = M at *
  simp only [go_sem]
  refine ALoop.by (S := Nat) (fun i => [(19, .d (.int .i64 i)), (18, F), (15, .d (.bool (openN c i))), (14, .d (.int .i64 (trulyN c i))), (13, M), (12, .ref 4 N 0 N), (11, .ref 3 N 0 N), (10, .ref 5 i 0 i), (9, .d (.sl (o.map (.int .i64)))), (7, .ptr 2 0), (1, .d (.sl (l.map B4.d)))])
    (fun i => [shopB x, w4B v, wrkB x.w, .arr 1 false (rowI N (takesT o (jobsU N l i))), .arr 1 false (rowI N fun s => barF v s - takesT o (jobsU N l i) s), .arr 2 false ((jobsU N l i).map Job.d)]) (fun i => 6 - i) (fun i => i ≤ l.length ∧ i ≤ 6) 0 (Nat.zero_le _) (fun _ h => nomatch h) ⟨Nat.zero_le _, by omega⟩ ?_ ?_
  · exact ForgetTo.same' (Nat.zero_le _) (by simp [EWe, Env.look, hop0, htu0, jobsU]) (by simp [jobsU, show takesT o [] = fun _ => 0 from rfl])
  rintro i ⟨hi, hi6⟩ hn
  have hbF := barF_bnd v
  have hA6 : (jobsU N l i).length = i := jobsU_len N l i
  have hdr : ∀ n, BBs n [shopB x, w4B v, wrkB x.w] := fun n => h10_BBs x v n
  refine AWP.run (fun _ => false) tt_ok (fun _ h => nomatch h) (Nat.zero_le _) rfl ?_
  have done : i = min l.length 6 → ∀ E : Env, EWq 3 ([shopB x, w4B v, wrkB x.w] ++ [.arr 1 false (rowI N (takesT o (jobsU N l i))), .arr 1 false (rowI N fun s => barF v s - takesT o (jobsU N l i) s), .arr 2 false ((jobsU N l i).map Job.d)]) E [(18, F), (14, .d (.int .i64 (trulyN c i))), (13, M), (11, .d (.sl (rowI N (takesT o (jobsU N l i))))), (10, .d (.sl ((jobsU N l i).map Job.d))), (7, .ptr 2 0)] → ForgetTo 0 E [shopB x, w4B v, wrkB x.w, .arr 1 false (rowI N (takesT o (jobsU N l i))), .arr 1 false (rowI N fun s => barF v s - takesT o (jobsU N l i) s), .arr 2 false ((jobsU N l i).map Job.d)] [(18, F), (14, .d (.int .i64 (trulyN c (min l.length 6)))), (13, M), (11, .d (.sl (rowI N (takesT o (jobsU N l (min l.length 6)))))), (10, .d (.sl ((jobsU N l (min l.length 6)).map Job.d))), (7, .ptr 2 0)] [shopB x, w4B v, wrkB x.w] := fun h E hE => by
    rw [← h]
    exact ForgetTo.dropR (H0 := [_, _, _]) (Y := [_, _, _]) (Nat.zero_le _) rfl (hdr _) hE
  have hT := rowI_len N (takesT o (jobsU N l i))
  have hAl : ((jobsU N l i).map Job.d).length = i := by simp [jobsU]
  have hAk : ((jobsU N l i).map Job.d).take i = (jobsU N l i).map Job.d := List.take_of_length_le (by omega)
  have hTk : (rowI N (takesT o (jobsU N l i))).take N = rowI N (takesT o (jobsU N l i)) := List.take_of_length_le (by omega)
  simp only [wrkB] at done
  simp only [go_sem, wrkB, List.length_map]
  cases d1 : decide ((i : Int) < l.length) with
  | false =>
    have dn := done (by simp only [decide_eq_false_iff_not] at d1; omega)
    simp only [go_sem]
    refine dn _ ?_
    generalize rowI N (takesT o (jobsU N l i)) = R at *
    generalize (jobsU N l i).map Job.d = JL at *
    subst hF hM
    simp [EWq, Env.look, pubV, hT, hTk, hAl, hAk]
  | true =>
  have hlt : i < l.length := by simpa using d1
  cases d2 : decide ((i : Int) < 6) with
  | false =>
    have dn := done (by simp only [decide_eq_false_iff_not] at d2; omega)
    simp only [go_sem, d2]
    refine dn _ ?_
    generalize rowI N (takesT o (jobsU N l i)) = R at *
    generalize (jobsU N l i).map Job.d = JL at *
    subst hF hM
    simp [EWq, Env.look, pubV, hT, hTk, hAl, hAk]
  | true =>
  have hlt6 : i < 6 := by simp only [decide_eq_true_eq] at d2; omega
  clear done
  have hgd : l.getD i b4z = l[i] := by simp [List.getD_eq_getElem?_getD, List.getElem?_eq_getElem hlt]
  have hix : idx? (l.map B4.d) (i : Int) = some (l.getD i b4z).d := by simp [idx?, List.getElem?_eq_getElem hlt, hgd]
  have hv4 : (l.getD i b4z).Ok := b4_getD hl i
  have hsn := jobsU_snoc N l i
  have hji := hJ1 i
  have hJi := hJ i
  have hJs := hJ (i + 1)
  have hop := hop i
  have htu := htu i
  have htl := htl i
  have hcs := hcs i
  have hnx : IntKind.i64.wrap ((i : Int) + 1) = (i : Int) + 1 := w64 (by omega) (by omega)
  have hi3 : i ≤ 4294967296 := by omega
  have hi4 : i + 1 ≤ 4294967296 := by omega
  have hsz := sized_job (jobsU N l i)
  generalize l.getD i b4z = p at *
  generalize jobsU N l i = A at *
  rw [hsn] at hJs hcs
  have hcoats : coatsB N [p.b, p.c, p.e] = (jobU N p).coats := rfl
  have hfeet : 1 + p.a % 200 = (jobU N p).feet := rfl
  have hbp : ∀ b ∈ [p.b, p.c, p.e], Byte b := by
    intro b hb
    simp only [List.mem_cons, List.not_mem_nil, or_false] at hb
    rcases hb with rfl | rfl | rfl
    · exact hv4.b
    · exact hv4.c
    · exact hv4.e
  have c48a := c48 x.w (by omega) (by omega) [p.b, p.c, p.e] hbp
  rw [hN, hcoats] at c48a
  have ha := hv4.a
  have hcv := byte_conv ha
  have z : (200 : Int) ≠ 0 := by omega
  simp only [Byte] at ha
  have hm : p.a.tmod 200 = p.a % 200 := Int.tmod_eq_emod_of_nonneg ha.1
  have w1 : IntKind.i64.wrap (1 + p.a % 200) = (jobU N p).feet := by rw [w64 (by omega) (by omega)]; rfl
  obtain ⟨hf, hco⟩ := hji
  obtain ⟨hc8, hcm⟩ := coatsP_iff.1 hco
  generalize jobU N p = j at *
  simp only [go_sem, d2]
  refine ADrw.treeG (fun _ => false) tt_ok (by kernel_rfl) (fun k => if k = 8 then some .L else if k = 16 then some .W else if k = 15 then some .A else some .S) (.ones [0, 1, 2, 3, 4, 5, 6, 7, 8, 9, 10, 11, 12, 13, 14, 15, 16] .done) (Nat.zero_le _) (fun _ h => nomatch h) rfl rfl (by kernel_rfl) ?_
  simp only [go_sem, hix, B4.d, hcv, hm, remO_ne z, w1]
  refine c48a.callS rfl rfl rfl rfl rfl rfl ?_
  simp only [go_sem, hAl, show decide (i ≤ 4294967295) = true by simp only [decide_eq_true_eq]; omega]
  refine ALoop.by (S := Nat) (fun n => [(21, .d (.int .i64 n)), (20, .ptr 6 0), (19, .d (.int .i64 i)), (18, F), (15, .d (.bool (openN c i))), (14, .d (.int .i64 (trulyN c i))), (13, M), (12, .ref 4 N 0 N), (11, .ref 3 N 0 N), (10, .ref 5 (i + 1) 0 (i + 1)), (9, .d (.sl (o.map (.int .i64)))), (7, .ptr 2 0), (1, .d (.sl (l.map B4.d)))])
    (fun n => [shopB x, w4B v, wrkB x.w, .arr 1 false (rowI N (goneT o A j.feet (j.coats.take n))), .arr 1 false (rowI N fun s => barF v s - goneT o A j.feet (j.coats.take n) s), .arr 2 false (A.map Job.d ++ [j.d]), jobB j]) (fun n => j.coats.length - n) (fun n => n ≤ j.coats.length) 0 (Nat.zero_le _) (fun _ h => nomatch h) (Nat.zero_le _) ?_ ?_
  · exact ForgetTo.same' (Nat.zero_le _) (by simp [EWe, Env.look]) (by simp [wrkB, jobB, Job.d, show goneT o A j.feet [] = takesT o A from funext fun s => goneT_nil o A j.feet s])
  rintro n hn hnn
  have hgT := rowI_len N (goneT o A j.feet (j.coats.take n))
  have hgL := rowI_len N (fun s => barF v s - goneT o A j.feet (j.coats.take n) s)
  refine AWP.run (fun _ => false) tt_ok (fun _ h => nomatch h) (Nat.zero_le _) rfl ?_
  simp only [go_sem, wrkB, jobB, List.length_map]
  refine Br_split (fun he => ?_) (fun he => ?_) <;> simp only [go_sem, he]
  · have hlt2 : n < j.coats.length := by simpa using he
    have hiy : idx? (j.coats.map (D.int .i64)) (n : Int) = some (.int .i64 j.coats[n]) := by simp [idx?, List.getElem?_eq_getElem hlt2]
    obtain ⟨q, hq, hqN⟩ : ∃ q : Nat, j.coats[n] = (q : Int) ∧ q < N := by
      have := hcm _ (List.getElem_mem hlt2)
      rw [hN] at this
      exact ⟨j.coats[n].toNat, by omega, by omega⟩
    have hst : j.coats.take (n + 1) = j.coats.take n ++ [(q : Int)] := by rw [List.take_succ_eq_append_getElem hlt2, hq]
    rw [hq] at hiy
    have hsn2 := goneT_snoc o A j.feet (j.coats.take n) q
    rw [← hst] at hsn2
    have hoq := lF_idx (t := o) (c := (q : Int)) ⟨by omega, by omega⟩
    have hoi' := hoi q (by rw [hN]; exact hqN)
    have hos := (hok.sl q).ounces
    have hprod := (take_bnd (f := j.feet) (o := lF o q) (c := 0) (m := 8) ⟨by omega, by omega⟩ (by omega) ⟨by omega, by omega⟩ ⟨by omega, by omega⟩).1
    have hgb := goneT_bnd hok (o := o) hoi (s := q) (by rw [hN]; exact hqN) (A := A) hJi (by omega) (f := j.feet) ⟨by omega, by omega⟩ (cs := j.coats.take n) (by simp; omega)
    have hbq := hbF q
    have hTq := rowI_get (N := N) (goneT o A j.feet (j.coats.take n)) hqN
    have hLq := rowI_get (N := N) (fun s => barF v s - goneT o A j.feet (j.coats.take n) s) hqN
    have hTs : rowI N (goneT o A j.feet (j.coats.take (n + 1))) = (rowI N (goneT o A j.feet (j.coats.take n))).set q (.int .i64 (goneT o A j.feet (j.coats.take n) q + j.feet * lF o q)) :=
      rowI_set _ _ (by rw [hsn2, if_pos rfl]) (fun s hs => by rw [hsn2, if_neg (by omega)]; simp)
    have hLs : rowI N (fun s => barF v s - goneT o A j.feet (j.coats.take (n + 1)) s) = (rowI N fun s => barF v s - goneT o A j.feet (j.coats.take n) s).set q (.int .i64 (barF v q - goneT o A j.feet (j.coats.take n) q - j.feet * lF o q)) :=
      rowI_set _ _ (by rw [hsn2, if_pos rfl]; omega) (fun s hs => by rw [hsn2, if_neg (by omega)]; simp)
    clear hsn2
    generalize rowI N (fun s => barF v s - goneT o A j.feet (j.coats.take n) s) = R at *
    generalize rowI N (goneT o A j.feet (j.coats.take n)) = T at *
    generalize goneT o A j.feet (j.coats.take n) q = gq at *
    generalize lF o q = oq at *
    have w2 : IntKind.i64.wrap (j.feet * oq) = j.feet * oq := w64 (by omega) (by omega)
    have w3 : IntKind.i64.wrap (gq + j.feet * oq) = gq + j.feet * oq := w64 (by omega) (by omega)
    have w4 : IntKind.i64.wrap (barF v q - gq - j.feet * oq) = barF v q - gq - j.feet * oq := w64 (by omega) (by omega)
    have hnx2 : IntKind.i64.wrap ((n : Int) + 1) = (n : Int) + 1 := w64 (by omega) (by omega)
    have hq0 : (0 : Int) ≤ (q : Int) := by omega
    have hq1 : (q : Int) < N := by omega
    refine ADrw.treeG (fun _ => false) tt_ok (by kernel_rfl) (fun k => if k = 1 ∨ k = 4 then some .L else some .S) (.ones [0, 1, 2, 3, 4, 5, 6, 7, 8, 9, 10, 11] .done) (Nat.zero_le _) (fun _ h => nomatch h) rfl rfl (by kernel_rfl) ?_
    simp only [go_sem, hiy, hoq, w2, hgT, hgL, hTq, hLq, hq0, hq1, Int.toNat_natCast, Nat.mul_one, Nat.zero_add, List.length_set, w3, w4]
    refine ⟨n + 1, hlt2, by omega, ?_⟩
    exact ForgetTo.same' (Nat.zero_le _) (by simp [EWe, Env.look, hnx2]) (by simp [hTs, hLs, wrkB, jobB])
  · have hie : n = j.coats.length := by simp only [decide_eq_false_iff_not] at he; omega
    subst hie
    have hge : goneT o A j.feet (j.coats.take j.coats.length) = takesT o (A ++ [j]) := by rw [List.take_length]; exact funext fun s => goneT_end o A j s
    rw [hge] at hgT hgL ⊢
    have hbd := fun (s : Nat) (hs : s < N) => takesT_bnd hok (o := o) hoi (s := s) (by rw [hN]; exact hs) (A := A ++ [j]) hJs (by simp; omega)
    have hLg := fun (s : Nat) (hs : s < N) => rowI_get (N := N) (fun s => barF v s - takesT o (A ++ [j]) s) hs
    obtain ⟨op, hopd⟩ : ∃ op : Nat → Bool, op = fun k => (openN c i && (List.range k).all fun s => decide (0 ≤ barF v s - takesT o (A ++ [j]) s)) := ⟨_, rfl⟩
    have hop1 : op 0 = openN c i := by rw [hopd]; simp
    have hop2 : ∀ k, op (k + 1) = (op k && decide (0 ≤ barF v k - takesT o (A ++ [j]) k)) := fun k => by rw [hopd]; simp only []; rw [List.range_succ, List.all_append, ← Bool.and_assoc]; simp
    have hop3 : op N = openN c (i + 1) := by rw [hopd, hop, hcs]
    clear hopd
    refine ALoop.by (S := Nat) (fun k => [(23, .d (.int .i64 k)), (19, .d (.int .i64 i)), (18, F), (15, .d (.bool (op k))), (14, .d (.int .i64 (trulyN c i))), (13, M), (12, .ref 4 N 0 N), (11, .ref 3 N 0 N), (10, .ref 5 (i + 1) 0 (i + 1)), (9, .d (.sl (o.map (.int .i64)))), (7, .ptr 2 0), (1, .d (.sl (l.map B4.d)))])
      (fun _ => [shopB x, w4B v, wrkB x.w, .arr 1 false (rowI N (takesT o (A ++ [j]))), .arr 1 false (rowI N fun s => barF v s - takesT o (A ++ [j]) s), .arr 2 false (A.map Job.d ++ [j.d])]) (fun k => N - k) (fun k => k ≤ N) 0 (Nat.zero_le _) (fun _ h => nomatch h) (Nat.zero_le _) ?_ ?_
    · refine ForgetTo.drop (H0 := [_, _, _, _, _, _]) (Y := [_]) (Nat.zero_le _) (by simp [wrkB]) (by simp [BBs, BB, VBs, VB, shopB, w4B, wrkB]) ?_
      subst hF hM
      simp [EWp, Env.look, pubV, hop1]
    rintro k hk hkn
    refine AWP.run (fun _ => false) tt_ok (fun _ h => nomatch h) (Nat.zero_le _) rfl ?_
    simp only [go_sem, wrkB, hgL]
    refine Br_split (fun hf => ?_) (fun hf => ?_) <;> simp only [go_sem, hf]
    · have hltk : k < N := by simpa using hf
      have hLk := hLg k hltk
      have hnx2 : IntKind.i64.wrap ((k : Int) + 1) = (k : Int) + 1 := w64 (by omega) (by omega)
      have hq0 : (0 : Int) ≤ (k : Int) := by omega
      have hq1 : (k : Int) < N := by omega
      have hks := hop2 k
      generalize rowI N (fun s => barF v s - takesT o (A ++ [j]) s) = R at *
      generalize barF v k - takesT o (A ++ [j]) k = y at *
      cases hb : op k with
      | false =>
        rw [hb, Bool.false_and] at hks
        simp only [go_sem]
        refine ⟨k + 1, hltk, by omega, ?_⟩
        exact ForgetTo.same' (Nat.zero_le _) (by simp [EWe, Env.look, hnx2, hks]) (by simp [wrkB])
      | true =>
        rw [hb, Bool.true_and] at hks
        simp only [go_sem, hgL, hLk, hq0, hq1, Int.toNat_natCast, Nat.mul_one, Nat.zero_add]
        refine ⟨k + 1, hltk, by omega, ?_⟩
        exact ForgetTo.same' (Nat.zero_le _) (by simp [EWe, Env.look, hnx2, hks]) (by simp [wrkB])
    · have hke : k = N := by simp only [decide_eq_false_iff_not] at hf; omega
      subst hke
      rw [hop3]
      have hAm : (jobsU k l (i + 1)).map Job.d = A.map Job.d ++ [j.d] := by rw [hsn, List.map_append]; rfl
      cases hb : openN c (i + 1) with
      | true =>
        rw [hb] at htu
        have hw : IntKind.i64.wrap ((trulyN c i : Int) + 1) = ((trulyN c (i + 1) : Nat) : Int) := by rw [htu, if_pos rfl, w64 (by omega) (by omega)]; omega
        simp only [go_sem, hw, hnx]
        refine ⟨i + 1, ⟨hlt, hlt6⟩, by omega, ?_⟩
        exact ForgetTo.same' (Nat.zero_le _) (by simp [EWe, Env.look, hb]) (by simp [wrkB, hAm, hsn])
      | false =>
        rw [hb] at htu
        have hw : trulyN c (i + 1) = trulyN c i := by rw [htu, if_neg (by simp)]; rfl
        simp only [go_sem, hnx]
        refine ⟨i + 1, ⟨hlt, hlt6⟩, by omega, ?_⟩
        exact ForgetTo.same' (Nat.zero_le _) (by simp [EWe, Env.look, hb, hw]) (by simp [wrkB, hAm, hsn])
end Go.Aw
end

section
set_option maxRecDepth 100000
namespace Go.Aw
open Go Go.Proofs.Try

theorem c10_c {x : Shop} (hx : x.Ok) {l : List B4} (hl : ∀ p ∈ l, p.Ok) {v : W4} {m : Nat} (h6 : m ≤ 6) :
    AWP prog f10.ntmps 0 none (restC 1 (restC 6 (bodyOf f10))) (e10b x l v m) (h10 x v) (FnPost Tt [.tmp 6] 0 P10) := by
  have hok := x.w_ok hx
  obtain ⟨l1, l2⟩ := hok.len
  have hoi := x.ounces_is hx
  have hbF := barF_bnd v
  have hJ := jobsU_ok (w := x.w) hok hl m
  have hJl := jobsU_len x.w.slips.length l m
  have hE := jobsE_zero hok (l := jobsU x.w.slips.length l m) (by omega) hJ
  have hcl : ∀ a ∈ jobsU x.w.slips.length l m, a.coats.length ≤ 4294967296 := fun a ha => by
    have := (coatsP_iff.1 (hJ a ha).2).1
    omega
  have hin := fun (s : Nat) (hs : s < x.w.slips.length) => takesT_in hok hoi hs (jobsU x.w.slips.length l m) hJ
  have hb1 : ∀ n ∈ intL x.w.slips.length (barF v), 0 ≤ n ∧ n ≤ 20000 := fun n hn => by
    obtain ⟨s, _, rfl⟩ := List.mem_map.1 hn
    have := hbF s
    omega
  have hb2 : ∀ n ∈ intL x.w.slips.length (fun s => barF v s + 1), 0 ≤ n ∧ n ≤ 20000 := fun n hn => by
    obtain ⟨s, _, rfl⟩ := List.mem_map.1 hn
    have := hbF s
    omega
  have hB1 := intL_len x.w.slips.length (barF v)
  have hB2 := intL_len x.w.slips.length (fun s => barF v s + 1)
  have c26a := c26 x.w (jobsU x.w.slips.length l m) (by omega) (by omega) hcl
  have c27a := c27 x.w (jobsU x.w.slips.length l m) (intL x.w.slips.length (barF v)) (by omega) (by omega) hcl (by omega)
  have c27b := c27 x.w (jobsU x.w.slips.length l m) (intL x.w.slips.length fun s => barF v s + 1) (by omega) (by omega) hcl (by omega)
  have hD1 : doneP x.w (jobsU x.w.slips.length l m) (intL x.w.slips.length (barF v)) = (((doneN Sp.hi x.w (jobsU x.w.slips.length l m) (intL x.w.slips.length (barF v)) : Nat) : Int), ((doneN Sp.lo x.w (jobsU x.w.slips.length l m) (intL x.w.slips.length (barF v)) : Nat) : Int), 0) := by
    rw [doneP, if_pos hE, if_pos ⟨hB1, within_all.2 hb1⟩]
  have hD2 : doneP x.w (jobsU x.w.slips.length l m) (intL x.w.slips.length fun s => barF v s + 1) = (((doneN Sp.hi x.w (jobsU x.w.slips.length l m) (intL x.w.slips.length fun s => barF v s + 1) : Nat) : Int), ((doneN Sp.lo x.w (jobsU x.w.slips.length l m) (intL x.w.slips.length fun s => barF v s + 1) : Nat) : Int), 0) := by
    rw [doneP, if_pos hE, if_pos ⟨hB2, within_all.2 hb2⟩]
  rw [hD1] at c27a
  rw [hD2] at c27b
  rw [usesV, if_pos hE, hE] at c26a
  have hmo : ∀ s : Nat, s < x.w.slips.length → (intL x.w.slips.length (barF v)).getD s 0 ≤ (intL x.w.slips.length fun s => barF v s + 1).getD s 0 := fun s hs => by
    rw [intL_getD _ hs, intL_getD _ hs]; omega
  have m1 := done_more Sp.hi x.w (jobsU x.w.slips.length l m) _ _ hmo
  have m2 := done_more Sp.lo x.w (jobsU x.w.slips.length l m) _ _ hmo
  have hcX : canT x.ounces x.w.slips.length (fun s => (intL x.w.slips.length (barF v)).getD s 0) (jobsU x.w.slips.length l) = canX x l v := funext fun i => by
    rw [Bool.eq_iff_iff, canT, canX, canT, List.all_eq_true, List.all_eq_true]
    constructor <;> intro h s hs
    · have := h s hs
      rw [intL_getD _ (List.mem_range.1 hs)] at this
      exact this
    · rw [intL_getD _ (List.mem_range.1 hs)]
      exact h s hs
  have m3 := done_truly hok hoi hl (m := m) (intL x.w.slips.length (barF v))
  rw [hcX] at m3
  obtain ⟨m3, m4⟩ := m3
  have m5 : doneN Sp.lo x.w (jobsU x.w.slips.length l m) (intL x.w.slips.length (barF v)) ≤ m := by
    rw [doneN, truly_while, hJl]; exact trulyN_le _ _
  have hget := fun (s : Nat) (hs : s < x.w.slips.length) => usesL_get (w := x.w) (l := jobsU x.w.slips.length l m) hs
  have hul : (usesL x.w (jobsU x.w.slips.length l m)).length = x.w.slips.length := by simp [usesL]
  have hT := rowI_len x.w.slips.length (takesT x.ounces (jobsU x.w.slips.length l m))
  have hTg := fun (s : Nat) (hs : s < x.w.slips.length) => rowI_get (N := x.w.slips.length) (takesT x.ounces (jobsU x.w.slips.length l m)) hs
  have c59a := c59 (jobsU x.w.slips.length l m) (by omega) hcl
  simp only [e10b]
  generalize usesL x.w (jobsU x.w.slips.length l m) = U at *
  generalize useS x.w (jobsU x.w.slips.length l m) = u at *
  generalize takesT x.ounces (jobsU x.w.slips.length l m) = tk at *
  generalize doneN Sp.hi x.w (jobsU x.w.slips.length l m) (intL x.w.slips.length fun s => barF v s + 1) = a at *
  generalize doneN Sp.lo x.w (jobsU x.w.slips.length l m) (intL x.w.slips.length fun s => barF v s + 1) = b at *
  generalize doneN Sp.hi x.w (jobsU x.w.slips.length l m) (intL x.w.slips.length (barF v)) = surely at *
  generalize doneN Sp.lo x.w (jobsU x.w.slips.length l m) (intL x.w.slips.length (barF v)) = possibly at *
  generalize trulyN (canX x l v) m = truly at *
  generalize intL x.w.slips.length (fun s => barF v s + 1) = B2 at *
  generalize intL x.w.slips.length (barF v) = B1 at *
  generalize jobsU x.w.slips.length l m = A at *
  generalize rowI x.w.slips.length tk = T at *
  have n1 : decide ((surely : Int) < 0) = false := by simp only [decide_eq_false_iff_not]; omega
  have n2 : decide ((A.length : Int) < possibly) = false := by simp only [decide_eq_false_iff_not]; omega
  have n3 : decide ((truly : Int) < surely) = false := by simp only [decide_eq_false_iff_not]; omega
  have n4 : decide ((possibly : Int) < truly) = false := by simp only [decide_eq_false_iff_not]; omega
  have n5 : decide ((a : Int) < surely) = false := by simp only [decide_eq_false_iff_not]; omega
  have n6 : decide ((b : Int) < possibly) = false := by simp only [decide_eq_false_iff_not]; omega
  have hd0 : ∀ {α : Type} [DecidableEq α] (l : α), decide (l = l) = true := fun l => by simp
  refine AWP.runS (fun _ => false) tt_ok (fun _ h => nomatch h) (Nat.zero_le _) rfl ?_
  simp only [go_sem, h10, wrkB]
  refine (c49 x.w (by omega)).call rfl rfl rfl ?_
  simp only [go_sem]
  refine c59a.call rfl rfl rfl ?_
  simp only [go_sem]
  refine c26a.call rfl rfl rfl ?_
  simp only [go_sem]
  refine (c49 x.w (by omega)).call rfl rfl rfl ?_
  simp only [go_sem]
  refine c59a.call rfl rfl rfl ?_
  simp only [go_sem]
  refine c27a.call rfl rfl rfl ?_
  simp only [go_sem]
  refine (c49 x.w (by omega)).call rfl rfl rfl ?_
  simp only [go_sem]
  refine c59a.call rfl rfl rfl ?_
  simp only [go_sem]
  refine c27b.call rfl rfl rfl ?_
  simp only [go_sem, List.length_map, hul, hT, bne_self_eq_false, n1, n2, n3, n4, n5, n6, hd0]
  refine ALoop.by (S := Nat) (fun k => [(32, .d (.int .i64 k)), (24, .d (.sl (U.map Sp.d))), (11, .d (.sl T))])
    (fun _ => h10 x v) (fun k => x.w.slips.length - k) (fun k => k ≤ x.w.slips.length) 0 (Nat.zero_le _) (fun _ h => nomatch h) (Nat.zero_le _) ?_ ?_
  · exact ForgetTo.same' (Nat.zero_le _) (by simp [EWe, Env.look]) (by simp [h10, wrkB])
  rintro k hk hkn
  refine AWP.run (fun _ => false) tt_ok (fun _ h => nomatch h) (Nat.zero_le _) rfl ?_
  simp only [go_sem, h10, wrkB, hT]
  refine Br_split (fun hd => ?_) (fun hd => ?_) <;> simp only [go_sem, hd]
  · have hlt : k < x.w.slips.length := by simpa using hd
    have hix : idx? T (k : Int) = some (.int .i64 (tk k)) := by
      simp only [idx?]
      rw [if_pos (by omega)]
      exact hTg k hlt
    have hiy : idx? (U.map Sp.d) (k : Int) = some (u k).d := by
      simp only [idx?]
      simp [hget k hlt]
    have hm := hin k hlt
    have c53a := c53 (tk k) (u k)
    have h53 : inB (tk k) (u k) = true := by simp only [inB, Bool.and_eq_true, decide_eq_true_eq]; exact hm
    rw [h53] at c53a
    have hnx : IntKind.i64.wrap ((k : Int) + 1) = (k : Int) + 1 := w64 (by omega) (by omega)
    refine ADrw.treeG (fun _ => false) tt_ok (by kernel_rfl) (fun k => some .S) (.ones [0, 1, 2, 3, 4, 5, 6, 7, 8, 9] .done) (Nat.zero_le _) (fun _ h => nomatch h) rfl rfl (by kernel_rfl) ?_
    simp only [go_sem, hix, hiy, Sp.d]
    refine c53a.callS rfl rfl rfl rfl rfl rfl ?_
    simp only [go_sem]
    refine ⟨k + 1, hlt, by omega, ?_⟩
    exact ForgetTo.same' (Nat.zero_le _) (by simp [EWe, Env.look, hnx]) (by simp [h10, wrkB])
  · refine c14.call rfl rfl rfl ?_
    simp only [go_sem]
    exact ⟨rfl, rfl⟩

theorem c10 {x : Shop} (hx : x.Ok) {l : List B4} (hl : ∀ p ∈ l, p.Ok) {v : W4} (hv : v.Ok) : PC prog 10 [.d x.d, .d (.sl (l.map B4.d)), .d v.d] (.d (.bool true)) :=
  c10_a hx hv (c10_b hx hl (c10_c hx hl (Nat.min_le_right _ _)))
end Go.Aw
end
