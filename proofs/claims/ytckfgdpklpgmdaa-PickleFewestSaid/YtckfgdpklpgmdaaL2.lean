/- The strengths with which a bath can have been filled. What was. All sets of so many numbers. What is wrong. What is missing. The reference: lists compared. The reference: baths; the law's helpers. The reference: Steps, Weaker; the bath of the examples. The bath of the document's examples. The document's examples. What the document's examples say is so. The law of the strengths. Arguments of the program's types. The reference: all ways in which a plate comes out. The reference: for how long a plate may lie; the law of it. The law of the hours. Bytes as arguments; the law of what is missing, without the reference. Bytes as arguments of the law. A bath of bytes, with a truth. Steps of bytes; how plates truly come out. Steps of bytes. The law of all truths. Vats and pairs of bytes as arguments. How long it lies, without the reference. What rusts can have been: the program's and the reference's way. The law of what was. What was, without the reference: the plain law. What was seen wrong: the law's last part. The order with the fewest hours: the plain law. The order with the fewest hours: what the law asks. A smaller list of plates; how the order comes out. The order with the fewest hours: the law's loops. The order with the fewest hours: all plates truly come out well. The order with the fewest hours: no other order has fewer. The order with the fewest hours: the law, without the reference. -/
import Derived.Test.YtckfgdpklpgmdaaL1
set_option linter.unusedSimpArgs false
set_option linter.unusedVariables false

section
set_option maxRecDepth 100000
namespace Go.Aw
open Go Go.Proofs.Try

abbrev ItemU := List V × Option (Nat × Blk)

theorem BBs_upd {n : Nat} {u : Option (Nat × Blk)} {H : Heap} (hu : uOk u H) (hb : BBs n H) : BBs n (upd u H) := by
  cases u with
  | none => exact hb
  | some p =>
    obtain ⟨i, x⟩ := p
    cases x with
    | arr sz nl els => exact BBs_set hb trivial
    | _ => exact hu.elim

theorem yield_frameU {yv : V} {n : Nat} {I : List ItemU → Heap → Prop} {Q : V → Heap → Prop} (hyv : VB n yv = true) (hI : ∀ l H, I l H → H.length = n ∧ BBs n H)
    (hy : ∀ a r H, I (a :: r) H → uOk a.2 H ∧ ACallV prog yv a.1 (upd a.2 H) (fun v H' => (v = .d (.bool true) ∧ I r H') ∨ (v = .d (.bool false) ∧ H'.length = n ∧ BBs n H' ∧ Q (.tup []) H')))
    {a : ItemU} {r : List ItemU} {H : Heap} (X : Heap) (ha : VBs n a.1 = true) (h : I (a :: r) H) :
    ACallV prog yv a.1 (upd a.2 H ++ X) (fun v H' => ∃ H1, H' = H1 ++ X ∧ H1.length = n ∧ BBs n H1 ∧ ((v = .d (.bool true) ∧ I r H1) ∨ (v = .d (.bool false) ∧ Q (.tup []) H1))) := by
  obtain ⟨hl, hb⟩ := hI _ _ h
  obtain ⟨hu, hc⟩ := hy _ _ _ h
  have hbu := BBs_upd hu hb
  have hlu : (upd a.2 H).length = n := by rw [upd_len, hl]
  refine (ACallV.frame (fun id x hx => BB_le (by omega) (BBs_get hbu id x hx)) (by rw [hlu]; exact hyv) (by rw [hlu]; exact ha) (fun v H' hv => ?_) hc).mono ?_
  · rcases hv with ⟨_, k⟩ | ⟨_, k, _⟩
    · rw [(hI _ _ k).1, hlu]
    · rw [k, hlu]
  · rintro v H' ⟨H1, rfl, ⟨k1, k2⟩ | ⟨k1, k2, k3, k4⟩⟩
    · exact ⟨H1, rfl, (hI _ _ k2).1, (hI _ _ k2).2, .inl ⟨k1, k2⟩⟩
    · exact ⟨H1, rfl, k2, k3, .inr ⟨k1, k4⟩⟩

/-- How many strengths there are. -/
def Log.N (x : Log) : Nat := (x.bath.str.hi + 1 - x.bath.str.lo).toNat

def itemAt (x : Log) (v : Nat → List Sp → V) (u : Nat → List Sp → Option (Nat × Blk)) (i : Nat) : Option ItemU :=
  (rustsP x (x.bath.str.lo + i)).map fun l => ([.d (.int .i64 (x.bath.str.lo + i)), v i l], u i l)

def itemsF (x : Log) (v : Nat → List Sp → V) (u : Nat → List Sp → Option (Nat × Blk)) : List ItemU := (List.range x.N).filterMap (itemAt x v u)

theorem c93 {x : Log} (hok : x.Ok) (v : Nat → List Sp → V) (u : Nat → List Sp → Option (Nat × Blk)) (hv : ∀ i l H, i < x.N → rustsP x (x.bath.str.lo + i) = some l → uOk (u i l) H → VB H.length (v i l) = true)
    (hcall : ∀ i l H Q, i < x.N → rustsP x (x.bath.str.lo + i) = some l → uOk (u i l) H → Q (.tup [v i l, .d (.bool true)]) (upd (u i l) H) → ACallV prog (.fn (.func 115) [] []) [.d x.d, .d (.int .i64 (x.bath.str.lo + i))] H Q) :
    IterU prog (.fn (.func 93) [.d x.d] []) (itemsF x v u) := by
  intro yv n I Q hf hyv hI hy hend H hH
  have hHl := (hI _ _ hH).1
  have hHb := (hI _ _ hH).2
  obtain ⟨f, y1, y2, rfl⟩ := hf
  have hok' := hok
  obtain ⟨hb, _, _, _⟩ := hok'
  obtain ⟨s1, s2, s3, hb5, _⟩ := hb
  have hN : (x.N : Int) = x.bath.str.hi + 1 - x.bath.str.lo := by simp only [Log.N]; omega
  refine ACallV.of rfl ?_
  refine ACalls.run (fun _ => false) tt_ok (fn := f93) (rs := []) rfl rfl rfl rfl rfl rfl rfl ?_
  simp only [go_sem, hHl, hy0 hHl, Log.d]
  refine ALoop.by (S := Nat × Heap) (fun s => [(4, .d (.int .i64 (x.bath.str.lo + s.1))), (2, .ptr n 0), (1, .fn f y1 y2)])
    (fun s => s.2 ++ [boxX x]) (fun s => x.N - s.1)
    (fun s => s.1 ≤ x.N ∧ I (((List.range x.N).drop s.1).filterMap (itemAt x v u)) s.2) (0, H) (by simp) (fun _ h => nomatch h) ⟨Nat.zero_le _, hH⟩ ?_ ?_
  · exact ForgetTo.same' (by simp) (by simp [EWe, Env.look]) (by simp [boxX])
  rintro ⟨i, Hc⟩ ⟨hi, hI0⟩ hn'
  simp only at hi hI0 hn' ⊢
  have hcl := (hI _ _ hI0).1
  have hcb := (hI _ _ hI0).2
  refine AWP.run (fun _ => false) tt_ok (fun _ h => nomatch h) (by simp; omega) rfl ?_
  simp only [go_sem, hy0 hcl, boxX]
  refine Br_split (fun hd => ?_) (fun hd => ?_) <;> simp only [go_sem, hd]
  · have hlt : i < x.N := by simp at hd; omega
    have hstr : 0 ≤ x.bath.str.lo + i ∧ x.bath.str.lo + i ≤ 40 := by omega
    have hnx : IntKind.i64.wrap (x.bath.str.lo + i + 1) = x.bath.str.lo + ((i + 1 : Nat) : Int) := by rw [w64 (by omega) (by omega)]; omega
    simp only [go_sem, hy0 hcl, boxX]
    have hdr : (List.range x.N).drop i = i :: (List.range x.N).drop (i + 1) := by rw [List.drop_eq_getElem_cons (by simpa using hlt), List.getElem_range]
    rw [hdr] at hI0
    cases h : rustsP x (x.bath.str.lo + i) with
    | none =>
      have hit : itemAt x v u i = none := by simp only [itemAt, h]; rfl
      rw [List.filterMap_cons_none hit] at hI0
      refine (c115 hok hstr).call rfl rfl (by simp only [rustsV, h]; rfl) ?_
      simp only [rustsV, h, go_sem, hy0 hcl, boxX]
      refine ⟨(i + 1, Hc), ⟨hlt, hI0⟩, by simp only; omega, ?_⟩
      exact ForgetTo.same' (by simp; omega) (by simp [EWe, Env.look, hnx]) (by simp [boxX])
    | some l =>
      have hit : itemAt x v u i = some ([.d (.int .i64 (x.bath.str.lo + i)), v i l], u i l) := by simp only [itemAt, h]; rfl
      rw [List.filterMap_cons_some hit] at hI0
      have hu : uOk (u i l) Hc := (hy _ _ _ hI0).1
      refine hcall i l _ _ hlt h (uOk_append _ hu) ?_
      have hul : (upd (u i l) Hc).length = n := by rw [upd_len, hcl]
      rw [upd_append _ hu]
      simp only [go_sem, hy0 hul, boxX]
      have hvb := hv i l Hc hlt h hu
      rw [hcl] at hvb
      refine (yield_frameU hyv hI hy [.cells [.d (.int .i64 x.bath.str.lo), .d (.int .i64 x.bath.str.hi), .d (.sl (x.bath.plates.map Plate.d)), .d (.sl (x.seen.map Seen.d)), .d (.int .i64 x.without)]] (by simp [VBs, VB, hvb]) hI0).mono ?_
      rintro w H' ⟨H1, rfl, k1, k2, k3⟩
      rcases k3 with ⟨rfl, k3⟩ | ⟨rfl, k3⟩
      · simp only [go_sem, hy0 k1]
        refine ⟨(i + 1, H1), ⟨hlt, k3⟩, by simp only; omega, ?_⟩
        exact ForgetTo.same' (by simp; omega) (by simp [EWe, Env.look, hnx]) (by simp [boxX])
      · simp only [go_sem, hHl, htk k1]
        exact ⟨.inr k2, k3⟩
  · have hie : i = x.N := by simp at hd; omega
    rw [List.drop_eq_nil_of_le (by simp; omega)] at hI0
    simp only [go_sem, hHl, htk hcl]
    exact ⟨.inr hcb, hend _ hI0⟩
end Go.Aw
end

section
set_option maxRecDepth 100000
namespace Go.Aw
open Go Go.Proofs.Try

def both (a b : Sp) : Sp := ⟨min a.lo b.lo, max a.hi b.hi⟩

theorem both_self (a : Sp) : both a a = a := by simp [both]

theorem c94 (a b : Sp) : PC prog 94 [.d a.d, .d b.d] (.d (both a b).d) := by
  refine PC.run (fun _ => false) tt_ok (fn := f94) (rs := [.cell 4 23]) rfl rfl rfl rfl rfl rfl rfl ?_
  simp only [go_sem, Sp.d, both]

/-- What can have been, in order. -/
def canL (x : Log) : List (Nat × List Sp) := (List.range x.N).filterMap fun i : Nat => (rustsP x (x.bath.str.lo + i)).map fun l => ((i : Nat), l)

def mixR (r l : List Sp) (p : Nat) : List Sp := (List.zipWith both r l).take p ++ r.drop p

theorem mixR_zero (r l : List Sp) : mixR r l 0 = r := by simp [mixR]
theorem mixR_len {r l : List Sp} (h : l.length = r.length) {p : Nat} (hp : p ≤ r.length) : (mixR r l p).length = r.length := by
  simp [mixR, h]; omega
theorem mixR_get {r l : List Sp} (h : l.length = r.length) {p : Nat} (hp : p < r.length) : (mixR r l p)[p]? = some r[p] := by
  have : ((List.zipWith both r l).take p).length = p := by simp [h]; omega
  rw [mixR, List.getElem?_append_right (by omega), this, Nat.sub_self, List.getElem?_drop, Nat.add_zero, List.getElem?_eq_getElem hp]
theorem mixR_set {r l : List Sp} (h : l.length = r.length) {p : Nat} (hp : p < r.length) : (mixR r l p).set p (both r[p] l[p]) = mixR r l (p + 1) := by
  have h1 : ((List.zipWith both r l).take p).length = p := by simp [h]; omega
  rw [mixR, List.set_append_right _ _ (by omega), h1, Nat.sub_self, List.drop_eq_getElem_cons hp, List.set_cons_zero, mixR, List.take_succ_eq_append_getElem (by simp [h]; omega), List.append_assoc]
  simp
theorem mixR_end {r l : List Sp} (h : l.length = r.length) : mixR r l r.length = List.zipWith both r l := by
  rw [mixR, List.drop_length, List.append_nil, List.take_of_length_le (by simp [h])]

/-- What was: where its row is, the least and the greatest strength, all rusts. -/
def wasS : Option (Nat × Nat × List Sp) → Nat × List Sp → Option (Nat × Nat × List Sp)
  | none, (i, l) => some (i, i, l)
  | some (k, _, r), (i, l) => some (k, i, List.zipWith both r l)

def wasO (x : Log) : Option (Nat × Nat × List Sp) := (canL x).foldl wasS none

def wasV (b : Bath) (l : List Seen) : V :=
  if logE b l = 0 then (match wasO ⟨b, l, 0⟩ with | none => .tup [.d sp0.d, .slx (some true) [], .d (.int .i64 9)] | some (k, h, r) => .tup [.d (Sp.mk (b.str.lo + k) (b.str.lo + h)).d, .d (.sl (r.map Sp.d)), .d (.int .i64 0)]) else .tup [.d sp0.d, .slx (some true) [], .d (.int .i64 (logE b l))]

theorem logP_ok {b : Bath} {l : List Seen} (hl : l.length ≤ 62) (h : logE b l = 0) : b.Ok ∧ (∀ w, w < 2 ^ 62 → (Log.mk b l w).Ok) := by
  unfold logE at h
  split at h
  · rename_i h0
    split at h
    · cases h
    · split at h
      · rename_i h2
        refine ⟨checkP_iff.1 h0, fun w hw => ⟨checkP_iff.1 h0, hl, hw, fun s hs => stepsOk_mem h2 s.step (List.mem_map.2 ⟨s, hs, rfl⟩)⟩⟩
      · cases h
  · rename_i h0; exact absurd h h0

def isArr : Blk → Bool
  | .arr _ _ _ => true
  | _ => false

theorem BBs_arr {n : Nat} : ∀ {l : List Blk}, (∀ x ∈ l, isArr x = true) → BBs n l
  | [], _ => trivial
  | .arr _ _ _ :: _, h => ⟨trivial, BBs_arr fun x hx => h x (List.mem_cons_of_mem _ hx)⟩
  | .cells c :: _, h => by have := h (.cells c) List.mem_cons_self; cases this
  | .loop a b c d e f :: _, h => by have := h (.loop a b c d e f) List.mem_cons_self; cases this
  | .obj o :: _, h => by have := h (.obj o) List.mem_cons_self; cases this

def rowV (n i : Nat) : V := if n = 0 then .d (.sl []) else .ref (i + 5) n 0 n

def rowU (n i : Nat) (l : List Sp) : Option (Nat × Blk) := if n = 0 then none else some (i + 5, .arr 2 false (l.map Sp.d))

def itemI (b : Bath) (p : Nat × List Sp) : ItemU := ([.d (.int .i64 (b.str.lo + p.1)), rowV b.plates.length p.1], rowU b.plates.length p.1 p.2)

/-- The heap of Was. -/
def hW (b : Bath) (l : List Seen) (lo hi : Int) (rv : V) (e : Int) (rows : Heap) : Heap :=
  .cells [.d (.int .i64 b.str.lo), .d (.int .i64 b.str.hi), .d (.sl (b.plates.map Plate.d))] :: .cells [.d (.int .i64 lo), .d (.int .i64 hi)] :: .cells [rv] :: .cells [.d (.int .i64 e)] ::
    .cells [.d (.int .i64 b.str.lo), .d (.int .i64 b.str.hi), .d (.sl (b.plates.map Plate.d)), .d (.sl (l.map Seen.d)), .d (.int .i64 0)] :: rows

def hS (b : Bath) (l : List Seen) : Option (Nat × Nat × List Sp) → Heap → Heap
  | none, rows => hW b l 0 0 (.slx (some true) []) 9 rows
  | some (k, h, _), rows => hW b l (b.str.lo + k) (b.str.lo + h) (rowV b.plates.length k) 0 rows

/-- What holds of Was's rows. -/
structure JW (b : Bath) (m : Nat) (q : List (Nat × List Sp)) (st : Option (Nat × Nat × List Sp)) (rows : Heap) : Prop where
  len : rows.length = m
  arr : ∀ x ∈ rows, isArr x = true
  due : ∀ p ∈ q, p.1 < m ∧ p.2.length = b.plates.length ∧ (b.plates.length ≠ 0 → rows[p.1]? = some (.arr 2 true []))
  pw : q.Pairwise (fun a c => a.1 ≠ c.1)
  cur : ∀ k h r, st = some (k, h, r) → k < m ∧ r.length = b.plates.length ∧ (∀ p ∈ q, p.1 ≠ k) ∧ (b.plates.length ≠ 0 → rows[k]? = some (.arr 2 false (r.map Sp.d)))

theorem JW.next {b : Bath} {m i : Nat} {now : List Sp} {q' : List (Nat × List Sp)} {st : Option (Nat × Nat × List Sp)} {rows : Heap} (hJ : JW b m ((i, now) :: q') st rows) {k h : Nat} {r : List Sp} {rows2 : Heap} (hl : rows2.length = m) (ha : ∀ x ∈ rows2, isArr x = true) (hk : k < m)
    (hr : r.length = b.plates.length) (hq : ∀ p ∈ q', p.1 ≠ k) (hrow : b.plates.length ≠ 0 → rows2[k]? = some (.arr 2 false (r.map Sp.d))) (ho : ∀ j, j ≠ i → j ≠ k → rows2[j]? = rows[j]?) : JW b m q' (some (k, h, r)) rows2 where
  len := hl
  arr := ha
  due := fun p hp => by
    obtain ⟨h1, h2, h3⟩ := hJ.due p (List.mem_cons_of_mem _ hp)
    refine ⟨h1, h2, fun hn => ?_⟩
    rw [ho p.1 (fun e => (List.pairwise_cons.1 hJ.pw).1 p hp e.symm) (hq p hp)]
    exact h3 hn
  pw := (List.pairwise_cons.1 hJ.pw).2
  cur := fun k' h' r' e => by
    cases e
    exact ⟨hk, hr, hq, hrow⟩

theorem canL_pw (x : Log) : (canL x).Pairwise (fun a c => a.1 ≠ c.1) := by
  refine List.Pairwise.filterMap _ (R := fun a c : Nat => a ≠ c) ?_ List.nodup_range
  intro a c hac p hp p' hp' he
  simp only [Option.map_eq_some_iff] at hp hp'
  obtain ⟨l, _, rfl⟩ := hp
  obtain ⟨l', _, rfl⟩ := hp'
  exact hac he

theorem canL_mem {x : Log} {p : Nat × List Sp} (h : p ∈ canL x) : p.1 < x.N ∧ p.2.length = x.bath.plates.length := by
  simp only [canL, List.mem_filterMap, Option.map_eq_some_iff] at h
  obtain ⟨i, hi, l, hl, rfl⟩ := h
  exact ⟨by simpa using hi, rustsP_len hl⟩

theorem items_can (x : Log) : itemsF x (fun i _ => rowV x.bath.plates.length i) (rowU x.bath.plates.length) = (canL x).map (itemI x.bath) := by
  simp only [itemsF, canL, List.map_filterMap]
  congr 1
  funext i
  simp only [itemAt, Option.map_map]
  rfl

theorem c49 (b : Bath) (l : List Seen) (hb : b.plates.length ≤ 4294967296) (hl : l.length ≤ 62) : PC prog 49 [.d b.d, .d (.sl (l.map Seen.d))] (wasV b l) := by
  refine PC.run (fun _ => false) tt_ok (fn := f49) (rs := [.cell 4 23, .cell 5 32, .cell 6 30]) rfl rfl rfl rfl rfl rfl rfl ?_
  simp only [go_sem, Bath.d]
  refine (c92 b l hb (by omega)).call rfl rfl rfl ?_
  simp only [go_sem, Bath.d, Log.d]
  refine Br_split (fun hc => ?_) (fun hc => ?_) <;> simp only [go_sem, hc]
  · have h0 : ¬ logE b l = 0 := by simpa using hc
    refine ADrw.treeG (fun _ => false) tt_ok (by kernel_rfl) (fun k => if k = 0 ∨ k = 1 then some .L else if k = 2 ∨ k = 3 ∨ k = 4 then some .W else some .S) (.ones [0] (.two 1 (.ones [2, 3, 4] .done) 2 (.two 1 (.ones [3, 4] .done) 3 (.ones [1, 4] .done)))) (by simp) (fun _ h => nomatch h) rfl rfl (by kernel_rfl) ?_
    simp only [go_sem]
    simp [wasV, h0, sp0, Sp.d]
  have h0 : logE b l = 0 := by simpa using hc
  have hlp : logP b l = ⟨b, l, 0⟩ := by rw [logP, if_pos h0]
  rw [hlp]
  obtain ⟨hbo, hxo⟩ := logP_ok hl h0
  have hok := hxo 0 (by omega)
  simp only [go_sem]
  refine (AWP.newrows 2 (Log.mk b l 0).N (Nat.zero_le _) ?_ : AWP _ _ _ _ _ _ _ _)
  change AWP _ _ _ _ _ _ (hS b l none (List.replicate (Log.mk b l 0).N (.arr 2 true []))) _
  have hm5 : ∀ st rows, rows.length = (Log.mk b l 0).N → (hS b l st rows).length = (Log.mk b l 0).N + 5 := fun st rows h => by cases st <;> simp [hS, hW, h]
  have hlen0 : (hS b l none (List.replicate (Log.mk b l 0).N (.arr 2 true []))).length = (Log.mk b l 0).N + 5 := hm5 _ _ (by simp)
  refine ARng.iterU (items := (canL ⟨b, l, 0⟩).map (itemI b)) (J := fun rest Hc => ∃ q st rows, rest = q.map (itemI b) ∧ Hc = hS b l st rows ∧ JW b (Log.mk b l 0).N q st rows ∧ q.foldl wasS st = wasO ⟨b, l, 0⟩)
    (Nat.zero_le _) (fun _ h => nomatch h) rfl ?_ rfl (by rw [hlen0]; simp [VBs, VB]) ?_ ?_ ?_ ?_ ?_ ?_
  · refine cast (congrArg _ (items_can ⟨b, l, 0⟩)) (c93 hok _ _ ?_ ?_)
    · intro i r H hi hr hu
      simp only [rowV]
      split
      · rfl
      · rename_i hn
        simp only [rowU, if_neg hn] at hu
        simpa [VB] using uOk_lt hu
    · intro i r H Q hi hr hu hq
      have hstr : 0 ≤ b.str.lo + i ∧ b.str.lo + i ≤ 40 := by
        obtain ⟨s1, s2, s3, _, _⟩ := hbo
        simp only [Log.N] at hi
        omega
      have hrl := rustsP_len hr
      by_cases hn : b.plates.length = 0
      · have hr0 : r = [] := List.length_eq_zero_iff.1 (by rw [hrl]; exact hn)
        simp only [rowV, rowU, if_pos hn, upd] at hq
        refine (c115 hok hstr).call rfl rfl (by simp only [rustsV, hr]; rfl) ?_
        simp only [rustsV, hr, hr0, List.map_nil]
        exact hq
      · simp only [rowV, rowU, if_neg hn, upd] at hq hu
        have hr1 := r115 hok hstr
        have hB : rB ⟨b, l, 0⟩ (b.str.lo + i) = [boxX ⟨b, l, 0⟩] ++ [.arr 2 false (r.map Sp.d)] := by simp only [rB, hr, hn, decide_false]; rfl
        have hV : rV ⟨b, l, 0⟩ (b.str.lo + i) = .tup [.ref 1 b.plates.length 0 b.plates.length, .d (.bool true)] := by simp only [rV, hr]
        rw [hB, hV] at hr1
        exact PCr.into hr1 hu.1 hu.2 rfl rfl rfl hq
  · rintro rest Hc ⟨q, st, rows, rfl, rfl, hJ, _⟩
    refine ⟨?_, ?_⟩
    · rw [hm5 _ _ hJ.len, hlen0]
    · rw [hlen0]
      have hba : ∀ k, BBs k rows := fun k => BBs_arr hJ.arr
      cases st with
      | none => simp [hS, hW, BBs, BB, VBs, VB, hba]
      | some p =>
        obtain ⟨k, h, r⟩ := p
        have hk := (hJ.cur k h r rfl).1
        have hv : VB ((Log.mk b l 0).N + 5) (rowV b.plates.length k) = true := by
          simp only [rowV]
          split
          · rfl
          · simp [VB, hk]
        simp [hS, hW, BBs, BB, VBs, VB, hba, hv]
  · refine ⟨canL ⟨b, l, 0⟩, none, List.replicate (Log.mk b l 0).N (.arr 2 true []), rfl, rfl, ⟨by simp, fun x hx => by rw [List.eq_of_mem_replicate hx]; rfl, fun p hp => ?_, canL_pw _, fun k h r he => by cases he⟩, rfl⟩
    obtain ⟨h1, h2⟩ := canL_mem hp
    exact ⟨h1, h2, fun _ => by rw [List.getElem?_replicate, if_pos h1]⟩
  · rintro Hc ⟨q, st, rows, hq, rfl, hJ, hfo⟩
    obtain rfl : q = [] := by simpa using hq.symm
    simp only [List.foldl_nil] at hfo
    subst hfo
    simp only [go_sem]
    refine ADrw.treeG (fun _ => false) tt_ok (by kernel_rfl) (fun k => if k = 0 ∨ k = 1 ∨ k = 2 then some .L else if k = 3 ∨ k = 4 ∨ k = 5 then some .W else some .S)
      (.ones [0] (.three 1 (.two 2 (.ones [3, 4, 5] .done) 3 (.two 2 (.ones [4, 5] .done) 4 (.ones [2, 5] .done))) 2 (.two 1 (.ones [3, 4, 5] .done) 3 (.ones [1, 4, 5] .done)) 3 (.two 1 (.two 2 (.ones [4, 5] .done) 4 (.ones [2, 5] .done)) 2 (.ones [1, 4, 5] .done)))) (Nat.zero_le _) (fun _ h => nomatch h) rfl rfl (by kernel_rfl) ?_
    cases hw : wasO ⟨b, l, 0⟩ with
    | none =>
      simp only [go_sem, hS, hW]
      simp [wasV, h0, hw, sp0, Sp.d]
    | some p =>
      obtain ⟨k, h, r⟩ := p
      obtain ⟨k1, k2, k3, k4⟩ := hJ.cur k h r hw
      by_cases hn : b.plates.length = 0
      · have hr0 : r = [] := List.length_eq_zero_iff.1 (by omega)
        simp only [go_sem, hS, hW, rowV, if_pos hn]
        simp [wasV, h0, hw, hr0, Sp.d]
      · have hk4 := k4 hn
        have htk : (r.map Sp.d).take b.plates.length = r.map Sp.d := List.take_of_length_le (by simp [k2])
        simp only [go_sem, hS, hW, rowV, if_neg hn, hk4, k2, htk, List.length_map, Nat.not_lt_zero]
        simp [wasV, h0, hw, Sp.d]
  · intro xs has
    obtain ⟨p, _, rfl⟩ := List.mem_map.1 has
    rfl
  · rintro xs rest Hc has ⟨q, st, rows, hq, rfl, hJ, hfo⟩
    obtain ⟨p, q', rfl⟩ : ∃ p q', q = p :: q' := by cases q with
      | nil => cases hq
      | cons p r => exact ⟨p, r, rfl⟩
    obtain ⟨rfl, rfl⟩ : xs = itemI b p ∧ rest = q'.map (itemI b) := by simpa using hq
    obtain ⟨k1, k2, k3⟩ := hJ.due p List.mem_cons_self
    simp only [itemI, rowU]
    split
    · trivial
    · rename_i hn
      refine ⟨?_, fun e => hn (by rw [← k2]; simpa using e)⟩
      have := k3 hn
      cases st <;> simpa [hS, hW] using this
  · rintro L L' xs rest Hc has ⟨q, st, rows, hq, rfl, hJ, hfo⟩
    obtain ⟨p, q', rfl⟩ : ∃ p q', q = p :: q' := by cases q with
      | nil => cases hq
      | cons p r => exact ⟨p, r, rfl⟩
    obtain ⟨rfl, rfl⟩ : xs = itemI b p ∧ rest = q'.map (itemI b) := by simpa using hq
    obtain ⟨i, now⟩ := p
    obtain ⟨k1, k2, k3⟩ := hJ.due (i, now) List.mem_cons_self
    simp only at k1 k2 k3
    rw [hlen0]
    refine AWP.run (fun _ => false) tt_ok (fun _ h => by cases h; exact Nat.lt_succ_self _) ?_ rfl ?_
    · simp only [itemI, List.length_append, upd_len, hm5 st rows hJ.len, List.length_singleton]
      exact Nat.le_refl _
    -- the row that was filled
    obtain ⟨rows1, hr1, hr1l, hr1a, hr1i, hr1o⟩ : ∃ rows1, upd (itemI b (i, now)).2 (hS b l st rows) = hS b l st rows1 ∧ rows1.length = (Log.mk b l 0).N ∧ (∀ x ∈ rows1, isArr x = true) ∧ (b.plates.length ≠ 0 → rows1[i]? = some (.arr 2 false (now.map Sp.d))) ∧ (∀ j, j ≠ i → rows1[j]? = rows[j]?) := by
      by_cases hn : b.plates.length = 0
      · exact ⟨rows, by simp only [itemI, rowU, if_pos hn, upd], hJ.len, hJ.arr, fun h => absurd hn h, fun _ _ => rfl⟩
      · refine ⟨rows.set i (.arr 2 false (now.map Sp.d)), ?_, by simp [hJ.len], fun x hx => ?_, fun _ => ?_, fun j hj => ?_⟩
        · simp only [itemI, rowU, if_neg hn, upd]
          cases st <;> rfl
        · rcases List.mem_or_eq_of_mem_set hx with hx | rfl
          · exact hJ.arr x hx
          · rfl
        · rw [List.getElem?_set_self (by rw [hJ.len]; exact k1)]
        · rw [List.getElem?_set_ne (fun e => hj e.symm)]
    rw [hr1]
    simp only [go_sem, itemI]
    have hL : (hS b l st rows1 ++ [L])[(Log.mk b l 0).N + 5]? = some L := by rw [List.getElem?_append_right (by rw [hm5 _ _ hr1l]; exact Nat.le_refl _), hm5 _ _ hr1l, Nat.sub_self]; rfl
    refine ⟨hL, ?_⟩
    have hset : (hS b l st rows1 ++ [L]).set ((Log.mk b l 0).N + 5) L' = hS b l st rows1 ++ [L'] := by rw [List.set_append_right _ _ (by rw [hm5 _ _ hr1l]; exact Nat.le_refl _), hm5 _ _ hr1l, Nat.sub_self]; rfl
    rw [hset]
    generalize (Log.mk b l 0).N = m at *
    have hnB : b.plates.length ≤ 5 := hbo.2.2.2.1
    refine AWP.run (fun _ => false) tt_ok (fun _ h => by cases h; omega) (by rw [List.length_append, hm5 _ _ hr1l]; exact Nat.le_refl _) rfl ?_
    simp only [List.foldl_cons] at hfo
    have hpw' := hJ.pw
    rw [List.pairwise_cons] at hpw'
    have hnx : ∀ p : Nat, p < 10 → IntKind.i64.wrap ((p : Int) + 1) = ((p + 1 : Nat) : Int) := fun p hp => w64 (by omega) (by omega)
    have hgm : ∀ rows2 : Heap, rows2.length = m → (rows2 ++ [L'])[m]? = some L' := fun rows2 h => by rw [List.getElem?_append_right (by omega), h, Nat.sub_self]; rfl
    have hgr : ∀ (rows2 : Heap) (j : Nat), rows2.length = m → j < m → (rows2 ++ [L'])[j]? = rows2[j]? := fun rows2 j h hj => List.getElem?_append_left (by omega)
    have hsr : ∀ (rows2 : Heap) (j : Nat) (X : Blk), rows2.length = m → j < m → (rows2 ++ [L']).set j X = rows2.set j X ++ [L'] := fun rows2 j X h hj => List.set_append_left _ _ (by omega)
    have htk : ∀ rows2 : Heap, rows2.length = m → (rows2 ++ [L']).take m = rows2 := fun rows2 h => by rw [← h]; simp
    cases st with
    | none =>
      by_cases hn : b.plates.length = 0
      · have hnow : now = [] := List.length_eq_zero_iff.1 (by omega)
        simp only [go_sem, hS, hW, rowV, if_pos hn]
        refine ALoop.by (S := Nat) (fun p => [(35, .d (.int .i64 p)), (34, .d (.int .i64 0)), (6, .ptr 3 0), (5, .ptr 2 0), (4, .ptr 1 0)])
          (fun _ => hW b l (b.str.lo + i) (b.str.lo + i) (.d (.sl [])) 0 (rows1 ++ [L'])) (fun p => 0) (fun p => True) 0 (by simp [hr1l]) (fun _ h => by cases h; omega) trivial ?_ ?_
        · exact ForgetTo.same' (by simp [hr1l]) (by simp [EWe, Env.look]) (by simp [hW])
        rintro p hp hn2
        refine AWP.run (fun _ => false) tt_ok (fun _ h => by cases h; omega) hn2 rfl ?_
        have hd : decide ((p : Int) < 0) = false := by simp
        simp only [go_sem, hd, hW, hgm _ hr1l, htk _ hr1l]
        refine ⟨BBs_arr hr1a, q', some (i, i, now), rows1, rfl, rfl, hJ.next hr1l hr1a k1 k2 (fun p hp e => hpw'.1 p hp e.symm) hr1i (fun j h1 _ => hr1o j h1), hfo⟩
      · have hgi : (rows1 ++ [L'])[i]? = some (.arr 2 false (now.map Sp.d)) := by rw [hgr _ _ hr1l k1]; exact hr1i hn
        simp only [go_sem, hS, hW, rowV, if_neg hn, hgi, List.length_map, k2]
        refine ALoop.by (S := Nat) (fun p => [(35, .d (.int .i64 p)), (34, .d (.int .i64 b.plates.length)), (9, .ref (i + 5) b.plates.length 0 b.plates.length), (6, .ptr 3 0), (5, .ptr 2 0), (4, .ptr 1 0)])
          (fun _ => hW b l (b.str.lo + i) (b.str.lo + i) (.ref (i + 5) b.plates.length 0 b.plates.length) 0 (rows1 ++ [L'])) (fun p => b.plates.length - p) (fun p => p ≤ b.plates.length) 0 (by simp [hr1l]) (fun _ h => by cases h; omega) (Nat.zero_le _) ?_ ?_
        · exact ForgetTo.same' (by simp [hr1l]) (by simp [EWe, Env.look]) (by simp [hW])
        rintro p hp hn2
        refine AWP.run (fun _ => false) tt_ok (fun _ h => by cases h; omega) hn2 rfl ?_
        simp only [go_sem]
        refine Br_split (fun hd => ?_) (fun hd => ?_) <;> simp only [go_sem, hd]
        · have hlt : p < b.plates.length := by simpa using hd
          have hge : (now.map Sp.d)[p]? = some (now[p]).d := by rw [List.getElem?_map, List.getElem?_eq_getElem (by omega)]; rfl
          have hse : (now.map Sp.d).set p (now[p]).d = now.map Sp.d := by
            rw [← List.map_set]; congr 1; exact List.set_getElem_self _
          have hsb : (rows1 ++ [L']).set i (.arr 2 false (now.map Sp.d)) = rows1 ++ [L'] := set_same hgi
          generalize now[p] = a at hge hse
          have c1 : (0 : Int) ≤ (p : Int) := by omega
          have c2 : (p : Int) < (b.plates.length : Int) := by omega
          simp only [go_sem, hW]
          refine ADrw.treeG (fun _ => false) tt_ok (by kernel_rfl) (fun k => if k = 0 ∨ k = 2 ∨ k = 4 ∨ k = 5 ∨ k = 8 ∨ k = 9 ∨ k = 11 then some .L else if k = 12 then some .W else some .S) (.ones [0, 1, 2, 3, 4, 5, 6, 7, 8, 9, 10, 11, 12] .done) (by simp [hr1l]) (fun _ h => by cases h; omega) rfl rfl (by kernel_rfl) ?_
          simp only [go_sem, hgi, hge, List.length_map, k2, c1, c2, Int.toNat_natCast, Sp.d]
          refine (c94 a a).callS rfl rfl rfl rfl rfl rfl ?_
          rw [both_self]
          have hse' : (now.map Sp.d).set p (.agg [.int .i64 a.lo, .int .i64 a.hi]) = now.map Sp.d := hse
          simp only [go_sem, hgi, hge, List.length_map, k2, c1, c2, Int.toNat_natCast, Sp.d, hsb, hse']
          refine ⟨p + 1, hlt, by omega, ?_⟩
          exact ForgetTo.same' (by simp [hr1l]) (by simp [EWe, Env.look, hnx p (by omega)]) (by simp [hW, hsb])
        · have hpe : p = b.plates.length := by simp at hd; omega
          simp only [go_sem, hW, hgm _ hr1l, htk _ hr1l]
          refine ⟨⟨by omega, BBs_arr hr1a⟩, q', some (i, i, now), rows1, rfl, rfl, hJ.next hr1l hr1a k1 k2 (fun p hp e => hpw'.1 p hp e.symm) hr1i (fun j h1 _ => hr1o j h1), hfo⟩
    | some st0 =>
      obtain ⟨k, h, r⟩ := st0
      obtain ⟨j1, j2, j3, j4⟩ := hJ.cur k h r rfl
      have hik : i ≠ k := j3 (i, now) List.mem_cons_self
      by_cases hn : b.plates.length = 0
      · have hnow : now = [] := List.length_eq_zero_iff.1 (by omega)
        have hr : r = [] := List.length_eq_zero_iff.1 (by omega)
        subst hnow
        subst hr
        simp only [go_sem, hS, hW, rowV, if_pos hn]
        refine ALoop.by (S := Nat) (fun p => [(35, .d (.int .i64 p)), (34, .d (.int .i64 0)), (6, .ptr 3 0), (5, .ptr 2 0), (4, .ptr 1 0)])
          (fun _ => hW b l (b.str.lo + k) (b.str.lo + i) (.d (.sl [])) 0 (rows1 ++ [L'])) (fun p => 0) (fun p => True) 0 (by simp [hr1l]) (fun _ h => by cases h; omega) trivial ?_ ?_
        · exact ForgetTo.same' (by simp [hr1l]) (by simp [EWe, Env.look]) (by simp [hW])
        rintro p hp hn2
        refine AWP.run (fun _ => false) tt_ok (fun _ h => by cases h; omega) hn2 rfl ?_
        have hd : decide ((p : Int) < 0) = false := by simp
        simp only [go_sem, hd, hW, hgm _ hr1l, htk _ hr1l]
        refine ⟨BBs_arr hr1a, q', some (k, i, []), rows1, rfl, by simp only [hS, hW, rowV, if_pos hn], hJ.next hr1l hr1a j1 j2 (fun p hp => j3 p (List.mem_cons_of_mem _ hp)) (fun h => absurd hn h) (fun j h1 _ => hr1o j h1), hfo⟩
      · have hrk : rows1[k]? = some (.arr 2 false (r.map Sp.d)) := by rw [hr1o k (fun e => hik e.symm)]; exact j4 hn
        have hlr : now.length = r.length := by omega
        have hgi : (rows1 ++ [L'])[i]? = some (.arr 2 false (now.map Sp.d)) := by rw [hgr _ _ hr1l k1]; exact hr1i hn
        simp only [go_sem, hS, hW, rowV, if_neg hn, hgi, List.length_map, k2]
        refine ALoop.by (S := Nat) (fun p => [(35, .d (.int .i64 p)), (34, .d (.int .i64 b.plates.length)), (9, .ref (i + 5) b.plates.length 0 b.plates.length), (6, .ptr 3 0), (5, .ptr 2 0), (4, .ptr 1 0)])
          (fun p => hW b l (b.str.lo + k) (b.str.lo + i) (.ref (k + 5) b.plates.length 0 b.plates.length) 0 (rows1.set k (.arr 2 false ((mixR r now p).map Sp.d)) ++ [L'])) (fun p => b.plates.length - p) (fun p => p ≤ b.plates.length) 0 (by simp [hr1l]) (fun _ h => by cases h; omega) (Nat.zero_le _) ?_ ?_
        · exact ForgetTo.same' (by simp [hr1l]) (by simp [EWe, Env.look]) (by rw [mixR_zero, set_same hrk]; simp [hW])
        rintro p hp hn2
        have hrpl : (rows1.set k (.arr 2 false ((mixR r now p).map Sp.d))).length = m := by simp [hr1l]
        refine AWP.run (fun _ => false) tt_ok (fun _ h => by cases h; omega) hn2 rfl ?_
        simp only [go_sem]
        refine Br_split (fun hd => ?_) (fun hd => ?_) <;> simp only [go_sem, hd]
        · have hlt : p < b.plates.length := by simpa using hd
          have hgk : (rows1.set k (.arr 2 false ((mixR r now p).map Sp.d)) ++ [L'])[k]? = some (.arr 2 false ((mixR r now p).map Sp.d)) := by rw [hgr _ _ hrpl j1, List.getElem?_set_self (by omega)]
          have hgi2 : (rows1.set k (.arr 2 false ((mixR r now p).map Sp.d)) ++ [L'])[i]? = some (.arr 2 false (now.map Sp.d)) := by rw [hgr _ _ hrpl k1, List.getElem?_set_ne (fun e => hik e.symm)]; exact hr1i hn
          have hge : (now.map Sp.d)[p]? = some (now[p]).d := by rw [List.getElem?_map, List.getElem?_eq_getElem (by omega)]; rfl
          have hgf : ((mixR r now p).map Sp.d)[p]? = some (r[p]).d := by rw [List.getElem?_map, mixR_get hlr (by omega)]; rfl
          have hml : (mixR r now p).length = b.plates.length := by rw [mixR_len hlr (by omega)]; exact j2
          have hse : ((mixR r now p).map Sp.d).set p (both r[p] now[p]).d = (mixR r now (p + 1)).map Sp.d := by rw [← List.map_set, mixR_set hlr (by omega)]
          have hsb : ∀ X : Blk, (rows1.set k (.arr 2 false ((mixR r now p).map Sp.d)) ++ [L']).set k X = rows1.set k X ++ [L'] := fun X => by rw [hsr _ _ _ hrpl j1, List.set_set]
          generalize now[p] = a at hge hse
          generalize r[p] = a2 at hgf hse
          have c1 : (0 : Int) ≤ (p : Int) := by omega
          have c2 : (p : Int) < (b.plates.length : Int) := by omega
          simp only [go_sem, hW]
          refine ADrw.treeG (fun _ => false) tt_ok (by kernel_rfl) (fun k => if k = 0 ∨ k = 2 ∨ k = 4 ∨ k = 5 ∨ k = 8 ∨ k = 9 ∨ k = 11 then some .L else if k = 12 then some .W else some .S) (.ones [0, 1, 2, 3, 4, 5, 6, 7, 8, 9, 10, 11, 12] .done) (by simp [hr1l]) (fun _ h => by cases h; omega) rfl rfl (by kernel_rfl) ?_
          simp only [go_sem, hgi2, hgk, hge, hgf, hml, List.length_map, k2, c1, c2, Int.toNat_natCast, Sp.d]
          refine (c94 a2 a).callS rfl rfl rfl rfl rfl rfl ?_
          have hse' : ((mixR r now p).map Sp.d).set p (.agg [.int .i64 (both a2 a).lo, .int .i64 (both a2 a).hi]) = (mixR r now (p + 1)).map Sp.d := hse
          simp only [go_sem, hgi2, hgk, hge, hgf, hml, List.length_map, k2, c1, c2, Int.toNat_natCast, Sp.d, hsb, hse']
          refine ⟨p + 1, hlt, by omega, ?_⟩
          exact ForgetTo.same' (by simp [hr1l]) (by simp [EWe, Env.look, hnx p (by omega)]) (by simp [hW, hsb])
        · have hpe : p = b.plates.length := by simp at hd; omega
          have hme : mixR r now p = List.zipWith both r now := by rw [hpe, ← j2, mixR_end hlr]
          have hzl : (List.zipWith both r now).length = b.plates.length := by simp [hlr, j2]
          rw [hme] at hrpl ⊢
          simp only [go_sem, hW, hgm _ hrpl, htk _ hrpl]
          refine ⟨⟨by omega, BBs_arr (fun x hx => ?_)⟩, q', some (k, i, List.zipWith both r now), _, rfl, by simp only [hS, hW, rowV, if_neg hn], hJ.next hrpl (fun x hx => ?_) j1 hzl (fun p hp => j3 p (List.mem_cons_of_mem _ hp)) (fun _ => List.getElem?_set_self (by omega)) (fun j h1 h2 => ?_), hfo⟩
          · rcases List.mem_or_eq_of_mem_set hx with hx | rfl
            · exact hr1a x hx
            · rfl
          · rcases List.mem_or_eq_of_mem_set hx with hx | rfl
            · exact hr1a x hx
            · rfl
          · rw [List.getElem?_set_ne (fun e => h2 e.symm)]; exact hr1o j h1
end Go.Aw
end

section
set_option maxRecDepth 100000
namespace Go.Aw
open Go Go.Proofs.Try

/-- All sets of so many numbers, from some of them on: the next k numbers from n on may be in it. -/
def subsF (many : Nat) : Nat → List Nat → Nat → Nat → List (List Nat × Nat)
  | 0, _, _, _ => []
  | k + 1, l, set, n => (if (l ++ [n]).length = many then [(l ++ [n], set ||| 2 ^ n)] else subsF many k (l ++ [n]) (set ||| 2 ^ n) (n + 1)) ++ subsF many k l set (n + 1)

def onF' (many k : Nat) (l : List Nat) (set n : Nat) : List (List Nat × Nat) := if l.length = many then [(l, set)] else subsF many k l set n

theorem subsF_succ (many k : Nat) (l : List Nat) (set n : Nat) : subsF many (k + 1) l set n = onF' many k (l ++ [n]) (set ||| 2 ^ n) (n + 1) ++ subsF many k l set (n + 1) := rfl

def setsP (below many : Nat) : List (List Nat × Nat) := onF' many below [] 0 0

def setI (p : List Nat × Nat) : List V := [.d (.sl (natsD p.1)), .d (.int .i64 p.2)]

def setV (below many : Nat) : V := .fn (.func 116) [] [.pp [.int .i64 many], .pp [.int .i64 below]]

theorem c95 (below many : Nat) : PC prog 95 [.d (.int .i64 below), .d (.int .i64 many)] (setV below many) := by
  refine PC.run (fun _ => false) tt_ok (fn := f95) (rs := [.tmp 4]) rfl rfl rfl rfl rfl rfl rfl ?_
  simp only [go_sem, setV]

section
variable {yv : V} {n : Nat} {I : List (List V) → Heap → Prop} {Q : V → Heap → Prop} {below many : Nat}

def onW (n below many : Nat) : V := .fn (.func 117) [] [.pp [.int .i64 many], .ptr n 0, .pp [.int .i64 below], .ptr (n + 1) 0]

def SPost (yv : V) (n below many : Nat) (I : List (List V) → Heap → Prop) (Q : V → Heap → Prop) (rest : List (List V)) (v : V) (H' : Heap) : Prop :=
  ∃ H1, H' = H1 ++ [.cells [yv], .cells [onW n below many]] ∧ H1.length = n ∧ BBs n H1 ∧ ((v = .d (.bool true) ∧ I rest H1) ∨ (v = .d (.bool false) ∧ Q (.tup []) H1))

theorem c117 (hb : below ≤ 60) (hf : ∃ f x y, yv = .fn f x y) (hyv : VB n yv = true) (hI : ∀ l H, I l H → H.length = n ∧ BBs n H)
    (hy : ∀ a r H, I (a :: r) H → ACallV prog yv a H (fun v H' => (v = .d (.bool true) ∧ I r H') ∨ (v = .d (.bool false) ∧ H'.length = n ∧ BBs n H' ∧ Q (.tup []) H'))) :
    ∀ (k : Nat) (l : List Nat) (set first : Nat) (rest : List (List V)) (H : Heap), first + k = below → l.length ≤ first → set < 2 ^ first → I ((onF' many k l set first).map setI ++ rest) H →
      ACalls prog 117 [.d (.sl (natsD l)), .d (.int .i64 set), .d (.int .i64 first), .pp [.int .i64 many], .ptr n 0, .pp [.int .i64 below], .ptr (n + 1) 0] (H ++ [.cells [yv], .cells [onW n below many]]) (SPost yv n below many I Q rest) := by
  obtain ⟨f, x, y, rfl⟩ := hf
  intro k
  induction k using Nat.strongRecOn with
  | ind k ih =>
    intro l set first rest H hk hlf hset hi
    have hHl := (hI _ _ hi).1
    have hHb := (hI _ _ hi).2
    have hyn : ∀ H1 : Heap, H1.length = n → BBs n H1 → BBs (n + 2) (H1 ++ [.cells [.fn f x y], .cells [onW n below many]]) := fun H1 h1 h2 =>
      BBs_append (BBs_le (by omega) h2) ⟨by simp only [BB, VBs, Bool.and_true]; exact VB_le (by omega) _ hyv, by simp [BB, VBs, VB, onW], trivial⟩
    have hl62 : l.length ≤ 60 := by omega
    have hs62 : set < 2 ^ 62 := Nat.lt_of_lt_of_le hset (Nat.pow_le_pow_right (by omega) (by omega))
    refine ACalls.run (fun _ => false) tt_ok (fn := f117) (rs := [.tmp 10]) rfl rfl rfl rfl rfl rfl rfl ?_
    have hHn : (H ++ [Blk.cells [.fn f x y], Blk.cells [onW n below many]]).length = n + 2 := by simp [hHl]
    simp only [go_sem, hyl hHl, natsD_len]
    rw [hHn]
    refine Br_split (fun hc => ?_) (fun hc => ?_) <;> simp only [go_sem, hyl hHl, hc, hy0 hHl]
    · have hlm : l.length = many := by simp only [decide_eq_true_eq] at hc; omega
      rw [onF', if_pos hlm] at hi
      refine (yield_frame hyv hI hy (r := rest) [.cells [.fn f x y], .cells [onW n below many]] rfl hi).mono ?_
      rintro v H' ⟨H1, rfl, k1, k2, k3⟩
      have ht : (H1 ++ [Blk.cells [V.fn f x y], Blk.cells [onW n below many]]).take (n + 2) = H1 ++ [Blk.cells [V.fn f x y], Blk.cells [onW n below many]] := List.take_of_length_le (by simp [k1])
      rcases k3 with ⟨rfl, k3⟩ | ⟨rfl, k3⟩
      · simp only [go_sem, ht, hHl]
        exact ⟨.inr (hyn H1 k1 k2), H1, rfl, k1, k2, .inl ⟨rfl, k3⟩⟩
      · simp only [go_sem, ht, hHl]
        exact ⟨.inr (hyn H1 k1 k2), H1, rfl, k1, k2, .inr ⟨rfl, k3⟩⟩
    · have hlm : ¬ l.length = many := by simp only [decide_eq_false_iff_not] at hc; omega
      rw [onF', if_neg hlm] at hi
      refine ALoop.by (S := Nat × Heap) (fun s => [(11, .d (.int .i64 (first + s.1 : Nat))), (6, .ptr (n + 1) 0), (5, .pp [.int .i64 below]), (4, .ptr n 0), (3, .pp [.int .i64 many]), (1, .d (.int .i64 set)), (0, .d (.sl (natsD l)))])
        (fun s => s.2 ++ [.cells [.fn f x y], .cells [onW n below many]]) (fun s => k - s.1) (fun s => s.1 ≤ k ∧ I ((subsF many (k - s.1) l set (first + s.1)).map setI ++ rest) s.2) (0, H) (by simp [hHl]) (fun _ h => nomatch h) ⟨Nat.zero_le _, hi⟩ ?_ ?_
      · exact ForgetTo.same' (by simp [hHl]) (by simp [EWe, Env.look]) (by simp)
      rintro ⟨j, Hc⟩ ⟨hj, hI0⟩ hn2
      simp only at hj hI0 hn2 ⊢
      have hcl := (hI _ _ hI0).1
      have hcb := (hI _ _ hI0).2
      refine AWP.run (fun _ => false) tt_ok (fun _ h => nomatch h) (by simp [hcl]) rfl ?_
      simp only [go_sem]
      refine Br_split (fun hd => ?_) (fun hd => ?_) <;> simp only [go_sem, hd]
      · have hlt : j < k := by simp only [decide_eq_true_eq] at hd; omega
        obtain ⟨k', hk'⟩ : ∃ k', k - j = k' + 1 := ⟨k - j - 1, by omega⟩
        rw [hk', subsF_succ, List.map_append, List.append_assoc] at hI0
        have hpw : 2 ^ (first + j) < 2 ^ 62 := Nat.pow_lt_pow_right (by omega) (by omega)
        have hor : orI .i64 (set : Nat) ((2 ^ (first + j) : Nat) : Int) = ((set ||| 2 ^ (first + j) : Nat) : Int) := orN (by omega) (by omega)
        have hnx : IntKind.i64.wrap (((first + j : Nat) : Int) + 1) = ((first + j + 1 : Nat) : Int) := by rw [w64 (by omega) (by omega)]; omega
        have hset2 : set ||| 2 ^ (first + j) < 2 ^ (first + j + 1) := bit_lt (Nat.lt_of_lt_of_le hset (Nat.pow_le_pow_right (by omega) (by omega)))
        have hsz := sized_nats l
        have hle : l.length + 1 ≤ 4294967296 := by omega
        refine ADrw.treeG (fun _ => false) tt_ok (by kernel_rfl) (fun k => if k = 0 then some .L else if k = 12 then none else some .S) (.ones [0, 1, 2, 3, 4, 5, 6, 7, 8, 9, 10, 11] (.only 12 (.one 13 .done))) (by simp [hcl]) (fun _ h => nomatch h) rfl rfl (by kernel_rfl) ?_
        simp only [go_sem, hy1 hcl, onW]
        refine (c111 (natsD l) (sized_nats l)).callS rfl rfl rfl rfl rfl rfl ?_
        simp only [go_sem, hy1 hcl, onW, hsz, hle, natsD_len, shlN (show first + j < 63 by omega), hor, hnx]
        have happ : natsD l ++ [.int .i64 ((first + j : Nat) : Int)] = natsD (l ++ [first + j]) := by simp [natsD]
        rw [happ]
        have hc2 := ih k' (by omega) (l ++ [first + j]) (set ||| 2 ^ (first + j)) (first + j + 1) _ Hc (by omega) (by simp; omega) hset2 hI0
        refine ACallV.of rfl (ACalls.mono hc2 ?_)
        rintro v H' ⟨H1, rfl, k1, k2, k3⟩
        have ht : (H1 ++ [Blk.cells [V.fn f x y], Blk.cells [onW n below many]]).take (n + 2) = H1 ++ [Blk.cells [V.fn f x y], Blk.cells [onW n below many]] := List.take_of_length_le (by simp [k1])
        rcases k3 with ⟨rfl, k3⟩ | ⟨rfl, k3⟩
        · simp only [go_sem]
          refine ⟨(j + 1, H1), ⟨hlt, ?_⟩, by simp only; omega, ?_⟩
          · rw [show k - (j + 1) = k' by omega]; exact k3
          · exact ForgetTo.same' (by simp [k1]) (by simp [EWe, Env.look]; rw [w64 (by omega) (by omega)]; omega) rfl
        · simp only [go_sem, ht]
          exact ⟨.inr (hyn H1 k1 k2), H1, rfl, k1, k2, .inr ⟨rfl, k3⟩⟩
      · have hje : j = k := by simp only [decide_eq_false_iff_not] at hd; omega
        subst hje
        rw [Nat.sub_self] at hI0
        simp only [subsF, List.map_nil, List.nil_append] at hI0
        have ht : (Hc ++ [Blk.cells [V.fn f x y], Blk.cells [onW n below many]]).take (n + 2) = Hc ++ [Blk.cells [V.fn f x y], Blk.cells [onW n below many]] := List.take_of_length_le (by simp [hcl])
        rw [ht]
        exact ⟨.inr (hyn Hc hcl hcb), Hc, rfl, hcl, hcb, .inl ⟨rfl, hI0⟩⟩
end

theorem c116 {below many : Nat} (hb : below ≤ 60) : Iter prog (setV below many) ((setsP below many).map setI) := by
  intro yv n I Q hf hyv hI hy hend H hH
  have hHl := (hI _ _ hH).1
  have hHb := (hI _ _ hH).2
  have hf' := hf
  obtain ⟨f, x, y, rfl⟩ := hf'
  refine ACallV.of rfl ?_
  refine ACalls.run (fun _ => false) tt_ok (fn := f116) (rs := []) rfl rfl rfl rfl rfl rfl rfl ?_
  simp only [go_sem, hyl hHl, hy0 hHl, hy1 hHl, hs1 hHl, List.append_assoc]
  rw [hHl]
  have hc := c117 (below := below) (many := many) hb hf hyv hI hy below [] 0 0 [] H (by omega) (Nat.le_refl _) (by simp) (by rw [List.append_nil]; exact hH)
  refine ACallV.of rfl (ACalls.dz (ACalls.mono hc ?_))
  rintro v H' ⟨H1, rfl, k1, k2, k3⟩
  have hq : Q (.tup []) H1 := by
    rcases k3 with ⟨_, k3⟩ | ⟨_, k3⟩
    · exact hend _ k3
    · exact k3
  simp only [go_sem, htk k1]
  exact ⟨.inr k2, hq⟩
end Go.Aw
end

section
set_option maxRecDepth 100000
namespace Go.Aw
open Go Go.Proofs.Try

theorem subsF_mem (many : Nat) : ∀ (k : Nat) (l : List Nat) (set n : Nat), set < 2 ^ n → ∀ p ∈ subsF many k l set n, p.1.length = many ∧ p.2 < 2 ^ (n + k)
  | 0, l, set, n, hs, p, hp => by simp [subsF] at hp
  | k + 1, l, set, n, hs, p, hp => by
    have h2 : set ||| 2 ^ n < 2 ^ (n + 1) := bit_lt hs
    rw [subsF_succ, List.mem_append] at hp
    rcases hp with hp | hp
    · unfold onF' at hp
      split at hp
      · rename_i h
        simp only [List.mem_singleton] at hp
        subst hp
        exact ⟨h, Nat.lt_of_lt_of_le h2 (Nat.pow_le_pow_right (by omega) (by omega))⟩
      · have := subsF_mem many k _ _ _ h2 p hp
        rw [show n + (k + 1) = n + 1 + k by omega]; exact this
    · have := subsF_mem many k l set (n + 1) (Nat.lt_of_lt_of_le hs (Nat.pow_le_pow_right (by omega) (by omega))) p hp
      rw [show n + (k + 1) = n + 1 + k by omega]; exact this

theorem setsP_mem {below many : Nat} {p : List Nat × Nat} (hp : p ∈ setsP below many) : p.1.length = many ∧ p.2 < 2 ^ below := by
  unfold setsP onF' at hp
  split at hp
  · rename_i h
    simp only [List.mem_singleton] at hp
    subst hp
    exact ⟨h, Nat.two_pow_pos _⟩
  · have := subsF_mem many below [] 0 0 (by simp) p hp
    simpa using this

/-- Can the bath have been filled at all, if some things seen are wrong? -/
def fitsB (b : Bath) (l : List Seen) (w : Nat) : Bool := !(canL ⟨b, l, w⟩).isEmpty

def wrongF (b : Bath) (l : List Seen) : Option (List Nat × Nat) := ((List.range (l.length + 1)).flatMap (setsP l.length)).find? fun p => fitsB b l p.2

def wrongV (b : Bath) (l : List Seen) : V :=
  if logE b l = 0 then (match wrongF b l with | none => .tup [.slx (some true) [], .d (.int .i64 9)] | some p => if p.1 = [] then .tup [.slx (some true) [], .d (.int .i64 6)] else .tup [.d (.sl (natsD p.1)), .d (.int .i64 0)])
  else .tup [.slx (some true) [], .d (.int .i64 (logE b l))]

/-- The heap of Wrong. -/
def hG (b : Bath) (l : List Seen) (w : Nat) (v : V) (e : Int) : Heap :=
  [.cells [.d (.int .i64 b.str.lo), .d (.int .i64 b.str.hi), .d (.sl (b.plates.map Plate.d))], .cells [v], .cells [.d (.int .i64 e)],
    .cells [.d (.int .i64 b.str.lo), .d (.int .i64 b.str.hi), .d (.sl (b.plates.map Plate.d)), .d (.sl (l.map Seen.d)), .d (.int .i64 w)]]

theorem c96d (l : List Nat) (hl : l.length ≤ 1000) (hne : l ≠ []) : PC prog 96 [.d (.sl (natsD l))] (.d (.sl (natsD l))) := by
  refine PC.of_r (c96 l hl hne) ?_
  have : (natsD l).take l.length = natsD l := List.take_of_length_le (by simp [natsD_len])
  simp [pubV, natsD_len, this]

/-- What the strengths' items are as data. -/
def itemD (b : Bath) (p : Nat × List Sp) : ItemU := ([.d (.int .i64 (b.str.lo + p.1)), .d (.sl (p.2.map Sp.d))], none)

theorem c93d {x : Log} (hok : x.Ok) : IterU prog (.fn (.func 93) [.d x.d] []) ((canL x).map (itemD x.bath)) := by
  have he : itemsF x (fun _ l => .d (.sl (l.map Sp.d))) (fun _ _ => none) = (canL x).map (itemD x.bath) := by
    simp only [itemsF, canL, List.map_filterMap]
    congr 1
    funext i
    simp only [itemAt, Option.map_map]
    rfl
  rw [← he]
  refine c93 hok _ _ (fun _ _ _ _ _ _ => rfl) ?_
  intro i l H Q hi hr _ hq
  have hb := hok.1
  obtain ⟨s1, s2, s3, _, _⟩ := hb
  simp only [Log.N] at hi
  refine (c115 hok (str := x.bath.str.lo + i) (by omega)).call rfl rfl (by simp only [rustsV, hr]; rfl) ?_
  simp only [rustsV, hr]
  exact hq

theorem c50 (b : Bath) (l : List Seen) (hb : b.plates.length ≤ 4294967296) (hl : l.length ≤ 60) : PC prog 50 [.d b.d, .d (.sl (l.map Seen.d))] (wrongV b l) := by
  refine PC.run (fun _ => false) tt_ok (fn := f50) (rs := [.cell 4 27, .cell 5 30]) rfl rfl rfl rfl rfl rfl rfl ?_
  simp only [go_sem, Bath.d]
  refine (c92 b l hb (by omega)).call rfl rfl rfl ?_
  simp only [go_sem, Bath.d, Log.d]
  refine Br_split (fun hc => ?_) (fun hc => ?_) <;> simp only [go_sem, hc]
  · have h0 : ¬ logE b l = 0 := by simpa using hc
    simp [wrongV, h0]
  have h0 : logE b l = 0 := by simpa using hc
  have hlp : logP b l = ⟨b, l, 0⟩ := by rw [logP, if_pos h0]
  rw [hlp]
  obtain ⟨hbo, hxo⟩ := logP_ok (by omega) h0
  have hw : IntKind.i64.wrap ((l.length : Int) + 1) = ((l.length + 1 : Nat) : Int) := by rw [w64 (by omega) (by omega)]; omega
  simp only [go_sem, hw]
  refine ALoop.by (S := Nat × Nat) (fun s => [(23, .d (.int .i64 s.1)), (22, .d (.int .i64 (l.length + 1 : Nat))), (6, .ptr 3 0), (5, .ptr 2 0), (4, .ptr 1 0), (1, .d (.sl (l.map Seen.d)))])
    (fun s => hG b l s.2 (.slx (some true) []) 0) (fun s => l.length + 1 - s.1)
    (fun s => s.1 ≤ l.length + 1 ∧ wrongF b l = (((List.range (l.length + 1)).drop s.1).flatMap (setsP l.length)).find? fun p => fitsB b l p.2) (0, 0) (by simp) (fun _ h => nomatch h) ⟨Nat.zero_le _, rfl⟩ ?_ ?_
  · exact ForgetTo.same' (by simp) (by simp [EWe, Env.look]) (by simp [hG])
  rintro ⟨many, w⟩ ⟨hm, hfst⟩ hn'
  simp only at hm hfst hn' ⊢
  refine AWP.run (fun _ => false) tt_ok (fun _ h => nomatch h) (by simp) rfl ?_
  simp only [go_sem]
  refine Br_split (fun hd => ?_) (fun hd => ?_) <;> simp only [go_sem, hd]
  · have hlt : many < l.length + 1 := by simp only [decide_eq_true_eq] at hd; omega
    simp only [go_sem, hG]
    refine (c95 l.length many).call rfl rfl rfl ?_
    simp only [go_sem]
    rw [List.drop_eq_getElem_cons (by simpa using hlt), List.flatMap_cons, List.find?_append, List.getElem_range] at hfst
    refine ARng.iterN (items := (setsP l.length many).map setI) (J := fun rest Hx => ∃ (w : Nat) (pre : List (List Nat × Nat)), Hx = hG b l w (.slx (some true) []) 0 ++ [.cells [.d (.int .i64 many)]] ∧ rest = pre.map setI ∧ (∀ p ∈ pre, p ∈ setsP l.length many) ∧ (setsP l.length many).find? (fun p => fitsB b l p.2) = pre.find? (fun p => fitsB b l p.2))
      (by simp) (fun _ h => nomatch h) rfl (c116 (by omega)) rfl (by simp [VBs, VB, setV]) ?_ ?_ ?_ ?_ ?_
    · rintro rest Hx ⟨w1, pre, rfl, _, _, _⟩
      exact ⟨rfl, by simp [hG, BBs, BB, VBs, VB]⟩
    · exact ⟨w, _, rfl, rfl, fun _ h => h, rfl⟩
    · rintro Hx ⟨w1, pre, rfl, hp, _, hf1⟩
      obtain rfl : pre = [] := by simpa using hp.symm
      simp only [go_sem]
      refine ⟨(many + 1, w1), ⟨by omega, ?_⟩, by simp only; omega, ?_⟩
      · rw [hfst, hf1]; simp [List.range_succ]
      · refine ForgetTo.drop (H0 := hG b l w1 (.slx (some true) []) 0) (Y := [_]) (Nat.zero_le _) rfl (by simp [hG, BBs, BB, VBs, VB]) ?_
        simp [EWp, Env.look, pubV, hG, w64 (n := (many : Int) + 1) (by omega) (by omega)]
    · intro xs hxs
      obtain ⟨p, _, rfl⟩ := List.mem_map.1 hxs
      rfl
    · rintro L L' xs rest Hx hbL hxs ⟨w1, pre, rfl, hp, hpm, hf1⟩
      obtain ⟨p, rest', rfl⟩ : ∃ p rest', pre = p :: rest' := by cases pre with
        | nil => cases hp
        | cons p r => exact ⟨p, r, rfl⟩
      obtain ⟨rfl, rfl⟩ : xs = setI p ∧ rest = rest'.map setI := by simpa using hp
      refine AWP.run (fun _ => false) tt_ok (fun _ h => by cases h; simp) (by simp [hG]) rfl ?_
      simp only [go_sem, setI, hG]
      refine AWP.run (fun _ => false) tt_ok (fun _ h => by cases h; simp) (by simp) rfl ?_
      simp only [go_sem]
      have hpl := setsP_mem (hpm p List.mem_cons_self)
      have hp62 : p.2 < 2 ^ 62 := Nat.lt_of_lt_of_le hpl.2 (Nat.pow_le_pow_right (by omega) (by omega))
      have hxk := hxo p.2 hp62
      have hbL6 : BB 7 L' := BB_le (by simp) hbL
      refine ARng.iterU (items := (canL ⟨b, l, p.2⟩).map (itemD b)) (J := fun rest Hx => Hx = hG b l p.2 (.slx (some true) []) 0 ++ [.cells [.d (.int .i64 many)], L', .cells [.d (.sl (natsD p.1))]] ∧ rest = (canL ⟨b, l, p.2⟩).map (itemD b))
        (by simp) (fun _ h => by cases h; simp) rfl (c93d hxk) rfl (by simp [VBs, VB, setV]) ?_ ?_ ?_ ?_ ?_ ?_
      · rintro rest Hx ⟨rfl, _⟩
        exact ⟨rfl, by simp [hG, BBs, BB, VBs, VB]; exact hbL6⟩
      · exact ⟨rfl, rfl⟩
      · rintro Hx ⟨rfl, he⟩
        have he' : canL ⟨b, l, p.2⟩ = [] := by simpa using he.symm
        simp only [go_sem, hG]
        refine ⟨p.2, rest', rfl, rfl, fun q hq => hpm q (List.mem_cons_of_mem _ hq), ?_⟩
        rw [hf1, List.find?_cons_of_neg]
        simp [fitsB, he']
      · intro xs hxs
        obtain ⟨q, _, rfl⟩ := List.mem_map.1 hxs
        rfl
      · intro xs rest Hx hxs _
        obtain ⟨q, _, rfl⟩ := List.mem_map.1 hxs
        trivial
      · rintro L2 L2' xs rest Hx hxs ⟨rfl, he⟩
        have hfit : fitsB b l p.2 = true := by
          simp only [fitsB]
          cases h : canL ⟨b, l, p.2⟩ with
          | nil => rw [h] at hxs; cases hxs
          | cons _ _ => rfl
        rw [List.find?_cons_of_pos (by simpa using hfit)] at hf1
        rw [hf1] at hfst
        obtain ⟨q, _, rfl⟩ := List.mem_map.1 hxs
        refine AWP.run (fun _ => false) tt_ok (fun _ h => by cases h; simp) (by simp [hG, itemD, upd]) rfl ?_
        simp only [go_sem, itemD, upd, hG]
        refine AWP.run (fun _ => false) tt_ok (fun _ h => by cases h; simp) (by simp) rfl ?_
        simp only [go_sem]
        refine Br_split (fun h0m => ?_) (fun h0m => ?_) <;> simp only [go_sem, h0m]
        · have hm0 : many = 0 := by simp only [decide_eq_true_eq] at h0m; omega
          have hp1 : p.1 = [] := List.length_eq_zero_iff.1 (by omega)
          refine ⟨hbL6, ?_⟩
          simp [wrongV, h0, hfst, hp1]
        · have hm0 : ¬ many = 0 := by simp only [decide_eq_false_iff_not] at h0m; omega
          have hp1 : p.1 ≠ [] := fun e => hm0 (by rw [← hpl.1, e]; rfl)
          refine (c96d p.1 (by omega) hp1).call rfl rfl rfl ?_
          simp only [go_sem]
          refine ⟨hbL6, ?_⟩
          simp [wrongV, h0, hfst, hp1]
  · have hme : many = l.length + 1 := by simp only [decide_eq_false_iff_not] at hd; omega
    rw [List.drop_eq_nil_of_le (by simp [hme])] at hfst
    simp only [go_sem, hG]
    simp [wrongV, h0, hfst]
end Go.Aw
end

section
set_option maxRecDepth 100000
namespace Go.Aw
open Go Go.Proofs.Try

def badCarboy (s : Sp) : Bool := !(within 0 5000 [s.lo, s.hi] && decide (s.lo ≤ s.hi))

theorem c100 (s : Sp) : PC prog 100 [.d s.d] (.d (.bool (badCarboy s))) := by
  refine PC.run (fun _ => false) tt_ok (fn := f100) (rs := [.tmp 2]) rfl rfl rfl rfl rfl rfl rfl ?_
  simp only [go_sem, Sp.d]
  refine (c73 0 5000 s).call rfl rfl rfl ?_
  simp only [go_sem, badCarboy]

theorem badCarboy_iff (s : Sp) : badCarboy s = false ↔ 0 ≤ s.lo ∧ s.lo ≤ s.hi ∧ s.hi ≤ 5000 := by
  simp [badCarboy, within]
  omega

theorem sized_sps (l : List Sp) : sized 2 (l.map Sp.d) = true := by
  simp [sized, Sp.d, dcells]

theorem c102 (l : List D) (hl : sized 2 l = true) : PC prog 102 [.d (.sl l)] (.slx none l) := by
  refine PC.run (fun _ => false) tt_ok (fn := f102) (rs := [.tmp 2]) rfl rfl rfl rfl rfl rfl rfl ?_
  simp only [go_sem, Int.natCast_nonneg, Int.toNat_natCast, hl]

/-- The error of a carboy. -/
def carboyP (full : Sp) (used : List Sp) (left : Sp) : Int := if used.length > 10 then 5 else if (badCarboy full || used.any badCarboy || badCarboy left) = true then 2 else 0

def missStep (m s : Sp) : Sp := ⟨m.lo - s.hi, m.hi - s.lo⟩

def missAll (full : Sp) (used : List Sp) (left : Sp) : Sp := (used ++ [left]).foldl missStep full

def missP (full : Sp) (used : List Sp) (left : Sp) : Sp × Int :=
  if carboyP full used left = 0 then (if (missAll full used left).hi < 0 then (sp0, 9) else (⟨max 0 (missAll full used left).lo, (missAll full used left).hi⟩, 0)) else (sp0, carboyP full used left)

theorem miss_bnd : ∀ (l : List Sp) (m : Sp), (∀ s ∈ l, badCarboy s = false) → m.lo - 5000 * l.length ≤ (l.foldl missStep m).lo ∧ (l.foldl missStep m).lo ≤ m.lo ∧ m.hi - 5000 * l.length ≤ (l.foldl missStep m).hi ∧ (l.foldl missStep m).hi ≤ m.hi
  | [], m, _ => by simp
  | s :: r, m, h => by
    have h1 := (badCarboy_iff s).1 (h s List.mem_cons_self)
    have := miss_bnd r (missStep m s) (fun x hx => h x (List.mem_cons_of_mem _ hx))
    simp only [List.foldl_cons, List.length_cons]
    simp only [missStep] at this ⊢
    omega

theorem c55 (full : Sp) (used : List Sp) (left : Sp) (hl : used.length ≤ 4294967296) : PC prog 55 [.d full.d, .d (.sl (used.map Sp.d)), .d left.d] (.tup [.d (missP full used left).1.d, .d (.int .i64 (missP full used left).2)]) := by
  refine PC.run (fun _ => false) tt_ok (fn := f55) (rs := [.cell 6 23, .tmp 7]) rfl rfl rfl rfl rfl rfl rfl ?_
  simp only [go_sem, Sp.d]
  refine Br_split (fun hc => ?_) (fun hc => ?_) <;> simp only [go_sem, hc]
  · have h1 : used.length > 10 := by simp at hc; omega
    simp [missP, carboyP, h1, sp0]
  have h1 : ¬ used.length > 10 := by simp at hc; omega
  have bad : (badCarboy full || used.any badCarboy || badCarboy left) = true → missP full used left = (sp0, 2) := fun h => by simp [missP, carboyP, h1, h]
  refine (c100 full).call rfl rfl rfl ?_
  simp only [go_sem, hc]
  refine Br_split (fun hd => ?_) (fun hd => ?_) <;> simp only [go_sem, hc, hd]
  · rw [bad (by rw [hd]; rfl)]
    simp [sp0]
  refine ACallV.of rfl (c101 enc_sp used hl 100 [] [] badCarboy (fun x _ Q h => (c100 x).call rfl rfl rfl h) ?_)
  simp only [go_sem, hc, hd]
  refine Br_split (fun he => ?_) (fun he => ?_) <;> simp only [go_sem, hc, hd, he]
  · rw [bad (by rw [hd, he]; rfl)]
    simp [sp0]
  refine (c100 left).call rfl rfl rfl ?_
  simp only [go_sem, hc, hd, he]
  refine Br_split (fun hf => ?_) (fun hf => ?_) <;> simp only [go_sem, hc, hd, he, hf]
  · rw [bad (by rw [hf]; simp)]
    simp [sp0]
  have h0 : carboyP full used left = 0 := by simp [carboyP, h1, hd, he, hf]
  have hall : ∀ s ∈ used ++ [left], badCarboy s = false := fun s hs => by
    rcases List.mem_append.1 hs with hs | hs
    · have := List.any_eq_false.1 he s hs
      simpa using this
    · rw [List.mem_singleton.1 hs]; exact hf
  have hfu := (badCarboy_iff full).1 hd
  have hsz := sized_sps used
  have hle : used.length + 1 ≤ 4294967296 := by omega
  refine ADrw.treeG (fun _ => false) tt_ok (by kernel_rfl) (fun k => if k = 2 ∨ k = 5 then some .L else some .S) (.ones [0, 1, 2, 3, 4, 5, 6] .done) (by simp) (fun _ h => nomatch h) rfl rfl (by kernel_rfl) ?_
  simp only [go_sem]
  refine (c102 (used.map Sp.d) hsz).callS rfl rfl rfl rfl rfl rfl ?_
  simp only [go_sem, hsz, hle, List.length_map, List.length_append]
  have happ : used.map Sp.d ++ [.agg [.int .i64 left.lo, .int .i64 left.hi]] = (used ++ [left]).map Sp.d := by simp [Sp.d]
  rw [happ]
  have hlen : used.length + 1 = (used ++ [left]).length := by simp
  have hl11 : (used ++ [left]).length ≤ 11 := by simp; omega
  rw [hlen]
  have hma : missAll full used left = (used ++ [left]).foldl missStep full := rfl
  generalize used ++ [left] = l at hma hall hl11
  refine ALoop.by (S := Nat) (fun i => [(34, .d (.int .i64 i)), (33, .d (.int .i64 l.length)), (32, .d (.sl (l.map Sp.d))), (6, .ptr 2 0)])
    (fun i => [.cells [.d (.int .i64 full.lo), .d (.int .i64 full.hi)], .cells [.d (.int .i64 left.lo), .d (.int .i64 left.hi)], .cells [.d (.int .i64 ((l.take i).foldl missStep full).lo), .d (.int .i64 ((l.take i).foldl missStep full).hi)]]) (fun i => l.length - i) (fun i => i ≤ l.length) 0 (by simp) (fun _ h => nomatch h) (Nat.zero_le _) ?_ ?_
  · exact ForgetTo.same' (by simp) (by simp [EWe, Env.look]) (by simp)
  rintro i hi hn
  refine AWP.run (fun _ => false) tt_ok (fun _ h => nomatch h) (by simp) rfl ?_
  simp only [go_sem]
  refine Br_split (fun hg => ?_) (fun hg => ?_) <;> simp only [go_sem, hg]
  · have hlt : i < l.length := by simpa using hg
    have hix : idx? (l.map Sp.d) (i : Int) = some (l[i]).d := by simp [idx?, List.getElem?_eq_getElem hlt]
    have hst : (l.take (i + 1)).foldl missStep full = missStep ((l.take i).foldl missStep full) l[i] := by
      rw [List.take_add_one, List.getElem?_eq_getElem hlt, List.foldl_append]; rfl
    have hbn := miss_bnd (l.take i) full (fun s hs => hall s (List.mem_of_mem_take hs))
    have htl : (l.take i).length = i := by simp; omega
    rw [htl] at hbn
    have hs := (badCarboy_iff _).1 (hall _ (List.getElem_mem hlt))
    generalize (l.take i).foldl missStep full = m at hst hbn
    generalize l[i] = s at hix hst hs
    simp only [go_sem, hix, Sp.d]
    refine ⟨i + 1, hlt, by omega, ?_⟩
    refine ForgetTo.drop (H0 := [_, _, _]) (Y := [_]) (Nat.zero_le _) ?_ (by simp [BBs, BB, VBs, VB]) ?_
    · rw [hst, missStep, w64 (n := m.lo - s.hi) (by omega) (by omega), w64 (n := m.hi - s.lo) (by omega) (by omega)]
    · simp [EWp, Env.look, pubV, w64 (n := (i : Int) + 1) (by omega) (by omega)]
  · have hie : i = l.length := by simp at hg; omega
    subst hie
    rw [List.take_length, ← hma]
    refine Br_split (fun hh => ?_) (fun hh => ?_) <;> simp only [go_sem, hh]
    · have h9 : (missAll full used left).hi < 0 := by simpa using hh
      simp [missP, h0, h9, sp0]
    · have h9 : ¬ (missAll full used left).hi < 0 := by simpa using hh
      simp only [missP, h0, if_true, if_neg h9]
end Go.Aw
end

section
set_option maxRecDepth 100000
namespace Go.Aw
open Go Go.Proofs.Try

theorem take_succ_eq {α : Type} {a b : List α} {i : Nat} (ha : i < a.length) (hb : i < b.length) (h : a.take i = b.take i) : a.take (i + 1) = b.take (i + 1) ↔ a[i] = b[i] := by
  rw [List.take_succ_eq_append_getElem ha, h, List.take_succ_eq_append_getElem hb]
  simp only [List.append_cancel_left_eq, List.cons.injEq, and_true]

theorem c23 (a b : List Int) (ha : a.length ≤ 4294967296) (hb : b.length ≤ 4294967296) : PC prog 23 [.d (.sl (a.map (.int .i64))), .d (.sl (b.map (.int .i64)))] (.d (.bool (decide (a = b)))) := by
  refine PC.run (fun _ => false) tt_ok (fn := f23) (rs := [.tmp 4]) rfl rfl rfl rfl rfl rfl rfl ?_
  simp only [go_sem]
  refine Br_split (fun hc => ?_) (fun hc => ?_) <;> simp only [go_sem, hc]
  · have : a ≠ b := fun e => by subst e; simp at hc
    simp [this]
  · have hlen : a.length = b.length := by simp at hc; omega
    refine ALoop.by (S := Nat) (fun i => [(5, .d (.int .i64 i)), (0, .d (.sl (a.map (.int .i64)))), (1, .d (.sl (b.map (.int .i64))))]) (fun i => []) (fun i => a.length - i) (fun i => i ≤ a.length ∧ a.take i = b.take i) 0 (by simp) (fun _ h => nomatch h) ⟨Nat.zero_le _, rfl⟩ ?_ ?_
    · simp [ForgetTo, EW, VW, BBq, BBs, BB, VBs, VB, Env.look, pubV]
    · rintro i ⟨hi, hx⟩ hn
      refine AWP.run (fun _ => false) tt_ok (fun _ h => nomatch h) (by simp) rfl ?_
      simp only [go_sem]
      refine Br_split (fun hd => ?_) (fun hd => ?_) <;> simp only [go_sem, hd]
      · have hlt : i < a.length := by simpa using hd
        have hlt' : i < b.length := by omega
        have hs := take_succ_eq hlt hlt' hx
        have hne : a[i] ≠ b[i] → a ≠ b := fun h e => h (by subst e; rfl)
        refine ADrw.treeG (fun _ => false) tt_ok (by kernel_rfl) (fun k => .some .S) (.ones [0, 1, 2, 3, 4, 5, 6, 7, 8] .done) (by simp) (fun _ h => nomatch h) rfl rfl (by kernel_rfl) ?_
        simp only [go_sem, idx_nat, List.getElem?_map, List.getElem?_eq_getElem hlt, List.getElem?_eq_getElem hlt', Step.d, Sp.d]
        generalize a[i] = x at hs hne
        generalize b[i] = y at hs hne
        refine Br_split (fun he => ?_) (fun he => ?_) <;> simp only [go_sem, he]
        · have hxy : x ≠ y := fun e => by subst e; simp at he
          simp [hne hxy]
        · have heq : x = y := by first | (simpa using he) | (cases x; cases y; simpa using he)
          refine ⟨i + 1, ⟨hlt, hs.2 heq⟩, by omega, ?_⟩
          simp [ForgetTo, EW, VW, BBq, BBs, BB, VBs, VB, Env.look, pubV, w64 (n := (i : Int) + 1) (by omega) (by omega)]
      · have hlt : ¬ i < a.length := by simpa using hd
        rw [List.take_of_length_le (by omega), List.take_of_length_le (by omega)] at hx
        simp [hx]

theorem c30 (a b : List Int) (ha : a.length ≤ 4294967296) (hb : b.length ≤ 4294967296) : PC prog 30 [.d (.sl (a.map (.int .i64))), .d (.sl (b.map (.int .i64)))] (.d (.bool (decide (a = b)))) := by
  refine PC.run (fun _ => false) tt_ok (fn := f30) (rs := [.tmp 4]) rfl rfl rfl rfl rfl rfl rfl ?_
  simp only [go_sem]
  refine Br_split (fun hc => ?_) (fun hc => ?_) <;> simp only [go_sem, hc]
  · have : a ≠ b := fun e => by subst e; simp at hc
    simp [this]
  · have hlen : a.length = b.length := by simp at hc; omega
    refine ALoop.by (S := Nat) (fun i => [(5, .d (.int .i64 i)), (0, .d (.sl (a.map (.int .i64)))), (1, .d (.sl (b.map (.int .i64))))]) (fun i => []) (fun i => a.length - i) (fun i => i ≤ a.length ∧ a.take i = b.take i) 0 (by simp) (fun _ h => nomatch h) ⟨Nat.zero_le _, rfl⟩ ?_ ?_
    · simp [ForgetTo, EW, VW, BBq, BBs, BB, VBs, VB, Env.look, pubV]
    · rintro i ⟨hi, hx⟩ hn
      refine AWP.run (fun _ => false) tt_ok (fun _ h => nomatch h) (by simp) rfl ?_
      simp only [go_sem]
      refine Br_split (fun hd => ?_) (fun hd => ?_) <;> simp only [go_sem, hd]
      · have hlt : i < a.length := by simpa using hd
        have hlt' : i < b.length := by omega
        have hs := take_succ_eq hlt hlt' hx
        have hne : a[i] ≠ b[i] → a ≠ b := fun h e => h (by subst e; rfl)
        refine ADrw.treeG (fun _ => false) tt_ok (by kernel_rfl) (fun k => .some .S) (.ones [0, 1, 2, 3, 4, 5, 6, 7, 8] .done) (by simp) (fun _ h => nomatch h) rfl rfl (by kernel_rfl) ?_
        simp only [go_sem, idx_nat, List.getElem?_map, List.getElem?_eq_getElem hlt, List.getElem?_eq_getElem hlt', Step.d, Sp.d]
        generalize a[i] = x at hs hne
        generalize b[i] = y at hs hne
        refine Br_split (fun he => ?_) (fun he => ?_) <;> simp only [go_sem, he]
        · have hxy : x ≠ y := fun e => by subst e; simp at he
          simp [hne hxy]
        · have heq : x = y := by first | (simpa using he) | (cases x; cases y; simpa using he)
          refine ⟨i + 1, ⟨hlt, hs.2 heq⟩, by omega, ?_⟩
          simp [ForgetTo, EW, VW, BBq, BBs, BB, VBs, VB, Env.look, pubV, w64 (n := (i : Int) + 1) (by omega) (by omega)]
      · have hlt : ¬ i < a.length := by simpa using hd
        rw [List.take_of_length_le (by omega), List.take_of_length_le (by omega)] at hx
        simp [hx]

theorem c29 (a b : List Step) (ha : a.length ≤ 4294967296) (hb : b.length ≤ 4294967296) : PC prog 29 [.d (.sl (a.map Step.d)), .d (.sl (b.map Step.d))] (.d (.bool (decide (a = b)))) := by
  refine PC.run (fun _ => false) tt_ok (fn := f29) (rs := [.tmp 4]) rfl rfl rfl rfl rfl rfl rfl ?_
  simp only [go_sem]
  refine Br_split (fun hc => ?_) (fun hc => ?_) <;> simp only [go_sem, hc]
  · have : a ≠ b := fun e => by subst e; simp at hc
    simp [this]
  · have hlen : a.length = b.length := by simp at hc; omega
    refine ALoop.by (S := Nat) (fun i => [(5, .d (.int .i64 i)), (0, .d (.sl (a.map Step.d))), (1, .d (.sl (b.map Step.d)))]) (fun i => []) (fun i => a.length - i) (fun i => i ≤ a.length ∧ a.take i = b.take i) 0 (by simp) (fun _ h => nomatch h) ⟨Nat.zero_le _, rfl⟩ ?_ ?_
    · simp [ForgetTo, EW, VW, BBq, BBs, BB, VBs, VB, Env.look, pubV]
    · rintro i ⟨hi, hx⟩ hn
      refine AWP.run (fun _ => false) tt_ok (fun _ h => nomatch h) (by simp) rfl ?_
      simp only [go_sem]
      refine Br_split (fun hd => ?_) (fun hd => ?_) <;> simp only [go_sem, hd]
      · have hlt : i < a.length := by simpa using hd
        have hlt' : i < b.length := by omega
        have hs := take_succ_eq hlt hlt' hx
        have hne : a[i] ≠ b[i] → a ≠ b := fun h e => h (by subst e; rfl)
        refine ADrw.treeG (fun _ => false) tt_ok (by kernel_rfl) (fun k => .some .S) (.ones [0, 1, 2, 3, 4, 5, 6, 7, 8] .done) (by simp) (fun _ h => nomatch h) rfl rfl (by kernel_rfl) ?_
        simp only [go_sem, idx_nat, List.getElem?_map, List.getElem?_eq_getElem hlt, List.getElem?_eq_getElem hlt', Step.d, Sp.d]
        generalize a[i] = x at hs hne
        generalize b[i] = y at hs hne
        refine Br_split (fun he => ?_) (fun he => ?_) <;> simp only [go_sem, he]
        · have hxy : x ≠ y := fun e => by subst e; simp at he
          simp [hne hxy]
        · have heq : x = y := by first | (simpa using he) | (cases x; cases y; simpa using he)
          refine ⟨i + 1, ⟨hlt, hs.2 heq⟩, by omega, ?_⟩
          simp [ForgetTo, EW, VW, BBq, BBs, BB, VBs, VB, Env.look, pubV, w64 (n := (i : Int) + 1) (by omega) (by omega)]
      · have hlt : ¬ i < a.length := by simpa using hd
        rw [List.take_of_length_le (by omega), List.take_of_length_le (by omega)] at hx
        simp [hx]

theorem c53 (a b : List Sp) (ha : a.length ≤ 4294967296) (hb : b.length ≤ 4294967296) : PC prog 53 [.d (.sl (a.map Sp.d)), .d (.sl (b.map Sp.d))] (.d (.bool (decide (a = b)))) := by
  refine PC.run (fun _ => false) tt_ok (fn := f53) (rs := [.tmp 4]) rfl rfl rfl rfl rfl rfl rfl ?_
  simp only [go_sem]
  refine Br_split (fun hc => ?_) (fun hc => ?_) <;> simp only [go_sem, hc]
  · have : a ≠ b := fun e => by subst e; simp at hc
    simp [this]
  · have hlen : a.length = b.length := by simp at hc; omega
    refine ALoop.by (S := Nat) (fun i => [(5, .d (.int .i64 i)), (0, .d (.sl (a.map Sp.d))), (1, .d (.sl (b.map Sp.d)))]) (fun i => []) (fun i => a.length - i) (fun i => i ≤ a.length ∧ a.take i = b.take i) 0 (by simp) (fun _ h => nomatch h) ⟨Nat.zero_le _, rfl⟩ ?_ ?_
    · simp [ForgetTo, EW, VW, BBq, BBs, BB, VBs, VB, Env.look, pubV]
    · rintro i ⟨hi, hx⟩ hn
      refine AWP.run (fun _ => false) tt_ok (fun _ h => nomatch h) (by simp) rfl ?_
      simp only [go_sem]
      refine Br_split (fun hd => ?_) (fun hd => ?_) <;> simp only [go_sem, hd]
      · have hlt : i < a.length := by simpa using hd
        have hlt' : i < b.length := by omega
        have hs := take_succ_eq hlt hlt' hx
        have hne : a[i] ≠ b[i] → a ≠ b := fun h e => h (by subst e; rfl)
        refine ADrw.treeG (fun _ => false) tt_ok (by kernel_rfl) (fun k => .some .S) (.ones [0, 1, 2, 3, 4, 5, 6, 7, 8] .done) (by simp) (fun _ h => nomatch h) rfl rfl (by kernel_rfl) ?_
        simp only [go_sem, idx_nat, List.getElem?_map, List.getElem?_eq_getElem hlt, List.getElem?_eq_getElem hlt', Step.d, Sp.d]
        generalize a[i] = x at hs hne
        generalize b[i] = y at hs hne
        refine Br_split (fun he => ?_) (fun he => ?_) <;> simp only [go_sem, he]
        · have hxy : x ≠ y := fun e => by subst e; simp at he
          simp [hne hxy]
        · have heq : x = y := by first | (simpa using he) | (cases x; cases y; simpa using he)
          refine ⟨i + 1, ⟨hlt, hs.2 heq⟩, by omega, ?_⟩
          simp [ForgetTo, EW, VW, BBq, BBs, BB, VBs, VB, Env.look, pubV, w64 (n := (i : Int) + 1) (by omega) (by omega)]
      · have hlt : ¬ i < a.length := by simpa using hd
        rw [List.take_of_length_le (by omega), List.take_of_length_le (by omega)] at hx
        simp [hx]
end Go.Aw
end

section
set_option maxRecDepth 100000
namespace Go.Aw
open Go Go.Proofs.Try

theorem c24 (p h : Int) : PC prog 24 [.d (.int .i64 p), .d (.int .i64 h)] (.d (Step.mk p h).d) := by
  refine PC.run (fun _ => false) tt_ok (fn := f24) (rs := [.cell 4 39]) rfl rfl rfl rfl rfl rfl rfl ?_
  simp only [go_sem, Step.d]

theorem c26 (p h : Int) : PC prog 26 [.d (.int .i64 p), .d (.int .i64 h)] (.d (Sp.mk p h).d) := by
  refine PC.run (fun _ => false) tt_ok (fn := f26) (rs := [.cell 4 23]) rfl rfl rfl rfl rfl rfl rfl ?_
  simp only [go_sem, Sp.d]

theorem sized_plates (l : List Plate) : sized 4 (l.map Plate.d) = true := by
  simp [sized, Plate.d, dcells]

end Go.Aw
end

section
set_option maxRecDepth 100000
namespace Go.Aw
open Go Go.Proofs.Try

def weakF (b : Bath) (l : List Int) (s : Int) : Int := l.foldl (fun s p => max 0 (s - (b.pl p).takes)) s

theorem weakF_bnd {b : Bath} (hok : b.Ok) : ∀ (l : List Int) (s : Int), 0 ≤ s → s ≤ 40 → 0 ≤ weakF b l s ∧ weakF b l s ≤ 40
  | [], s, h1, h2 => ⟨h1, h2⟩
  | p :: r, s, h1, h2 => by
    have hp := hok.pl p
    simp only [Plate.Ok] at hp
    exact weakF_bnd hok r (max 0 (s - (b.pl p).takes)) (by omega) (by omega)

end Go.Aw
end

section
set_option maxRecDepth 100000
namespace Go.Aw
open Go Go.Proofs.Try

def exB (l : List Int) : Bath := ⟨⟨10, 12⟩, [⟨⟨40, 44⟩, l.getD 0 1, 30⟩, ⟨⟨50, 60⟩, l.getD 1 2, 40⟩, ⟨⟨20, 22⟩, l.getD 2 1, 16⟩]⟩

theorem exB_set (l : List Int) (hl : l.length ≤ 2) {i : Nat} (hi : i < l.length) : ((exB (l.take i)).plates.map Plate.d).set i (.agg [.int .i64 ((exB []).pl i).rust.lo, .int .i64 ((exB []).pl i).rust.hi, .int .i64 l[i], .int .i64 ((exB []).pl i).thin]) = (exB (l.take (i + 1))).plates.map Plate.d := by
  match l, hl with
  | [], _ => simp at hi
  | [a], _ =>
    obtain rfl : i = 0 := by simp at hi; omega
    rfl
  | [a, b], _ =>
    have : i = 0 ∨ i = 1 := by simp at hi; omega
    rcases this with rfl | rfl <;> rfl

theorem exB_get (l : List Int) (hl : l.length ≤ 2) {i : Nat} (hi : i < l.length) : ((exB (l.take i)).plates.map Plate.d)[i]? = some (.agg [.int .i64 ((exB []).pl i).rust.lo, .int .i64 ((exB []).pl i).rust.hi, .int .i64 ((exB []).pl i).takes, .int .i64 ((exB []).pl i).thin]) := by
  match l, hl with
  | [], _ => simp at hi
  | [a], _ =>
    obtain rfl : i = 0 := by simp at hi; omega
    rfl
  | [a, b], _ =>
    have : i = 0 ∨ i = 1 := by simp at hi; omega
    rcases this with rfl | rfl <;> rfl

theorem c71 (l : List Int) (hl : l.length ≤ 2) : PC prog 71 [.d (.sl (l.map (.int .i64)))] (.d (exB l).d) := by
  refine PC.run (fun k => k == 12) tt_ok (fn := f71) (rs := [.cell 2 26]) rfl rfl rfl rfl rfl rfl rfl ?_
  simp only [go_sem]
  refine (c26 10 12).call rfl rfl rfl ?_
  simp only [go_sem]
  refine (c26 40 44).call rfl rfl rfl ?_
  simp only [go_sem, Sp.d]
  refine (c26 50 60).call rfl rfl rfl ?_
  simp only [go_sem, Sp.d]
  refine (c26 20 22).call rfl rfl rfl ?_
  simp only [go_sem, Sp.d]
  refine ALoop.by (S := Nat) (fun i => [(4, .d (.int .i64 i)), (3, .ptr 2 0), (2, .ptr 0 0), (0, .d (.sl (l.map (.int .i64))))])
    (fun i => [.cells [.d (.int .i64 0), .d (.int .i64 0), .d (.sl [])], .arr 4 false ((exB (l.take i)).plates.map Plate.d), .cells [.d (.int .i64 10), .d (.int .i64 12), .ref 1 3 0 3]]) (fun i => l.length - i) (fun i => i ≤ l.length) 0 (by simp) (fun _ h => nomatch h) (Nat.zero_le _) ?_ ?_
  · exact ForgetTo.same' (by simp) (by simp [EWe, Env.look]) (by simp [exB, Plate.d])
  rintro i hi hn
  refine AWP.run (fun _ => false) tt_ok (fun _ h => nomatch h) (by simp) rfl ?_
  simp only [go_sem]
  refine Br_split (fun hd => ?_) (fun hd => ?_) <;> simp only [go_sem, hd]
  · have hlt : i < l.length := by simpa using hd
    have hix : idx? (l.map (D.int .i64)) (i : Int) = some (.int .i64 l[i]) := by simp [idx?, List.getElem?_eq_getElem hlt]
    have hget := exB_get l hl hlt
    have hset := exB_set l hl hlt
    have hlen : ((exB (l.take i)).plates.map Plate.d).length = 3 := rfl
    have c1 : (0 : Int) ≤ (i : Int) := by omega
    have c2 : (i : Int) < 3 := by omega
    generalize (exB (l.take i)).plates.map Plate.d = ps at hget hset hlen
    generalize l[i] = x at hix hset
    refine ADrw.treeG (fun _ => false) tt_ok (by kernel_rfl) (fun k => if k = 1 ∨ k = 6 ∨ k = 7 then some .L else if k = 9 then some .W else some .S) (.ones [0, 1, 2, 3, 4, 5, 6, 7, 8, 9] .done) (by simp) (fun _ h => nomatch h) rfl rfl (by kernel_rfl) ?_
    simp only [go_sem, hix, hget, hlen, c1, c2, Int.toNat_natCast, hset]
    refine ⟨i + 1, hlt, by omega, ?_⟩
    exact ForgetTo.same' (by simp) (by simp [EWe, Env.look, w64 (n := (i : Int) + 1) (by omega) (by omega)]) rfl
  · have hie : i = l.length := by simp at hd; omega
    subst hie
    rw [List.take_length]
    have hlen : (exB l).plates.length = 3 := rfl
    have htk : ((exB l).plates.map Plate.d).take 3 = (exB l).plates.map Plate.d := rfl
    simp only [go_sem, hlen, htk, List.length_map]
    simp [Bath.d, exB]
end Go.Aw
end

section
set_option maxRecDepth 100000
namespace Go.Aw
open Go Go.Proofs.Try

theorem ex_strengths : strengthsP (exB []) [0, 1] = ([⟨10, 12⟩, ⟨9, 11⟩, ⟨7, 9⟩], 0) := by decide +kernel
theorem ex_out : outP (exB []) [⟨0, 4⟩, ⟨1, 7⟩] = ([[1, 2], [2]], 0) := by decide +kernel
theorem ex_hours : hoursP (exB []) [⟨0, 5⟩] 1 = (⟨7, 8⟩, 0) := by decide +kernel
theorem ex_order : orderP (exB []) = ([⟨0, 5⟩, ⟨1, 7⟩, ⟨2, 4⟩], 0) := by decide +kernel
theorem ex_check : checkP (exB [8, 8]) = 0 := by decide +kernel
theorem ex_fillings : fillFirst (exB [8, 8]) = some ([0, 1, 0], [5, 2]) := by decide +kernel
theorem ex_mix : mixV [⟨⟨30, 30⟩, 10⟩, ⟨⟨12, 15⟩, 20⟩] = ⟨18, 20⟩ := by decide +kernel
theorem ex_acids : acidsP [⟨⟨30, 30⟩, 10⟩, ⟨⟨12, 15⟩, 20⟩] = 0 := by decide +kernel
theorem ex_water : waterP [⟨⟨30, 30⟩, 10⟩] ⟨10, 12⟩ = (⟨15, 20⟩, 0) := by decide +kernel
theorem ex_logE : logE (exB []) [⟨⟨0, 4⟩, 1⟩] = 0 := by decide +kernel
theorem ex_was : wasO ⟨exB [], [⟨⟨0, 4⟩, 1⟩], 0⟩ = some (0, 0, [⟨41, 44⟩, ⟨50, 60⟩, ⟨20, 22⟩]) := by decide +kernel
theorem ex_logE2 : logE (exB []) [⟨⟨0, 24⟩, 2⟩, ⟨⟨2, 3⟩, 2⟩] = 0 := by decide +kernel
theorem ex_wrong : wrongF (exB []) [⟨⟨0, 24⟩, 2⟩, ⟨⟨2, 3⟩, 2⟩] = some ([0], 1) := by decide +kernel
theorem ex_missing : missP ⟨100, 100⟩ [⟨20, 25⟩, ⟨30, 30⟩] ⟨40, 44⟩ = (⟨1, 10⟩, 0) := by decide +kernel
end Go.Aw
end

section
set_option maxRecDepth 100000
namespace Go.Aw
open Go Go.Proofs.Try

theorem c17 : PC prog 17 [] (.d (.bool true)) := by
  refine PC.run (fun _ => false) tt_ok (fn := f17) (rs := [.tmp 0]) rfl rfl rfl rfl rfl rfl rfl ?_
  simp only [go_sem]
  refine (c71 [] (by simp)).call rfl rfl rfl ?_
  simp only [go_sem]
  refine (c20 (exB []) [0, 1] (by simp [exB]) (by simp)).call rfl rfl rfl ?_
  rw [ex_strengths]
  simp only [go_sem]
  refine (c71 [] (by simp)).call rfl rfl rfl ?_
  simp only [go_sem]
  refine (c24 0 4).call rfl rfl rfl ?_
  simp only [go_sem]
  refine (c24 1 7).call rfl rfl rfl ?_
  simp only [go_sem]
  refine (c28 (exB []) [⟨0, 4⟩, ⟨1, 7⟩] (by simp [exB]) (by simp)).call rfl rfl rfl ?_
  rw [ex_out]
  simp only [go_sem]
  refine (c71 [] (by simp)).call rfl rfl rfl ?_
  simp only [go_sem]
  refine (c24 0 5).call rfl rfl rfl ?_
  simp only [go_sem]
  refine (c33 (exB []) [⟨0, 5⟩] 1 (by simp [exB]) (by simp)).call rfl rfl rfl ?_
  rw [ex_hours]
  simp only [go_sem, Sp.d]
  refine (c71 [] (by simp)).call rfl rfl rfl ?_
  simp only [go_sem]
  refine (c37 (exB []) (by simp [exB])).call rfl rfl rfl ?_
  rw [ex_order]
  simp only [go_sem, lv]
  refine (c71 [8, 8] (by simp)).call rfl rfl rfl ?_
  simp only [go_sem]
  have hfv : fillingsV (exB [8, 8]) = .tup [.d (.sl (natsD [0, 1, 0])), .d (.int .i64 0)] := by simp only [fillingsV, ex_check, ex_fillings, if_true]
  refine (c38 (exB [8, 8]) (by simp [exB])).call rfl rfl (by rw [hfv]; rfl) ?_
  rw [hfv]
  simp only [go_sem]
  refine (c26 30 30).call rfl rfl rfl ?_
  simp only [go_sem, Sp.d]
  refine (c26 12 15).call rfl rfl rfl ?_
  simp only [go_sem, Sp.d]
  refine (c43 [⟨⟨30, 30⟩, 10⟩, ⟨⟨12, 15⟩, 20⟩] (by simp)).call rfl rfl rfl ?_
  rw [ex_mix, ex_acids]
  simp only [go_sem, Sp.d]
  refine (c26 30 30).call rfl rfl rfl ?_
  simp only [go_sem, Sp.d]
  refine (c26 10 12).call rfl rfl rfl ?_
  simp only [go_sem]
  refine (c44 [⟨⟨30, 30⟩, 10⟩] ⟨10, 12⟩ (by simp)).call rfl rfl rfl ?_
  rw [ex_water]
  simp only [go_sem, Sp.d]
  refine (c71 [] (by simp)).call rfl rfl rfl ?_
  simp only [go_sem]
  refine (c24 0 4).call rfl rfl rfl ?_
  simp only [go_sem, Step.d]
  have hwv : wasV (exB []) [⟨⟨0, 4⟩, 1⟩] = .tup [.d (Sp.mk 10 10).d, .d (.sl ([⟨41, 44⟩, ⟨50, 60⟩, ⟨20, 22⟩].map Sp.d)), .d (.int .i64 0)] := by simp only [wasV, ex_logE, ex_was, if_true]; rfl
  refine (c49 (exB []) [⟨⟨0, 4⟩, 1⟩] (by simp [exB]) (by simp)).call rfl rfl (by rw [hwv]; rfl) ?_
  rw [hwv]
  simp only [go_sem, Sp.d]
  refine (c71 [] (by simp)).call rfl rfl rfl ?_
  simp only [go_sem]
  refine (c24 0 24).call rfl rfl rfl ?_
  simp only [go_sem, Step.d]
  refine (c24 2 3).call rfl rfl rfl ?_
  simp only [go_sem, Step.d]
  have hwr : wrongV (exB []) [⟨⟨0, 24⟩, 2⟩, ⟨⟨2, 3⟩, 2⟩] = .tup [.d (.sl (natsD [0])), .d (.int .i64 0)] := by simp only [wrongV, ex_logE2, ex_wrong, if_true]; rfl
  refine (c50 (exB []) [⟨⟨0, 24⟩, 2⟩, ⟨⟨2, 3⟩, 2⟩] (by simp [exB]) (by simp)).call rfl rfl (by rw [hwr]; rfl) ?_
  rw [hwr]
  simp only [go_sem]
  refine (c26 100 100).call rfl rfl rfl ?_
  simp only [go_sem]
  refine (c26 20 25).call rfl rfl rfl ?_
  simp only [go_sem, Sp.d]
  refine (c26 30 30).call rfl rfl rfl ?_
  simp only [go_sem, Sp.d]
  refine (c26 40 44).call rfl rfl rfl ?_
  simp only [go_sem, Sp.d]
  refine (c55 ⟨100, 100⟩ [⟨20, 25⟩, ⟨30, 30⟩] ⟨40, 44⟩ (by simp)).call rfl rfl rfl ?_
  rw [ex_missing]
  simp only [go_sem, Sp.d]
  have hd0 : ∀ {α : Type} [DecidableEq α] (l : List α), decide (l = l) = true := fun l => by simp
  refine ADrw.treeG (fun _ => false) tt_ok (by kernel_rfl) (fun k => if k = 29 then some .L else some .S) (.ones [0, 1, 2, 3, 4, 5, 6, 7, 8, 9, 10, 11, 12, 13, 14, 15, 16, 17, 18, 19, 20, 21, 22, 23, 24, 25, 26, 27, 28, 29, 30, 31, 32, 33, 34, 35, 36, 37, 38, 39, 40, 41] .done) (by simp) (fun _ h => nomatch h) rfl rfl (by kernel_rfl) ?_
  simp only [go_sem]
  refine (c26 10 12).callS rfl rfl rfl rfl rfl rfl ?_
  simp only [go_sem, Sp.d, Step.d, intsD, hd0]
  refine (c26 9 11).callS rfl rfl rfl rfl rfl rfl ?_
  simp only [go_sem, Sp.d, Step.d, intsD, hd0]
  refine (c26 7 9).callS rfl rfl rfl rfl rfl rfl ?_
  simp only [go_sem, Sp.d, Step.d, intsD, hd0]
  refine (c53 [⟨10, 12⟩, ⟨9, 11⟩, ⟨7, 9⟩] [⟨10, 12⟩, ⟨9, 11⟩, ⟨7, 9⟩] (by simp) (by simp)).callS rfl rfl rfl rfl rfl rfl ?_
  simp only [go_sem, Sp.d, Step.d, intsD, hd0]
  refine (c30 [1, 2] [1, 2] (by simp) (by simp)).callS rfl rfl rfl rfl rfl rfl ?_
  simp only [go_sem, Sp.d, Step.d, intsD, hd0]
  refine (c30 [2] [2] (by simp) (by simp)).callS rfl rfl rfl rfl rfl rfl ?_
  simp only [go_sem, Sp.d, Step.d, intsD, hd0]
  refine (c26 7 8).callS rfl rfl rfl rfl rfl rfl ?_
  simp only [go_sem, Sp.d, Step.d, intsD, hd0]
  refine (c24 0 5).callS rfl rfl rfl rfl rfl rfl ?_
  simp only [go_sem, Sp.d, Step.d, intsD, hd0]
  refine (c24 1 7).callS rfl rfl rfl rfl rfl rfl ?_
  simp only [go_sem, Sp.d, Step.d, intsD, hd0]
  refine (c24 2 4).callS rfl rfl rfl rfl rfl rfl ?_
  simp only [go_sem, Sp.d, Step.d, intsD, hd0]
  refine (c29 [⟨0, 5⟩, ⟨1, 7⟩, ⟨2, 4⟩] [⟨0, 5⟩, ⟨1, 7⟩, ⟨2, 4⟩] (by simp) (by simp)).callS rfl rfl rfl rfl rfl rfl ?_
  simp only [go_sem, Sp.d, Step.d, intsD, hd0]
  refine ADrw.treeG (fun _ => false) tt_ok (by kernel_rfl) (fun k => if k = 4 ∨ k = 9 ∨ k = 14 ∨ k = 32 then some .L else some .S) (.ones [0, 1, 2, 3, 4, 5, 6, 7, 8, 9, 10, 11, 12, 13, 14, 15, 16, 17, 18, 19, 20, 21, 22, 23, 24, 25, 26, 27, 28, 29, 30, 31, 32, 33, 34, 35, 36] .done) (by simp) (fun _ h => nomatch h) rfl rfl (by kernel_rfl) ?_
  simp only [go_sem]
  refine (c23 [0, 1, 0] [0, 1, 0] (by simp) (by simp)).callS rfl rfl rfl rfl rfl rfl ?_
  simp only [go_sem, Sp.d, Step.d, intsD, hd0]
  refine (c26 18 20).callS rfl rfl rfl rfl rfl rfl ?_
  simp only [go_sem, Sp.d, Step.d, intsD, hd0]
  refine (c26 15 20).callS rfl rfl rfl rfl rfl rfl ?_
  simp only [go_sem, Sp.d, Step.d, intsD, hd0]
  refine (c26 10 10).callS rfl rfl rfl rfl rfl rfl ?_
  simp only [go_sem, Sp.d, Step.d, intsD, hd0]
  refine (c26 41 44).callS rfl rfl rfl rfl rfl rfl ?_
  simp only [go_sem, Sp.d, Step.d, intsD, hd0]
  refine (c26 50 60).callS rfl rfl rfl rfl rfl rfl ?_
  simp only [go_sem, Sp.d, Step.d, intsD, hd0]
  refine (c26 20 22).callS rfl rfl rfl rfl rfl rfl ?_
  simp only [go_sem, Sp.d, Step.d, intsD, hd0]
  refine (c53 [⟨41, 44⟩, ⟨50, 60⟩, ⟨20, 22⟩] [⟨41, 44⟩, ⟨50, 60⟩, ⟨20, 22⟩] (by simp) (by simp)).callS rfl rfl rfl rfl rfl rfl ?_
  simp only [go_sem, Sp.d, Step.d, intsD, hd0]
  refine (c23 [0] [0] (by simp) (by simp)).callS rfl rfl rfl rfl rfl rfl ?_
  simp only [go_sem, Sp.d, Step.d, intsD, hd0]
  refine (c26 1 10).callS rfl rfl rfl rfl rfl rfl ?_
  simp only [go_sem, Sp.d, Step.d, intsD, hd0]
end Go.Aw
end

section
set_option maxRecDepth 100000
namespace Go.Aw
open Go Go.Proofs.Try

theorem fellF_nn {b : Bath} (hok : b.Ok) : ∀ l : List Int, 0 ≤ fellF b l
  | [] => by simp [fellF]
  | p :: r => by
    have hp := hok.pl p
    simp only [Plate.Ok] at hp
    have := fellF_nn hok r
    simp only [fellF, List.map_cons, List.sum_cons] at this ⊢
    omega

/-- Plate by plate, or all at once. -/
theorem weak_aft {b : Bath} (hok : b.Ok) : ∀ (l : List Int) (s : Int), 0 ≤ s → weakF b l s = aft (fellF b l) s
  | [], s, hs => by simp [weakF, fellF, aft]; omega
  | p :: r, s, hs => by
    have hp := hok.pl p
    simp only [Plate.Ok] at hp
    have hn := fellF_nn hok r
    have h1 : weakF b (p :: r) s = weakF b r (max 0 (s - (b.pl p).takes)) := rfl
    have h2 : fellF b (p :: r) = (b.pl p).takes + fellF b r := by simp [fellF]
    rw [h1, weak_aft hok r _ (by omega), h2]
    simp only [aft]
    omega

end Go.Aw
end

section
set_option maxRecDepth 100000
namespace Go.Aw
open Go Go.Proofs

theorem has_list {α : Type} {enc : α → D} {p : D → Prop} (he : ∀ y, p y → ∃ s, y = enc s) : ∀ l : List D, (∀ y ∈ l, p y) → ∃ ss : List α, l = ss.map enc
  | [], _ => ⟨[], rfl⟩
  | y :: r, h => by
    obtain ⟨s, rfl⟩ := he y (h y (by simp))
    obtain ⟨ss, rfl⟩ := has_list he r fun z hz => h z (List.mem_cons_of_mem _ hz)
    exact ⟨s :: ss, rfl⟩

end Go.Aw
end

section
set_option maxRecDepth 100000
namespace Go.Aw
open Go Go.Proofs.Try

def bthB (b : Bath) : Blk := .cells [.d (.int .i64 b.str.lo), .d (.int .i64 b.str.hi), .d (.sl (b.plates.map Plate.d))]

end Go.Aw
end

section
set_option maxRecDepth 100000
namespace Go.Aw
open Go Go.Proofs.Try

theorem howP_two {p : Plate} {rust loses : Int} : howP p rust loses = 2 ↔ rust ≤ loses ∧ loses ≤ rust + p.thin := by
  unfold howP
  repeat' split
  all_goals omega

end Go.Aw
end

section
set_option maxRecDepth 100000
namespace Go.Aw
open Go Go.Proofs.Try

def doneF (d : Nat) (l : List Step) : Nat := l.foldl (fun d x => d ||| 2 ^ x.plate.toNat) d

theorem stepsOk_append (np : Nat) : ∀ (l r : List Step) (d : Nat), stepsOk np d (l ++ r) = (stepsOk np d l && stepsOk np (doneF d l) r)
  | [], r, d => by simp [stepsOk, doneF]
  | x :: l, r, d => by
    simp only [List.cons_append, stepsOk]
    split
    · simp
    · rw [stepsOk_append np l r]; rfl

theorem doneF_bit : ∀ (l : List Step) (d q : Nat), (doneF d l).testBit q = (d.testBit q || decide (q ∈ l.map fun x => x.plate.toNat))
  | [], d, q => by simp [doneF]
  | x :: l, d, q => by
    have : doneF d (x :: l) = doneF (d ||| 2 ^ x.plate.toNat) l := rfl
    rw [this, doneF_bit l, Nat.testBit_or, Nat.testBit_two_pow, Bool.eq_iff_iff]
    simp only [Bool.or_eq_true, decide_eq_true_eq, List.map_cons, List.mem_cons]
    have : x.plate.toNat = q ↔ q = x.plate.toNat := eq_comm
    rw [this, or_assoc]

theorem stepsOk_more {np : Nat} {l : List Step} (h : stepsOk np 0 l = true) (plate : Int) : stepsOk np 0 (l ++ [⟨plate, 1⟩]) = (within 0 ((np : Int) - 1) [plate] && !decide (plate ∈ platesOf l)) := by
  rw [stepsOk_append, h, Bool.true_and]
  simp only [stepsOk, stepBad, doneF_bit, Nat.zero_testBit, Bool.false_or]
  have h1 : within 1 24 [(1 : Int)] = true := by decide
  rw [h1]
  cases hw : within 0 ((np : Int) - 1) [plate] with
  | false => simp
  | true =>
    have hp := within_one.1 hw
    have : plate.toNat ∈ (l.map fun x => x.plate.toNat) ↔ plate ∈ platesOf l := by
      simp only [platesOf, List.mem_map]
      constructor
      · rintro ⟨x, hx, he⟩
        have := (stepsOk_mem h x hx).1
        exact ⟨x, hx, by omega⟩
      · rintro ⟨x, hx, he⟩
        exact ⟨x, hx, by rw [he]⟩
    rw [decide_eq_decide.2 this]
    cases decide (plate ∈ platesOf l) <;> simp

end Go.Aw
end

section
set_option maxRecDepth 100000
namespace Go.Aw
open Go Go.Proofs.Try

def Byte (n : Int) : Prop := 0 ≤ n ∧ n < 256

/-- Three bytes; four bytes. -/
structure B3 where
  a : Int
  b : Int
  c : Int
deriving DecidableEq

structure B4 where
  a : Int
  b : Int
  c : Int
  e : Int
deriving DecidableEq

def B3.d (s : B3) : D := .agg [.int .u8 s.a, .int .u8 s.b, .int .u8 s.c]
def B4.d (s : B4) : D := .agg [.int .u8 s.a, .int .u8 s.b, .int .u8 s.c, .int .u8 s.e]

structure B3.Ok (s : B3) : Prop where
  a : Byte s.a
  b : Byte s.b
  c : Byte s.c

structure B4.Ok (s : B4) : Prop where
  a : Byte s.a
  b : Byte s.b
  c : Byte s.c
  e : Byte s.e

theorem byte_conv {n : Int} (h : Byte n) : wr n = n := by simp only [Byte] at h; exact w64 (by omega) (by omega)

end Go.Aw
end

section
set_option maxRecDepth 100000
namespace Go.Aw
open Go Go.Proofs

theorem has_u8 {f : Nat} {y : D} (h : HasT Try.prog (f + 1) 5 y) : ∃ n, y = .int .u8 n ∧ Byte n := by
  unfold HasT at h
  rw [Try.underlying5] at h
  obtain ⟨n, rfl, h⟩ := h
  refine ⟨n, rfl, ?_⟩
  simp [Lit.wf, IntKind.min, IntKind.max, IntKind.bits, IntKind.signed] at h
  simp only [Byte]; omega

theorem has_b3 {f : Nat} {y : D} (h : HasT Try.prog (f + 3) 97 y) : ∃ s : B3, y = s.d ∧ s.Ok := by
  unfold HasT at h
  rw [Try.underlying97] at h
  obtain ⟨l, rfl, h⟩ := h
  simp only [HasN] at h
  obtain ⟨y1, r1, rfl, h1, y2, r2, rfl, h2, y3, r3, rfl, h3, rfl⟩ := h
  obtain ⟨n1, rfl, b1⟩ := has_u8 h1
  obtain ⟨n2, rfl, b2⟩ := has_u8 h2
  obtain ⟨n3, rfl, b3⟩ := has_u8 h3
  exact ⟨⟨n1, n2, n3⟩, rfl, ⟨b1, b2, b3⟩⟩

theorem has_b4 {f : Nat} {y : D} (h : HasT Try.prog (f + 3) 114 y) : ∃ s : B4, y = s.d ∧ s.Ok := by
  unfold HasT at h
  rw [Try.underlying114] at h
  obtain ⟨l, rfl, h⟩ := h
  simp only [HasN] at h
  obtain ⟨y1, r1, rfl, h1, y2, r2, rfl, h2, y3, r3, rfl, h3, y4, r4, rfl, h4, rfl⟩ := h
  obtain ⟨n1, rfl, b1⟩ := has_u8 h1
  obtain ⟨n2, rfl, b2⟩ := has_u8 h2
  obtain ⟨n3, rfl, b3⟩ := has_u8 h3
  obtain ⟨n4, rfl, b4⟩ := has_u8 h4
  exact ⟨⟨n1, n2, n3, n4⟩, rfl, ⟨b1, b2, b3, b4⟩⟩
end Go.Aw
end

section
set_option maxRecDepth 100000
namespace Go.Aw
open Go Go.Proofs.Try

structure Vat where
  s : B3
  plates : List B4

def Vat.d (x : Vat) : D := .agg [.int .u8 x.s.a, .int .u8 x.s.b, .int .u8 x.s.c, .sl (x.plates.map B4.d)]

structure Vat.Ok (x : Vat) : Prop where
  s : x.s.Ok
  p : ∀ v ∈ x.plates, v.Ok

def plateOf (v : B4) : Plate := ⟨⟨max 0 (v.a - v.b % 16), v.a + v.b / 16⟩, v.c % 4, v.e⟩

def Vat.low (x : Vat) : Int := 3 + x.s.a % 25
def Vat.bath (x : Vat) : Bath := ⟨⟨x.low, x.low + x.s.b % 6⟩, (x.plates.take 4).map plateOf⟩
def Vat.str (x : Vat) : Int := x.low + x.s.c % (x.s.b % 6 + 1)
def Vat.rusts (x : Vat) : List Int := (x.plates.take 4).map B4.a

theorem Vat.bathOk {x : Vat} (hx : x.Ok) : x.bath.Ok := by
  have h1 := hx.s.a
  have h2 := hx.s.b
  simp only [Byte] at h1 h2
  refine ⟨by simp only [Vat.bath, Vat.low]; omega, by simp only [Vat.bath]; omega, by simp only [Vat.bath, Vat.low]; omega, by simp [Vat.bath]; omega, fun p hp => ?_⟩
  obtain ⟨v, hv, rfl⟩ := List.mem_map.1 hp
  have k := hx.p v (List.mem_of_mem_take hv)
  have k1 := k.a
  have k2 := k.b
  have k3 := k.c
  have k4 := k.e
  simp only [Byte] at k1 k2 k3 k4
  simp only [Plate.Ok, plateOf]
  omega

theorem c58 {x : Vat} (hx : x.Ok) : PC prog 58 [.d x.d] (.tup [.d x.bath.d, .d (.int .i64 x.str), .d (.sl (x.rusts.map (.int .i64)))]) := by
  refine PC.run (fun k => k == 27 || k == 41) tt_ok (fn := f58) (rs := [.cell 2 26, .tmp 3, .tmp 4]) rfl rfl rfl rfl rfl rfl rfl ?_
  have h1 := hx.s.a
  have h2 := hx.s.b
  have h3 := hx.s.c
  have e1 := byte_conv h1
  have e2 := byte_conv h2
  have e3 := byte_conv h3
  simp only [Byte] at h1 h2 h3
  have m1 : x.s.a.tmod 25 = x.s.a % 25 := Int.tmod_eq_emod_of_nonneg h1.1
  have m2 : x.s.b.tmod 6 = x.s.b % 6 := Int.tmod_eq_emod_of_nonneg h2.1
  have z25 : (25 : Int) ≠ 0 := by omega
  have z6 : (6 : Int) ≠ 0 := by omega
  have w1 : IntKind.i64.wrap (3 + x.s.a % 25) = x.low := w64 (by omega) (by omega)
  have hlow : x.low = 3 + x.s.a % 25 := rfl
  have w2 : IntKind.i64.wrap (x.low + x.s.b % 6) = x.low + x.s.b % 6 := w64 (by omega) (by omega)
  simp only [go_sem, Vat.d, e1, e2, e3, m1, m2, remO_ne z25, remO_ne z6, w1, w2]
  refine (c26 x.low (x.low + x.s.b % 6)).call rfl rfl rfl ?_
  have w3 : IntKind.i64.wrap (x.low + x.s.b % 6 - x.low) = x.s.b % 6 := by rw [w64 (by omega) (by omega)]; omega
  have w4 : IntKind.i64.wrap (x.s.b % 6 + 1) = x.s.b % 6 + 1 := w64 (by omega) (by omega)
  have zb : x.s.b % 6 + 1 ≠ 0 := by omega
  have m3 : x.s.c.tmod (x.s.b % 6 + 1) = x.s.c % (x.s.b % 6 + 1) := Int.tmod_eq_emod_of_nonneg h3.1
  have hm := Int.emod_lt_of_pos x.s.c (show 0 < x.s.b % 6 + 1 by omega)
  have hm0 := Int.emod_nonneg x.s.c zb
  have w5 : IntKind.i64.wrap (x.low + x.s.c % (x.s.b % 6 + 1)) = x.str := w64 (by omega) (by omega)
  simp only [go_sem, Vat.d, e1, e2, e3, m1, m2, m3, remO_ne z25, remO_ne z6, remO_ne zb, w1, w2, w3, w4, w5, Sp.d]
  change AWP _ _ _ _ _ _ _ _
  refine AWP.nilrow 2 2 4 rfl rfl (Nat.zero_le _) ?_
  refine ALoop.by (S := Nat) (fun i => [(9, .d (.int .i64 i)), (8, .ref 3 i 0 i), (7, .d (.int .i64 x.str)), (6, .ptr 2 0), (2, .ptr 1 0), (1, .ptr 0 0)])
    (fun i => [.cells [.d (.int .u8 x.s.a), .d (.int .u8 x.s.b), .d (.int .u8 x.s.c), .d (.sl (x.plates.map B4.d))], .cells [.d (.int .i64 0), .d (.int .i64 0), .d (.sl [])],
      .cells [.d (.int .i64 x.low), .d (.int .i64 (x.low + x.s.b % 6)), .ref 4 i 0 i], .arr 1 false (((x.plates.take i).map B4.a).map (.int .i64)), .arr 4 (decide (i = 0)) (((x.plates.take i).map plateOf).map Plate.d)])
    (fun i => 4 - i) (fun i => i ≤ x.plates.length ∧ i ≤ 4) 0 (Nat.zero_le _) (fun _ h => nomatch h) ⟨Nat.zero_le _, by omega⟩ ?_ ?_
  · exact ForgetTo.same' (Nat.zero_le _) (by simp [EWe, Env.look]) (by simp)
  rintro i ⟨hi, hi4⟩ hn
  have hlen : (x.plates.take i).length = i := by simp; omega
  have FIN : (x.plates.take i) = x.plates.take 4 → (Vat.bath x).plates = (x.plates.take i).map plateOf ∧ x.rusts = (x.plates.take i).map B4.a := fun h => by rw [h]; exact ⟨rfl, rfl⟩
  refine AWP.run (fun k => k == 27 || k == 41) tt_ok (fun _ h => nomatch h) (Nat.zero_le _) rfl ?_
  simp only [go_sem]
  refine Br_split (fun hd => ?_) (fun hd => ?_) <;> simp only [go_sem, hd]
  · have hlt : i < x.plates.length := by simpa using hd
    refine Br_split (fun hd2 => ?_) (fun hd2 => ?_) <;> simp only [go_sem, hd, hd2]
    · have hlt2 : i < 4 := by simp only [decide_eq_true_eq] at hd2; omega
      have hv := hx.p _ (List.getElem_mem hlt)
      have hix : idx? (x.plates.map B4.d) (i : Int) = some (x.plates[i]).d := by simp [idx?, List.getElem?_eq_getElem hlt]
      have hst : (x.plates.take (i + 1)) = x.plates.take i ++ [x.plates[i]] := List.take_succ_eq_append_getElem hlt
      generalize x.plates[i] = v at hv hix hst
      have b1 := hv.a
      have b2 := hv.b
      have b3 := hv.c
      have b4 := hv.e
      have f1 := byte_conv b1
      have f2 := byte_conv b2
      have f3 := byte_conv b3
      have f4 := byte_conv b4
      simp only [Byte] at b1 b2 b3 b4
      have z16 : (16 : Int) ≠ 0 := by omega
      have z4 : (4 : Int) ≠ 0 := by omega
      have n1 : v.b.tmod 16 = v.b % 16 := Int.tmod_eq_emod_of_nonneg b2.1
      have n2 : v.b.tdiv 16 = v.b / 16 := Int.tdiv_eq_ediv_of_nonneg b2.1
      have n3 : v.c.tmod 4 = v.c % 4 := Int.tmod_eq_emod_of_nonneg b3.1
      have v1 : IntKind.i64.wrap (v.a - v.b % 16) = v.a - v.b % 16 := w64 (by omega) (by omega)
      have v2 : IntKind.i64.wrap (v.b / 16) = v.b / 16 := w64 (by omega) (by omega)
      have v3 : IntKind.i64.wrap (v.a + v.b / 16) = v.a + v.b / 16 := w64 (by omega) (by omega)
      have l1 : (((x.plates.take i).map B4.a).map (D.int .i64)).length = i := by simp; omega
      have l2 : (((x.plates.take i).map plateOf).map Plate.d).length = i := by simp; omega
      have hi1 : i + 1 ≤ 4294967296 := by omega
      simp only [go_sem, hix, B4.d, f1, l1, hlen, List.length_map, hi1]
      refine ADrw.treeG (fun k => k == 27 || k == 41) tt_ok (by kernel_rfl) (fun k => if k = 1 ∨ k = 4 ∨ k = 11 ∨ k = 17 ∨ k = 21 then some .L else if k = 25 ∨ k = 27 then some .W else some .S) (.ones [0, 1, 2, 3, 4, 5, 6, 7, 8, 9, 10, 11, 12, 13, 14, 15, 16, 17, 18, 19, 20, 21, 22, 23, 24, 25, 26, 27] .done) (Nat.zero_le _) (fun _ h => nomatch h) rfl rfl (by kernel_rfl) ?_
      simp only [go_sem, f1, f2, f3, f4, n1, n2, n3, v1, v2, v3, remO_ne z16, quoO_ne z16, remO_ne z4]
      refine (c26 (max 0 (v.a - v.b % 16)) (v.a + v.b / 16)).callS rfl rfl rfl rfl rfl rfl ?_
      simp only [go_sem, f1, f2, f3, f4, n1, n2, n3, v1, v2, v3, remO_ne z16, quoO_ne z16, remO_ne z4, Sp.d, l2, hlen, List.length_map, hi1]
      refine ⟨i + 1, ⟨hlt, hlt2⟩, by omega, ?_⟩
      refine ForgetTo.drop (H0 := [_, _, _, _, _]) (Y := [_]) (Nat.zero_le _) ?_ (by simp [BBs, BB, VBs, VB]) ?_
      · rw [hst]; simp [plateOf, Plate.d]
      · simp [EWp, Env.look, pubV, w64 (n := (i : Int) + 1) (by omega) (by omega)]
    · have hie : i = 4 := by simp only [decide_eq_false_iff_not] at hd2; omega
      obtain ⟨p1, p2⟩ := FIN (by rw [hie])
      generalize x.plates.take i = L at hlen p1 p2
      have t1 : (((L.map plateOf).map Plate.d)).take i = (L.map plateOf).map Plate.d := List.take_of_length_le (by simp [hlen])
      have t2 : (((L.map B4.a).map (D.int .i64))).take i = (L.map B4.a).map (D.int .i64) := List.take_of_length_le (by simp [hlen])
      have hbd : x.bath.d = .agg [.int .i64 x.low, .int .i64 (x.low + x.s.b % 6), .sl ((L.map plateOf).map Plate.d)] := by rw [← p1]; rfl
      rw [hbd, p2]
      simp only [go_sem, hlen, t1, t2, List.length_map]
  · have hie : i = x.plates.length := by simp at hd; omega
    obtain ⟨p1, p2⟩ := FIN (by rw [hie, List.take_length, List.take_of_length_le (by omega)])
    generalize x.plates.take i = L at hlen p1 p2
    have t1 : (((L.map plateOf).map Plate.d)).take i = (L.map plateOf).map Plate.d := List.take_of_length_le (by simp [hlen])
    have t2 : (((L.map B4.a).map (D.int .i64))).take i = (L.map B4.a).map (D.int .i64) := List.take_of_length_le (by simp [hlen])
    have hbd : x.bath.d = .agg [.int .i64 x.low, .int .i64 (x.low + x.s.b % 6), .sl ((L.map plateOf).map Plate.d)] := by rw [← p1]; rfl
    rw [hbd, p2]
    simp only [go_sem, hlen, t1, t2, List.length_map]
end Go.Aw
end

section
set_option maxRecDepth 100000
namespace Go.Aw
open Go Go.Proofs.Try

theorem c60 (b : Bath) (hb : b.plates.length ≤ 4294967295) : PC prog 60 [.d b.d] (.d b.d) := by
  refine PC.run (fun _ => false) tt_ok (fn := f60) (rs := [.cell 2 26]) rfl rfl rfl rfl rfl rfl rfl ?_
  have hsz := sized_plates b.plates
  have hle : b.plates.length ≤ 4294967296 := by omega
  simp only [go_sem, Bath.d, hsz, hle, List.length_map, List.nil_append, Nat.zero_add]

/-- How a plate truly comes out. -/
def trueHow (b : Bath) (rusts : List Int) (str : Int) (s : Step) : Int :=
  howP ⟨⟨0, 0⟩, 0, (b.pl s.plate).thin⟩ (rusts.getD s.plate.toNat 0) (str * s.hours)

/-- How plates truly come out, and how strong the acid is in the end. -/
def comesR (b : Bath) (rusts : List Int) : List Step → Int → List Int × Int
  | [], str => ([], str)
  | s :: r, str => (trueHow b rusts str s :: (comesR b rusts r (max 0 (str - (b.pl s.plate).takes))).1, (comesR b rusts r (max 0 (str - (b.pl s.plate).takes))).2)

theorem comesR_len (b : Bath) (rusts : List Int) : ∀ (l : List Step) (str : Int), (comesR b rusts l str).1.length = l.length
  | [], _ => rfl
  | s :: r, str => by simp [comesR, comesR_len b rusts r]

theorem comesR_weak (b : Bath) (rusts : List Int) : ∀ (l : List Step) (str : Int), (comesR b rusts l str).2 = weakF b (platesOf l) str
  | [], _ => rfl
  | s :: r, str => by
    simp only [comesR, platesOf, List.map_cons]
    rw [comesR_weak b rusts r]
    rfl

theorem comesR_append (b : Bath) (rusts : List Int) : ∀ (l : List Step) (s : Step) (str : Int), comesR b rusts (l ++ [s]) str = ((comesR b rusts l str).1 ++ [trueHow b rusts (comesR b rusts l str).2 s], max 0 ((comesR b rusts l str).2 - (b.pl s.plate).takes))
  | [], s, str => rfl
  | x :: r, s, str => by
    simp only [List.cons_append, comesR]
    rw [comesR_append b rusts r]

theorem c61 {b : Bath} (hok : b.Ok) (l : List Step) (str : Int) (rusts : List Int) (hl : l.length ≤ 1000) (hs : 0 ≤ str ∧ str ≤ 40) (hr : rusts.length = b.plates.length) (hrb : ∀ r ∈ rusts, 0 ≤ r ∧ r ≤ 600)
    (hm : ∀ x ∈ l, (0 ≤ x.plate ∧ x.plate < b.plates.length) ∧ 1 ≤ x.hours ∧ x.hours ≤ 24) :
    PC prog 61 [.d b.d, .d (.sl (l.map Step.d)), .d (.int .i64 str), .d (.sl (rusts.map (.int .i64)))] (.tup [.d (.sl ((comesR b rusts l str).1.map (.int .i64))), .d (.int .i64 (comesR b rusts l str).2)]) := by
  refine PC.run (fun k => k == 15) tt_ok (fn := f61) (rs := [.tmp 8, .tmp 9]) rfl rfl rfl rfl rfl rfl rfl ?_
  simp only [go_sem, Bath.d]
  refine ALoop.by (S := Nat) (fun i => [(11, .d (.int .i64 i)), (10, .ref 1 i 0 i), (4, .ptr 0 0), (3, .d (.sl (rusts.map (.int .i64)))), (2, .d (.int .i64 (comesR b rusts (l.take i) str).2)), (1, .d (.sl (l.map Step.d)))])
    (fun i => [bthB b, .arr 1 false ((comesR b rusts (l.take i) str).1.map (.int .i64))]) (fun i => l.length - i) (fun i => i ≤ l.length) 0 (by simp) (fun _ h => nomatch h) (Nat.zero_le _) ?_ ?_
  · exact ForgetTo.same' (by simp) (by simp [EWe, Env.look, comesR]) (by simp [bthB, comesR])
  rintro i hi hn
  have hcl := comesR_len b rusts (l.take i) str
  have hlen : (l.take i).length = i := by simp; omega
  rw [hlen] at hcl
  refine AWP.run (fun k => k == 15) tt_ok (fun _ h => nomatch h) (by simp) rfl ?_
  simp only [go_sem, bthB]
  refine Br_split (fun hd => ?_) (fun hd => ?_) <;> simp only [go_sem, hd]
  · have hlt : i < l.length := by simpa using hd
    obtain ⟨m1, m2⟩ := hm _ (List.getElem_mem hlt)
    have hix : idx? (l.map Step.d) (i : Int) = some (l[i]).d := by simp [idx?, List.getElem?_eq_getElem hlt]
    have hst : comesR b rusts (l.take (i + 1)) str = ((comesR b rusts (l.take i) str).1 ++ [trueHow b rusts (comesR b rusts (l.take i) str).2 l[i]], max 0 ((comesR b rusts (l.take i) str).2 - (b.pl l[i].plate).takes)) := by
      rw [List.take_succ_eq_append_getElem hlt, comesR_append]
    have hwk := comesR_weak b rusts (l.take i) str
    have hwb := weakF_bnd hok (platesOf (l.take i)) str hs.1 hs.2
    rw [← hwk] at hwb
    generalize l[i] = s at m1 m2 hix hst
    have hat := Bath.at (b := b) m1
    have hpl := hok.pl s.plate
    simp only [Plate.Ok] at hpl
    obtain ⟨q, hq⟩ : ∃ q : Nat, s.plate = q := ⟨s.plate.toNat, by omega⟩
    have hqr : q < rusts.length := by omega
    have hrx : idx? (rusts.map (D.int .i64)) s.plate = some (.int .i64 (rusts.getD s.plate.toNat 0)) := by
      rw [hq, idx_nat, List.getElem?_map, List.getElem?_eq_getElem hqr, Int.toNat_natCast, List.getD_eq_getElem?_getD, List.getElem?_eq_getElem hqr]; rfl
    have hrb2 : 0 ≤ rusts.getD s.plate.toNat 0 ∧ rusts.getD s.plate.toNat 0 ≤ 600 := by
      rw [hq, Int.toNat_natCast, List.getD_eq_getElem?_getD, List.getElem?_eq_getElem hqr]
      exact hrb _ (List.getElem_mem hqr)
    simp only [trueHow] at hst
    generalize rusts.getD s.plate.toNat 0 = ru at hst hrx hrb2
    generalize (comesR b rusts (l.take i) str).2 = st at hst hwb
    generalize b.pl s.plate = p at hat hpl hst
    have hmul : 0 ≤ st * s.hours ∧ st * s.hours ≤ 960 := by
      refine ⟨Int.mul_nonneg hwb.1 (by omega), ?_⟩
      have := Int.mul_le_mul hwb.2 m2.2 (by omega) (by omega : (0 : Int) ≤ 40)
      omega
    have hwm : IntKind.i64.wrap (st * s.hours) = st * s.hours := w64 (by omega) (by omega)
    have hwt : IntKind.i64.wrap (ru + p.thin) = ru + p.thin := w64 (by omega) (by omega)
    have hws : IntKind.i64.wrap (st - p.takes) = st - p.takes := w64 (by omega) (by omega)
    have hnx : IntKind.i64.wrap ((i : Int) + 1) = ((i + 1 : Nat) : Int) := w64 (by omega) (by omega)
    have hi1 : i + 1 ≤ 4294967296 := by omega
    simp only [go_sem, hix, Step.d, hwm, hrx]
    generalize st * s.hours = loses at hst
    have hcl1 : ((comesR b rusts (l.take i) str).1.map (D.int .i64)).length = i := by simp [hcl]
    refine Br_split (fun h1 => ?_) (fun h1 => ?_) <;> simp only [go_sem, h1]
    all_goals
      refine ADrw.treeG (fun k => k == 15) tt_ok (by kernel_rfl) (fun k => if k = 6 then some .L else some .S) (.ones [0, 1, 2, 3, 4, 5, 6, 7, 8, 9, 10, 11, 12] .done) (by simp) (fun _ h => nomatch h) rfl rfl (by kernel_rfl) ?_
      simp only [go_sem, hrx, hat, Plate.d, hwt]
      refine Br_split (fun h2 => ?_) (fun h2 => ?_) <;> simp only [go_sem, h1, h2]
    all_goals
      simp only [decide_eq_true_eq, decide_eq_false_iff_not] at h1 h2
      refine ADrw.treeG (fun k => k == 15) tt_ok (by kernel_rfl) (fun k => if k = 6 then some .L else if k = 3 then some .W else some .S) (.ones [0, 1, 2, 4, 5, 7] (.two 3 (.ones [6, 8, 9, 10, 11, 12, 13, 14] .done) 6 (.ones [3, 8, 9, 10, 11, 12, 13, 14] .done))) (by simp) (fun _ h => nomatch h) rfl rfl (by kernel_rfl) ?_
      simp only [go_sem, hat, Plate.d, hws, hcl1, hcl, hi1, List.length_map]
      repeat' refine And.intro ?_ ?_
      all_goals
        first
        | (exfalso; omega)
        | (refine ⟨i + 1, hlt, by omega, ?_⟩
           refine ForgetTo.same' (by simp) (by simp [EWe, Env.look, hst, hnx]) ?_
           rw [hst]
           simp [bthB, howP, h1, h2]
           done)
  · have hie : i = l.length := by simp at hd; omega
    subst hie
    rw [List.take_length] at hcl ⊢
    have t1 : ((comesR b rusts l str).1.map (D.int .i64)).take l.length = (comesR b rusts l str).1.map (D.int .i64) := List.take_of_length_le (by simp [hcl])
    simp only [go_sem, hcl, t1, List.length_map]
end Go.Aw
end

section
set_option maxRecDepth 100000
namespace Go.Aw
open Go Go.Proofs.Try

structure B2 where
  a : Int
  b : Int
deriving DecidableEq

def B2.d (s : B2) : D := .agg [.int .u8 s.a, .int .u8 s.b]

structure B2.Ok (s : B2) : Prop where
  a : Byte s.a
  b : Byte s.b

theorem stepsOk_one {np : Nat} {l : List Step} (h : stepsOk np 0 l = true) {s : Step} (h1 : 0 ≤ s.plate ∧ s.plate < np) (h2 : 1 ≤ s.hours ∧ s.hours ≤ 24) (h3 : s.plate ∉ platesOf l) : stepsOk np 0 (l ++ [s]) = true := by
  have hm := stepsOk_more h s.plate
  rw [stepsOk_append, h, Bool.true_and] at hm ⊢
  have w1 : within 0 ((np : Int) - 1) [s.plate] = true := within_one.2 (by omega)
  have w2 : within 1 24 [s.hours] = true := within_one.2 h2
  have w3 : within 1 24 [(1 : Int)] = true := by decide
  have h3' : decide (s.plate ∈ platesOf l) = false := by simpa using h3
  have e1 : stepBad np (doneF 0 l) s = (doneF 0 l).testBit s.plate.toNat := by simp only [stepBad, w1, w2, Bool.not_true, Bool.false_or]
  have e2 : stepBad np (doneF 0 l) ⟨s.plate, 1⟩ = (doneF 0 l).testBit s.plate.toNat := by simp only [stepBad, w1, w3, Bool.not_true, Bool.false_or]
  have e3 : ∀ x : Step, stepsOk np (doneF 0 l) [x] = !stepBad np (doneF 0 l) x := fun x => by
    simp only [stepsOk]
    cases stepBad np (doneF 0 l) x <;> rfl
  rw [e3, e2, w1, h3'] at hm
  rw [e3, e1]
  simpa using hm

end Go.Aw
end

section
set_option maxRecDepth 100000
namespace Go.Aw
open Go Go.Proofs.Try

theorem comesR_get (b : Bath) (rusts : List Int) : ∀ (l : List Step) (str : Int) (i : Nat) (h : i < l.length), (comesR b rusts l str).1[i]? = some (trueHow b rusts (comesR b rusts (l.take i) str).2 l[i])
  | [], _, i, h => by simp at h
  | s :: r, str, 0, _ => by simp [comesR]
  | s :: r, str, i + 1, h => by
    simp only [comesR, List.getElem?_cons_succ, List.take_succ_cons, List.getElem_cons_succ]
    exact comesR_get b rusts r _ i (by simpa using h)

theorem Vat.rust_in {x : Vat} (hx : x.Ok) {q : Nat} (hq : q < x.bath.plates.length) : (x.bath.pl q).rust.lo ≤ x.rusts.getD q 0 ∧ x.rusts.getD q 0 ≤ (x.bath.pl q).rust.hi := by
  have hq' : q < (x.plates.take 4).length := by simpa [Vat.bath] using hq
  have hm := hx.p _ (List.mem_of_mem_take (List.getElem_mem hq'))
  have e1 : x.bath.pl q = plateOf (x.plates.take 4)[q] := by
    simp only [Bath.pl, Int.toNat_natCast, Vat.bath, List.getD_eq_getElem?_getD, List.getElem?_map, List.getElem?_eq_getElem hq', Option.map_some, Option.getD_some]
  have e2 : x.rusts.getD q 0 = ((x.plates.take 4)[q]).a := by
    simp only [Vat.rusts, List.getD_eq_getElem?_getD, List.getElem?_map, List.getElem?_eq_getElem hq', Option.map_some, Option.getD_some]
  rw [e1, e2]
  have b1 := hm.a
  have b2 := hm.b
  simp only [Byte] at b1 b2
  simp only [plateOf]
  omega

theorem Vat.str_in {x : Vat} (hx : x.Ok) : x.bath.str.lo ≤ x.str ∧ x.str ≤ x.bath.str.hi := by
  have h2 := hx.s.b
  have h3 := hx.s.c
  simp only [Byte] at h2 h3
  have hz : x.s.b % 6 + 1 ≠ 0 := by omega
  have := Int.emod_nonneg x.s.c hz
  have := Int.emod_lt_of_pos x.s.c (show 0 < x.s.b % 6 + 1 by omega)
  simp only [Vat.bath, Vat.str]
  omega

end Go.Aw
end

section
set_option maxRecDepth 100000
namespace Go.Aw
open Go Go.Proofs

theorem has_b4s {f : Nat} {y : D} (h : HasT Try.prog (f + 4) 98 y) : ∃ l : List B4, y = .sl (l.map B4.d) ∧ ∀ p ∈ l, p.Ok := by
  unfold HasT at h
  rw [Try.underlying98] at h
  obtain ⟨l, rfl, _, hl⟩ := h
  obtain ⟨ss, rfl⟩ := has_list (enc := fun n : {n : B4 // n.Ok} => n.1.d) (fun y hy => by obtain ⟨n, rfl, hn⟩ := has_b4 hy; exact ⟨⟨n, hn⟩, rfl⟩) l hl
  refine ⟨ss.map Subtype.val, by simp, fun n hn => ?_⟩
  obtain ⟨x, _, rfl⟩ := List.mem_map.1 hn
  exact x.2

theorem has_vat {f : Nat} {y : D} (h : HasT Try.prog (f + 5) 100 y) : ∃ x : Vat, y = x.d ∧ x.Ok := by
  unfold HasT at h
  rw [Try.underlying100] at h
  obtain ⟨l, rfl, h⟩ := h
  simp only [HasFs] at h
  obtain ⟨y1, r1, rfl, h1, y2, r2, rfl, h2, rfl⟩ := h
  obtain ⟨s, rfl, hs⟩ := has_b3 h1
  obtain ⟨p, rfl, hp⟩ := has_b4s h2
  exact ⟨⟨s, p⟩, rfl, ⟨hs, hp⟩⟩
end Go.Aw
end

section
set_option maxRecDepth 100000
namespace Go.Aw
open Go Go.Proofs.Try

def extR (b : Bath) (most : Bool) : List Int := b.plates.map fun p => if most = true then p.rust.hi else p.rust.lo

theorem c65 (b : Bath) (most : Bool) (hb : b.plates.length ≤ 1000) : PC prog 65 [.d b.d, .d (.bool most)] (.d (.sl ((extR b most).map (.int .i64)))) := by
  refine PC.run (fun k => k == 8) tt_ok (fn := f65) (rs := [.tmp 4]) rfl rfl rfl rfl rfl rfl rfl ?_
  simp only [go_sem, Bath.d]
  refine ALoop.by (S := Nat) (fun i => [(6, .d (.int .i64 i)), (5, .ref 1 i 0 i), (2, .ptr 0 0), (1, .d (.bool most))]) (fun i => [bthB b, .arr 1 false (((b.plates.take i).map fun p => if most = true then p.rust.hi else p.rust.lo).map (.int .i64))]) (fun i => b.plates.length - i) (fun i => i ≤ b.plates.length) 0 (by simp) (fun _ h => nomatch h) (Nat.zero_le _) ?_ ?_
  · exact ForgetTo.same' (by simp) (by simp [EWe, Env.look]) (by simp [bthB])
  rintro i hi hn
  refine AWP.run (fun k => k == 8) tt_ok (fun _ h => nomatch h) (by simp) rfl ?_
  simp only [go_sem, bthB]
  refine Br_split (fun hd => ?_) (fun hd => ?_) <;> simp only [go_sem, hd]
  · have hlt : i < b.plates.length := by simpa using hd
    have hix : idx? (b.plates.map Plate.d) (i : Int) = some (b.plates[i]).d := by simp [idx?, List.getElem?_eq_getElem hlt]
    have hst : (b.plates.take (i + 1)) = b.plates.take i ++ [b.plates[i]] := List.take_succ_eq_append_getElem hlt
    have hln : (b.plates.take i).length = i := by simp; omega
    have hi1 : i + 1 ≤ 4294967296 := by omega
    generalize b.plates[i] = x at hix hst
    simp only [go_sem, hix, Plate.d]
    refine Br_split (fun hm => ?_) (fun hm => ?_) <;> simp only [go_sem, hix, Plate.d, hm, List.length_map, hln, hi1]
    · refine ⟨i + 1, hlt, by omega, ?_⟩
      exact ForgetTo.same' (by simp) (by simp [EWe, Env.look, w64 (n := (i : Int) + 1) (by omega) (by omega)]) (by rw [hst]; simp)
    · refine ⟨i + 1, hlt, by omega, ?_⟩
      exact ForgetTo.same' (by simp) (by simp [EWe, Env.look, w64 (n := (i : Int) + 1) (by omega) (by omega)]) (by rw [hst]; simp)
  · have hie : i = b.plates.length := by simp at hd; omega
    subst hie
    rw [List.take_length]
    have htk : ((b.plates.map fun p => if most = true then p.rust.hi else p.rust.lo).map (D.int .i64)).take b.plates.length = (extR b most).map (D.int .i64) := List.take_of_length_le (by simp)
    simp only [go_sem, htk, List.length_map]

/-- For which hours the plate surely comes out good. -/
theorem hoursW_iff {b : Bath} (hok : b.Ok) (before : List Int) (q : Int) {h : Int} (hh : 1 ≤ h ∧ h ≤ 24) :
    ((hoursW b q (fellF b before)).2 = true ∧ (hoursW b q (fellF b before)).1.lo ≤ h ∧ h ≤ (hoursW b q (fellF b before)).1.hi) ↔ (b.pl q).rust.hi ≤ (aftS (fellF b before) b.str).lo * h ∧ (aftS (fellF b before) b.str).hi * h ≤ (b.pl q).rust.lo + (b.pl q).thin := by
  obtain ⟨s1, s2, s3, _, _⟩ := id hok
  have hp := hok.pl q
  simp only [Plate.Ok] at hp
  have hA : 0 ≤ (aftS (fellF b before) b.str).lo ∧ (aftS (fellF b before) b.str).lo ≤ (aftS (fellF b before) b.str).hi := by simp only [aftS, aft]; omega
  have hlo : 0 < (aftS (fellF b before) b.str).lo → ((b.pl q).rust.hi ≤ (aftS (fellF b before) b.str).lo * h ↔ ((b.pl q).rust.hi + (aftS (fellF b before) b.str).lo - 1).tdiv (aftS (fellF b before) b.str).lo ≤ h) := fun hA0 => by
    rw [Int.tdiv_eq_ediv_of_nonneg (by omega)]
    have := Int.ediv_lt_iff_lt_mul (a := (b.pl q).rust.hi + (aftS (fellF b before) b.str).lo - 1) (b := h + 1) hA0
    rw [Int.add_mul, Int.mul_comm h] at this
    omega
  have hhi : 0 < (aftS (fellF b before) b.str).hi → ((aftS (fellF b before) b.str).hi * h ≤ (b.pl q).rust.lo + (b.pl q).thin ↔ h ≤ ((b.pl q).rust.lo + (b.pl q).thin).tdiv (aftS (fellF b before) b.str).hi) := fun hB0 => by
    rw [Int.tdiv_eq_ediv_of_nonneg (by omega)]
    have := Int.le_ediv_iff_mul_le (a := h) (b := (b.pl q).rust.lo + (b.pl q).thin) hB0
    rw [Int.mul_comm h] at this
    omega
  have z1 : ¬ 0 < (aftS (fellF b before) b.str).lo → (aftS (fellF b before) b.str).lo * h = 0 := fun hn => by rw [show (aftS (fellF b before) b.str).lo = 0 by omega]; simp
  have z2 : ¬ 0 < (aftS (fellF b before) b.str).hi → (aftS (fellF b before) b.str).hi * h = 0 := fun hn => by rw [show (aftS (fellF b before) b.str).hi = 0 by omega]; simp
  by_cases h0 : (aftS (fellF b before) b.str).lo ≤ 0 ∧ 0 < (b.pl q).rust.hi
  · have e : hoursW b q (fellF b before) = (⟨0, 0⟩, false) := by simp only [hoursW, if_pos h0]
    rw [e]
    have := z1 (by omega)
    simp only [Bool.false_eq_true, false_and, false_iff]
    omega
  · have e : hoursW b q (fellF b before) = (⟨hourLo b (b.pl q) (fellF b before), hourHi b (b.pl q) (fellF b before)⟩, decide (hourLo b (b.pl q) (fellF b before) ≤ hourHi b (b.pl q) (fellF b before))) := by simp only [hoursW, if_neg h0]
    rw [e]
    simp only [decide_eq_true_eq]
    unfold hourLo hourHi
    by_cases hA0 : 0 < (aftS (fellF b before) b.str).lo
    · have hB0 : 0 < (aftS (fellF b before) b.str).hi := by omega
      have k1 := hlo hA0
      have k2 := hhi hB0
      rw [if_pos hA0, if_pos hB0]
      omega
    · have k1 := z1 hA0
      rw [if_neg hA0]
      by_cases hB0 : 0 < (aftS (fellF b before) b.str).hi
      · have k2 := hhi hB0
        rw [if_pos hB0]
        omega
      · have k2 := z2 hB0
        rw [if_neg hB0]
        omega

/-- Good in a truth and in both worst ones. -/
def goodB (b : Bath) (rusts : List Int) (str : Int) (before : List Step) (p h : Int) : Bool :=
  decide (trueHow b rusts (weakF b (platesOf before) str) ⟨p, h⟩ = 2) && decide (trueHow b (extR b true) (weakF b (platesOf before) b.str.lo) ⟨p, h⟩ = 2) && decide (trueHow b (extR b false) (weakF b (platesOf before) b.str.hi) ⟨p, h⟩ = 2)

theorem extR_get {b : Bath} {q : Nat} (hq : q < b.plates.length) (m : Bool) : (extR b m).getD q 0 = if m = true then (b.pl q).rust.hi else (b.pl q).rust.lo := by
  simp only [extR, Bath.pl, Int.toNat_natCast, List.getD_eq_getElem?_getD, List.getElem?_map, List.getElem?_eq_getElem hq, Option.map_some, Option.getD_some]

theorem goodB_iff {b : Bath} (hok : b.Ok) {rusts : List Int} {str : Int} (before : List Step) {p h : Int} (hp : 0 ≤ p ∧ p < b.plates.length) (hs : b.str.lo ≤ str ∧ str ≤ b.str.hi) (hr : (b.pl p).rust.lo ≤ rusts.getD p.toNat 0 ∧ rusts.getD p.toNat 0 ≤ (b.pl p).rust.hi) (hh : 1 ≤ h ∧ h ≤ 24) :
    goodB b rusts str before p h = true ↔ ((hoursW b p (fellF b (platesOf before))).2 = true ∧ (hoursW b p (fellF b (platesOf before))).1.lo ≤ h ∧ h ≤ (hoursW b p (fellF b (platesOf before))).1.hi) := by
  rw [hoursW_iff hok (platesOf before) p hh]
  obtain ⟨s1, s2, s3, _, _⟩ := id hok
  have hpl := hok.pl p
  simp only [Plate.Ok] at hpl
  obtain ⟨q, rfl⟩ : ∃ q : Nat, p = q := ⟨p.toNat, by omega⟩
  have e1 := extR_get (b := b) (q := q) (by omega) true
  have e2 := extR_get (b := b) (q := q) (by omega) false
  simp only [if_true, Bool.false_eq_true, if_false] at e1 e2
  have hF := fellF_nn hok (platesOf before)
  simp only [goodB, Bool.and_eq_true, decide_eq_true_eq]
  simp only [trueHow, Int.toNat_natCast, e1, e2, aftS] at hr ⊢
  rw [weak_aft hok _ _ (show 0 ≤ str by omega), weak_aft hok _ _ (show 0 ≤ b.str.lo by omega), weak_aft hok _ _ (show 0 ≤ b.str.hi by omega)]
  have t : ∀ r l : Int, howP ⟨⟨0, 0⟩, 0, (b.pl q).thin⟩ r l = 2 ↔ r ≤ l ∧ l ≤ r + (b.pl q).thin := fun r l => howP_two
  rw [t, t, t]
  generalize fellF b (platesOf before) = F at hF
  have m1 : aft F b.str.lo * h ≤ aft F str * h := Int.mul_le_mul_of_nonneg_right (by simp only [aft]; omega) (by omega)
  have m2 : aft F str * h ≤ aft F b.str.hi * h := Int.mul_le_mul_of_nonneg_right (by simp only [aft]; omega) (by omega)
  generalize aft F b.str.lo * h = X at m1
  generalize aft F str * h = Y at m1 m2
  generalize aft F b.str.hi * h = Z at m2
  omega

end Go.Aw
end

section
set_option maxRecDepth 100000
namespace Go.Aw
open Go Go.Proofs.Try

def platesS (l : List Seen) : List Int := platesOf (l.map Seen.step)

end Go.Aw
end

section
set_option maxRecDepth 100000
namespace Go.Aw
open Go Go.Proofs.Try

structure Lgs (b : Bath) (l : List Seen) : Prop where
  ok : b.Ok
  len : l.length ≤ 5
  mem : ∀ s ∈ l, (0 ≤ s.step.plate ∧ s.step.plate < b.plates.length) ∧ 1 ≤ s.step.hours ∧ s.step.hours ≤ 24
  how : ∀ s ∈ l, 1 ≤ s.how ∧ s.how ≤ 3
  nodup : (platesS l).Nodup

end Go.Aw
end

section
set_option maxRecDepth 100000
namespace Go.Aw
open Go Go.Proofs.Try

def Inn (a b : Sp) : Prop := b.lo ≤ a.lo ∧ a.hi ≤ b.hi

def atP (l : List Sp) (p : Nat) : Sp := l.getD p ⟨0, 0⟩

structure Hul (n : Nat) (f : Nat → Option (List Sp)) (i k h : Nat) (r : List Sp) : Prop where
  len : r.length = n
  kin : (f k).isSome = true
  hin : (f h).isSome = true
  kh : k ≤ h
  hlt : h < i
  all : ∀ j now, j < i → f j = some now → (k ≤ j ∧ j ≤ h) ∧ ∀ p : Nat, p < n → Inn (atP now p) (atP r p)
  least : ∀ R : Nat → Sp, (∀ j now, j < i → f j = some now → ∀ p : Nat, p < n → Inn (atP now p) (R p)) → ∀ p : Nat, p < n → Inn (atP r p) (R p)

end Go.Aw
end

section
set_option maxRecDepth 100000
namespace Go.Aw
open Go Go.Proofs.Try

def vatB (x : Vat) : Blk := .cells [.d (.int .u8 x.s.a), .d (.int .u8 x.s.b), .d (.int .u8 x.s.c), .d (.sl (x.plates.map B4.d))]
end Go.Aw
end

section
set_option maxRecDepth 100000
namespace Go.Aw
open Go Go.Proofs.Try

/-- All steps for some plates, by bits, those of smaller plates first. -/
def seqF (b : Bath) : Nat → Nat → Int → List (List Step × Int)
  | 0, _, _ => [([], 0)]
  | n + 1, left, fell =>
    if left = 0 then [([], 0)]
    else (List.range b.plates.length).flatMap fun p : Nat => if (left.testBit p && (hoursW b p fell).2) = true then
      (seqF b n (clr left p) (fell + (b.pl p).takes)).map fun q => (⟨p, (hoursW b p fell).1.lo⟩ :: q.1, (hoursW b p fell).1.lo + q.2) else []

theorem onF_seq (b : Bath) : ∀ (n left : Nat) (l : List Step) (fell hours : Int) (s : Best), onF b n left l fell hours s = (seqF b n left fell).foldl (fun s q => endS (l ++ q.1) (hours + q.2) s) s
  | 0, left, l, fell, hours, s => by simp [onF, seqF]
  | n + 1, left, l, fell, hours, s => by
    by_cases h0 : left = 0
    · simp [onF, seqF, h0]
    · rw [onF, seqF, if_neg h0, if_neg h0, List.foldl_flatMap]
      congr 1
      funext s p
      split
      · rw [onF_seq b n, List.foldl_map]
        simp only [List.append_assoc, List.singleton_append, Int.add_assoc]
      · rfl

def beforeL : List Int → List Int → Bool
  | x :: a, y :: c => if x ≠ y then decide (x < y) else beforeL a c
  | _, _ => false

theorem beforeL_irr : ∀ a : List Int, beforeL a a = false
  | [] => rfl
  | x :: a => by simp [beforeL, beforeL_irr a]

theorem beforeL_asym : ∀ a c : List Int, beforeL a c = true → beforeL c a = false
  | [], _, h => by simp [beforeL] at h
  | _ :: _, [], h => by simp [beforeL] at h
  | x :: a, y :: c, h => by
    simp only [beforeL] at h ⊢
    by_cases e : x = y
    · subst e
      simp only [ne_eq, not_true, if_false] at h ⊢
      exact beforeL_asym a c h
    · rw [if_pos e] at h
      rw [if_pos (fun h => e h.symm)]
      simp only [decide_eq_true_eq] at h
      simp only [decide_eq_false_iff_not]
      omega

def lexR (q r : List Step × Int) : Prop := beforeL (platesOf q.1) (platesOf r.1) = true

theorem seqF_lex (b : Bath) : ∀ (n left : Nat) (fell : Int), (seqF b n left fell).Pairwise lexR
  | 0, _, _ => by simp [seqF]
  | n + 1, left, fell => by
    rw [seqF]
    split
    · simp
    · rw [List.pairwise_flatMap]
      constructor
      · intro p _
        split
        · rw [List.pairwise_map]
          refine (seqF_lex b n _ _).imp fun {q r} h => ?_
          simp only [lexR, platesOf, List.map_cons, beforeL, ne_eq, not_true, if_false] at h ⊢
          exact h
        · exact List.Pairwise.nil
      · refine List.pairwise_lt_range.imp fun {p p'} hlt q hq r hr => ?_
        split at hq
        · split at hr
          · obtain ⟨q', _, rfl⟩ := List.mem_map.1 hq
            obtain ⟨r', _, rfl⟩ := List.mem_map.1 hr
            simp only [lexR, platesOf, List.map_cons, beforeL]
            rw [if_pos (by omega)]
            simp only [decide_eq_true_eq]
            omega
          · cases hr
        · cases hq

/-- The best of a list. -/
structure Top (Q : List (List Step × Int)) (s : Best) : Prop where
  found : s.found = true
  mem : (s.best, s.hrs) ∈ Q
  least : ∀ q ∈ Q, s.hrs ≤ q.2 ∧ (q.2 = s.hrs → beforeL (platesOf q.1) (platesOf s.best) = false)

theorem top_step {Q : List (List Step × Int)} {q : List Step × Int} {s : Best} (h : (Q = [] ∧ s.found = false) ∨ Top Q s) (hq : ∀ r ∈ Q, lexR r q) : Top (Q ++ [q]) (endS q.1 q.2 s) := by
  rcases h with ⟨rfl, hf⟩ | h
  · rw [endS, hf]
    simp only [Bool.not_false, Bool.true_or, if_true, List.nil_append]
    exact ⟨rfl, by simp, fun r hr => by
      simp only [List.mem_singleton] at hr
      subst hr
      exact ⟨Int.le_refl _, fun _ => beforeL_irr _⟩⟩
  · rw [endS, h.found]
    simp only [Bool.not_true, Bool.false_or, decide_eq_true_eq]
    split
    · rename_i hlt
      refine ⟨rfl, by simp, fun r hr => ?_⟩
      rcases List.mem_append.1 hr with hr | hr
      · have := (h.least r hr).1
        exact ⟨by simp only; omega, fun e => by simp only at e; omega⟩
      · simp only [List.mem_singleton] at hr
        subst hr
        exact ⟨Int.le_refl _, fun _ => beforeL_irr _⟩
    · rename_i hlt
      refine ⟨h.found, List.mem_append_left _ h.mem, fun r hr => ?_⟩
      rcases List.mem_append.1 hr with hr | hr
      · exact h.least r hr
      · simp only [List.mem_singleton] at hr
        subst hr
        exact ⟨by omega, fun _ => beforeL_asym _ _ (hq _ h.mem)⟩

theorem top_fold : ∀ (R Q : List (List Step × Int)) (s : Best), (Q = [] ∧ s.found = false) ∨ Top Q s → (Q ++ R).Pairwise lexR → ((Q ++ R = [] ∧ (R.foldl (fun s q => endS q.1 q.2 s) s).found = false) ∨ Top (Q ++ R) (R.foldl (fun s q => endS q.1 q.2 s) s))
  | [], Q, s, h, _ => by simpa using h
  | q :: R, Q, s, h, hp => by
    have hq : ∀ r ∈ Q, lexR r q := fun r hr => (List.pairwise_append.1 hp).2.2 r hr q List.mem_cons_self
    have e : Q ++ q :: R = (Q ++ [q]) ++ R := by simp
    rw [e] at hp ⊢
    rw [List.foldl_cons]
    exact top_fold R (Q ++ [q]) _ (.inr (top_step h hq)) hp

theorem best_top (b : Bath) (set : Nat) : (seqF b 31 set 0 = [] ∧ (bestOf b set).found = false) ∨ Top (seqF b 31 set 0) (bestOf b set) := by
  have h := top_fold (seqF b 31 set 0) [] ⟨[], 0, false⟩ (.inl ⟨rfl, rfl⟩) (by simpa using seqF_lex b 31 set 0)
  rw [bestOf, onF_seq]
  simpa using h

/-- Steps that surely come out well, each with the least hours. -/
structure Well (b : Bath) (left : Nat) (fell : Int) (l : List Step) (h : Int) : Prop where
  nodup : (platesOf l).Nodup
  mem : ∀ p : Nat, (p : Int) ∈ platesOf l ↔ left.testBit p = true ∧ p < b.plates.length
  nn : ∀ s ∈ l, 0 ≤ s.plate ∧ s.plate < b.plates.length
  step : ∀ (i : Nat) (s : Step), l[i]? = some s → (hoursW b s.plate (fell + fellF b (platesOf (l.take i)))).2 = true ∧ s.hours = (hoursW b s.plate (fell + fellF b (platesOf (l.take i)))).1.lo
  sum : h = (l.map Step.hours).sum

theorem clr_left {left p : Nat} (h : left.testBit p = true) (q : Nat) : (clr left p).testBit q = true ↔ left.testBit q = true ∧ q ≠ p := by
  rw [clr_bit]
  by_cases e : p = q
  · subst e; simp [h]
  · have : q ≠ p := fun h => e h.symm
    simp [e, this]

theorem seqF_well (b : Bath) : ∀ (n left : Nat) (fell : Int), left ≤ n → left < 2 ^ b.plates.length → ∀ q, q ∈ seqF b n left fell ↔ Well b left fell q.1 q.2
  | n, left, fell, hn, hlt, ⟨l, h⟩ => by
    by_cases h0 : left = 0
    · have e : seqF b n left fell = [([], 0)] := by cases n <;> simp [seqF, h0]
      rw [e, List.mem_singleton]
      constructor
      · rintro ⟨⟩
        exact ⟨List.nodup_nil, fun p => by simp [platesOf, h0], fun s hs => absurd hs (by simp), fun i s h => absurd h (by simp), rfl⟩
      · intro W
        cases l with
        | nil => rw [Prod.mk.injEq]; exact ⟨rfl, W.sum⟩
        | cons s r =>
          have hs := W.nn s List.mem_cons_self
          have := (W.mem s.plate.toNat).1 (by rw [show ((s.plate.toNat : Nat) : Int) = s.plate by omega]; simp [platesOf])
          rw [h0] at this
          simp at this
    · cases n with
      | zero => omega
      | succ n =>
        rw [seqF, if_neg h0, List.mem_flatMap]
        constructor
        · rintro ⟨p, hp, hq⟩
          rw [List.mem_range] at hp
          split at hq
          · rename_i hc
            simp only [Bool.and_eq_true] at hc
            obtain ⟨⟨l', h'⟩, hm, he⟩ := List.mem_map.1 hq
            simp only [Prod.mk.injEq] at he
            obtain ⟨rfl, rfl⟩ := he
            have hcl := clr_lt hc.1
            have W := (seqF_well b n (clr left p) _ (by omega) (by omega) (l', h')).1 hm
            refine ⟨?_, fun q => ?_, fun s hs => ?_, fun i s hs => ?_, ?_⟩
            · simp only [platesOf, List.map_cons, List.nodup_cons]
              refine ⟨fun hin => ?_, W.nodup⟩
              have := (W.mem p).1 hin
              rw [clr_left hc.1] at this
              exact this.1.2 rfl
            · simp only [platesOf, List.map_cons, List.mem_cons]
              have := W.mem q
              simp only [platesOf] at this
              rw [this, clr_left hc.1]
              constructor
              · rintro (e | ⟨⟨h1, h2⟩, h3⟩)
                · have : q = p := by omega
                  subst this
                  exact ⟨hc.1, hp⟩
                · exact ⟨h1, h3⟩
              · rintro ⟨h1, h2⟩
                by_cases e : q = p
                · left; rw [e]
                · exact .inr ⟨⟨h1, e⟩, h2⟩
            · rcases List.mem_cons.1 hs with rfl | hs
              · simp only; omega
              · exact W.nn s hs
            · cases i with
              | zero =>
                simp only [List.getElem?_cons_zero, Option.some.injEq] at hs
                subst hs
                simp only [List.take_zero, platesOf, List.map_nil, fellF, List.sum_nil, Int.add_zero]
                exact ⟨hc.2, trivial⟩
              | succ i =>
                rw [List.getElem?_cons_succ] at hs
                have := W.step i s hs
                simp only [List.take_succ_cons, platesOf, List.map_cons, fellF, List.sum_cons, ← Int.add_assoc] at this ⊢
                exact this
            · simp only [List.map_cons, List.sum_cons]
              have hsum : h' = (l'.map Step.hours).sum := W.sum
              rw [← hsum]
          · cases hq
        · intro W
          cases l with
          | nil =>
            obtain ⟨p, hp⟩ := Nat.exists_testBit_of_ne_zero h0
            have hpl : p < b.plates.length := by
              refine Classical.byContradiction fun hc => ?_
              rw [Nat.testBit_lt_two_pow (Nat.lt_of_lt_of_le hlt (Nat.pow_le_pow_right (by omega) (by omega)))] at hp
              cases hp
            have := (W.mem p).2 ⟨hp, hpl⟩
            simp [platesOf] at this
          | cons s r =>
            have hs := W.nn s List.mem_cons_self
            obtain ⟨p, hp⟩ : ∃ p : Nat, s.plate = p := ⟨s.plate.toNat, by omega⟩
            have hpm := (W.mem p).1 (by rw [← hp]; simp [platesOf])
            have hst := W.step 0 s rfl
            simp only [List.take_zero, platesOf, List.map_nil, fellF, List.sum_nil, Int.add_zero] at hst
            rw [hp] at hst
            have hnd := W.nodup
            simp only [platesOf, List.map_cons, List.nodup_cons] at hnd
            have hcl := clr_lt hpm.1
            refine ⟨p, List.mem_range.2 hpm.2, ?_⟩
            rw [if_pos (by rw [hpm.1, hst.1]; rfl)]
            refine List.mem_map.2 ⟨(r, (r.map Step.hours).sum), ?_, ?_⟩
            · refine (seqF_well b n (clr left p) _ (by omega) (by omega) _).2 ⟨hnd.2, fun q => ?_, fun x hx => W.nn x (List.mem_cons_of_mem _ hx), fun i x hx => ?_, rfl⟩
              · rw [clr_left hpm.1]
                have := W.mem q
                simp only [platesOf, List.map_cons, List.mem_cons] at this ⊢
                constructor
                · intro hq
                  obtain ⟨h1, h2⟩ := this.1 (.inr hq)
                  refine ⟨⟨h1, fun e => ?_⟩, h2⟩
                  rw [e, ← hp] at hq
                  exact hnd.1 hq
                · rintro ⟨⟨h1, h2⟩, h3⟩
                  rcases this.2 ⟨h1, h3⟩ with h4 | h4
                  · omega
                  · exact h4
              · have := W.step (i + 1) x (by rw [List.getElem?_cons_succ]; exact hx)
                simp only [List.take_succ_cons, platesOf, List.map_cons, fellF, List.sum_cons, ← Int.add_assoc, hp] at this ⊢
                exact this
            · have hsum : h = ((s :: r).map Step.hours).sum := W.sum
              rw [hsum, ← hst.2, ← hp]
              rfl
end Go.Aw
end

section
set_option maxRecDepth 100000
namespace Go.Aw
open Go Go.Proofs.Try

theorem nodup_le : ∀ (l m : List Int), l.Nodup → (∀ x ∈ l, x ∈ m) → l.length ≤ m.length
  | [], m, _, _ => Nat.zero_le _
  | x :: l, m, hd, hs => by
    rw [List.nodup_cons] at hd
    have hx := hs x List.mem_cons_self
    have h1 := nodup_le l (m.erase x) hd.2 fun y hy => by
      have : y ≠ x := fun e => hd.1 (e ▸ hy)
      rw [List.mem_erase_of_ne this]
      exact hs y (List.mem_cons_of_mem _ hy)
    have h2 := List.length_erase_of_mem hx
    have h3 : 0 < m.length := List.length_pos_of_mem hx
    simp only [List.length_cons]
    omega

theorem two_pow_bit {n p : Nat} (h : p < n) : (2 ^ n - 1).testBit p = true := by
  rw [Nat.testBit_two_pow_sub_one]; simpa using h

theorem well_len {b : Bath} {l : List Step} {h fell : Int} (W : Well b (2 ^ b.plates.length - 1) fell l h) : l.length = b.plates.length := by
  have h1 := nodup_le (platesOf l) ((List.range b.plates.length).map fun p : Nat => (p : Int)) W.nodup fun x hx => by
    obtain ⟨s, hs, rfl⟩ := List.mem_map.1 hx
    have := W.nn s hs
    exact List.mem_map.2 ⟨s.plate.toNat, List.mem_range.2 (by omega), by omega⟩
  have h2 := nodup_le ((List.range b.plates.length).map fun p : Nat => (p : Int)) (platesOf l) (by
    rw [List.Nodup, List.pairwise_map]
    exact List.pairwise_lt_range.imp fun h e => by omega) fun x hx => by
    obtain ⟨p, hp, rfl⟩ := List.mem_map.1 hx
    exact (W.mem p).2 ⟨two_pow_bit (List.mem_range.1 hp), List.mem_range.1 hp⟩
  simp only [platesOf, List.length_map, List.length_range] at h1 h2
  omega

theorem stepsOk_of {np : Nat} {l : List Step} (hd : (platesOf l).Nodup) (hm : ∀ s ∈ l, (0 ≤ s.plate ∧ s.plate < np) ∧ 1 ≤ s.hours ∧ s.hours ≤ 24) : ∀ i, i ≤ l.length → stepsOk np 0 (l.take i) = true
  | 0, _ => by simp [stepsOk]
  | i + 1, h => by
    have hi : i < l.length := by omega
    have hs := hm _ (List.getElem_mem hi)
    rw [List.take_succ_eq_append_getElem hi]
    refine stepsOk_one (stepsOk_of hd hm i (by omega)) hs.1 hs.2 fun hin => ?_
    have e : platesOf (l.take i) = (platesOf l).take i := by simp [platesOf]
    rw [e] at hin
    obtain ⟨j, hj⟩ := List.getElem?_of_mem hin
    rw [List.getElem?_take] at hj
    split at hj
    · rename_i hji
      have h2 : (platesOf l)[i]? = some (l[i]).plate := by simp [platesOf, List.getElem?_eq_getElem hi]
      have := (List.getElem?_inj (by simp [platesOf]; omega) hd).1 (hj.trans h2.symm)
      omega
    · cases hj

theorem well_hours {b : Bath} (hok : b.Ok) {l : List Step} {h : Int} {left : Nat} (W : Well b left 0 l h) : ∀ s ∈ l, (0 ≤ s.plate ∧ s.plate < b.plates.length) ∧ 1 ≤ s.hours ∧ s.hours ≤ 24 := fun s hs => by
  obtain ⟨i, hi⟩ := List.getElem?_of_mem hs
  have := W.step i s hi
  have := hoursW_lo hok this.1
  exact ⟨W.nn s hs, by omega⟩

/-- Hours answers for each plate of the order with its hours. -/
theorem order_hours {b : Bath} (hok : b.Ok) {l : List Step} {h : Int} {left : Nat} (W : Well b left 0 l h) {i : Nat} (hi : i < l.length) : ∃ w : Sp, hoursP b (l.take i) (l[i]).plate = (w, 0) ∧ w.lo = (l[i]).hours := by
  have hm := well_hours hok W
  have h1 := stepsOk_of (np := b.plates.length) W.nodup hm i (by omega)
  have h2 := stepsOk_of (np := b.plates.length) W.nodup hm (i + 1) (by omega)
  rw [List.take_succ_eq_append_getElem hi] at h2
  have hs := hm _ (List.getElem_mem hi)
  have hst := W.step i _ (List.getElem?_eq_getElem hi)
  rw [Int.zero_add] at hst
  have h3 : stepsOk b.plates.length 0 (l.take i ++ [⟨(l[i]).plate, 1⟩]) = true := by
    refine stepsOk_one h1 hs.1 (by simp) fun hin => ?_
    have e : platesOf (l.take i) = (platesOf l).take i := by simp [platesOf]
    rw [e] at hin
    obtain ⟨j, hj⟩ := List.getElem?_of_mem hin
    rw [List.getElem?_take] at hj
    split at hj
    · rename_i hji
      have h2 : (platesOf l)[i]? = some (l[i]).plate := by simp [platesOf, List.getElem?_eq_getElem hi]
      have := (List.getElem?_inj (by simp [platesOf]; omega) W.nodup).1 (hj.trans h2.symm)
      omega
    · cases hj
  refine ⟨(hoursW b (l[i]).plate (fellF b (platesOf (l.take i)))).1, ?_, hst.2.symm⟩
  rw [hoursP, if_pos (checkP_iff.2 hok), if_pos h1, if_pos h3, if_pos hst.1]

theorem hoursW_hi {b : Bath} {p fell : Int} (h : (hoursW b p fell).2 = true) : (hoursW b p fell).1.lo ≤ (hoursW b p fell).1.hi := by
  unfold hoursW at h ⊢
  split
  · rename_i hc; rw [if_pos hc] at h; cases h
  · rename_i hc
    rw [if_neg hc] at h
    simpa using h

/-- By the order each plate truly comes out well. -/
theorem order_good {b : Bath} (hok : b.Ok) {l : List Step} {h : Int} {left : Nat} (W : Well b left 0 l h) {i : Nat} (hi : i < l.length) {rusts : List Int} {str : Int} (hs : b.str.lo ≤ str ∧ str ≤ b.str.hi)
    (hr : ∀ q : Nat, q < b.plates.length → (b.pl q).rust.lo ≤ rusts.getD q 0 ∧ rusts.getD q 0 ≤ (b.pl q).rust.hi) :
    (comesR b rusts l str).1[i]? = some 2 ∧ (comesR b (extR b true) l b.str.lo).1[i]? = some 2 ∧ (comesR b (extR b false) l b.str.hi).1[i]? = some 2 := by
  have hm := well_hours hok W _ (List.getElem_mem hi)
  have hst := W.step i _ (List.getElem?_eq_getElem hi)
  rw [Int.zero_add] at hst
  have hlo := hoursW_hi hst.1
  have hg := (goodB_iff hok (rusts := rusts) (str := str) (l.take i) (p := (l[i]).plate) (h := (l[i]).hours) hm.1 hs (by
    have := hr (l[i]).plate.toNat (by omega)
    rw [show (((l[i]).plate.toNat : Nat) : Int) = (l[i]).plate by omega] at this
    exact this) hm.2).2 ⟨hst.1, by omega, by omega⟩
  simp only [goodB, Bool.and_eq_true, decide_eq_true_eq] at hg
  rw [comesR_get b rusts l str i hi, comesR_get b _ l b.str.lo i hi, comesR_get b _ l b.str.hi i hi, comesR_weak, comesR_weak, comesR_weak]
  exact ⟨by rw [hg.1.1], by rw [hg.1.2], by rw [hg.2]⟩

/-- Other plates, one after another, as far as they surely come out well. -/
def tryF (b : Bath) (o : List Int) : Nat → List Step × Int × Bool
  | 0 => ([], 0, true)
  | p + 1 => ((tryF b o p).1 ++ [⟨o.getD p 0, max 1 (hoursP b (tryF b o p).1 (o.getD p 0)).1.lo⟩], (tryF b o p).2.1 + (hoursP b (tryF b o p).1 (o.getD p 0)).1.lo, decide ((hoursP b (tryF b o p).1 (o.getD p 0)).2 = 0))

theorem hoursP_zero {b : Bath} {l : List Step} {p : Int} (h : (hoursP b l p).2 = 0) : checkP b = 0 ∧ (hoursW b p (fellF b (platesOf l))).2 = true ∧ (hoursP b l p).1 = (hoursW b p (fellF b (platesOf l))).1 := by
  unfold hoursP at h ⊢
  split at h
  · rename_i h0
    split at h
    · rename_i h1
      split at h
      · rename_i h2
        split at h
        · rename_i h3
          rw [if_pos h0, if_pos h1, if_pos h2, if_pos h3]
          exact ⟨h0, h3, rfl⟩
        · cases h
      · cases h
    · cases h
  · rename_i h0; exact absurd h h0

theorem hoursP_lo {b : Bath} (hok : b.Ok) (l : List Step) (p : Int) : 0 ≤ (hoursP b l p).1.lo ∧ (hoursP b l p).1.lo ≤ 24 := by
  unfold hoursP
  split
  · split
    · split
      · split
        · rename_i h
          have := hoursW_lo hok h
          simp only; omega
        · decide
      · exact ⟨Int.le_refl _, by decide⟩
    · exact ⟨Int.le_refl _, by decide⟩
  · exact ⟨Int.le_refl _, show (0 : Int) ≤ 24 by decide⟩

theorem tryF_len (b : Bath) (o : List Int) : ∀ p, (tryF b o p).1.length = p
  | 0 => rfl
  | p + 1 => by simp [tryF, tryF_len b o p]

theorem tryF_bnd {b : Bath} (hok : b.Ok) (o : List Int) : ∀ p, 0 ≤ (tryF b o p).2.1 ∧ (tryF b o p).2.1 ≤ 24 * p
  | 0 => by simp [tryF]
  | p + 1 => by
    have h1 := tryF_bnd hok o p
    have h2 := hoursP_lo hok (tryF b o p).1 (o.getD p 0)
    simp only [tryF]
    omega

theorem tryF_well {b : Bath} (hok : b.Ok) {o : List Int} (hd : o.Nodup) (ho : ∀ x : Int, x ∈ o ↔ 0 ≤ x ∧ x < b.plates.length) (hok2 : ∀ j, j ≤ o.length → (tryF b o j).2.2 = true) :
    Well b (2 ^ b.plates.length - 1) 0 (tryF b o o.length).1 (tryF b o o.length).2.1 := by
  have key : ∀ p, p ≤ o.length → platesOf (tryF b o p).1 = o.take p ∧ (tryF b o p).2.1 = ((tryF b o p).1.map Step.hours).sum ∧ ∀ (i : Nat) (s : Step), (tryF b o p).1[i]? = some s → (hoursW b s.plate (fellF b (platesOf ((tryF b o p).1.take i)))).2 = true ∧ s.hours = (hoursW b s.plate (fellF b (platesOf ((tryF b o p).1.take i)))).1.lo := by
    intro p
    induction p with
    | zero => intro _; exact ⟨rfl, rfl, fun i s h => by simp [tryF] at h⟩
    | succ p ih =>
      intro hp
      obtain ⟨i1, i2, i3⟩ := ih (by omega)
      have hk := hok2 (p + 1) hp
      have hlen := tryF_len b o p
      simp only [tryF, decide_eq_true_eq] at hk
      obtain ⟨z0, z1, z2⟩ := hoursP_zero hk
      have hlo := hoursW_lo hok z1
      have hmx : max 1 (hoursP b (tryF b o p).1 (o.getD p 0)).1.lo = (hoursW b (o.getD p 0) (fellF b (platesOf (tryF b o p).1))).1.lo := by rw [z2]; omega
      simp only [tryF]
      rw [hmx, z2]
      have hg : o[p]? = some (o.getD p 0) := by rw [List.getD_eq_getElem?_getD, List.getElem?_eq_getElem (by omega)]; rfl
      refine ⟨?_, ?_, fun i s hs => ?_⟩
      · rw [List.take_add_one, hg, ← i1]
        simp [platesOf]
      · rw [i2]; simp
      · by_cases hi : i < p
        · rw [List.getElem?_append_left (by omega)] at hs
          rw [List.take_append_of_le_length (by omega)]
          exact i3 i s hs
        · by_cases he : i = p
          · subst he
            rw [List.getElem?_append_right (by omega), hlen, Nat.sub_self] at hs
            simp only [List.getElem?_cons_zero, Option.some.injEq] at hs
            subst hs
            rw [List.take_append_of_le_length (by omega), List.take_of_length_le (by omega)]
            exact ⟨z1, rfl⟩
          · rw [List.getElem?_eq_none (by simp [hlen]; omega)] at hs
            cases hs
  obtain ⟨k1, k2, k3⟩ := key o.length (Nat.le_refl _)
  rw [List.take_length] at k1
  refine ⟨by rw [k1]; exact hd, fun p => ?_, fun s hs => ?_, fun i s hs => by rw [Int.zero_add]; exact k3 i s hs, k2⟩
  · rw [k1, ho]
    constructor
    · intro h; exact ⟨two_pow_bit (by omega), by omega⟩
    · intro h; omega
  · exact (ho _).1 (by rw [← k1]; exact List.mem_map.2 ⟨s, hs, rfl⟩)

theorem pow_set {n : Nat} (h : n ≤ 4) : 2 ^ n - 1 ≤ 31 := by
  have h4 : n = 0 ∨ n = 1 ∨ n = 2 ∨ n = 3 ∨ n = 4 := by omega
  rcases h4 with rfl | rfl | rfl | rfl | rfl <;> decide

/-- What Order answers. -/
theorem order_facts {b : Bath} (hok : b.Ok) (h4 : b.plates.length ≤ 4) :
    (orderP b = ([], 9) ∧ ∀ l h, ¬ Well b (2 ^ b.plates.length - 1) 0 l h) ∨
    ∃ l h, orderP b = (l, 0) ∧ Well b (2 ^ b.plates.length - 1) 0 l h ∧ ∀ l' h', Well b (2 ^ b.plates.length - 1) 0 l' h' → h ≤ h' ∧ (h' = h → beforeL (platesOf l') (platesOf l) = false) := by
  have hp := pow_set h4
  have hlt : 2 ^ b.plates.length - 1 < 2 ^ b.plates.length := by have := Nat.two_pow_pos b.plates.length; omega
  have hw := fun q => seqF_well b 31 (2 ^ b.plates.length - 1) 0 hp hlt q
  rcases best_top b (2 ^ b.plates.length - 1) with ⟨h1, h2⟩ | T
  · refine .inl ⟨by rw [orderP, if_pos (checkP_iff.2 hok), if_neg (by rw [h2]; simp)], fun l h W => ?_⟩
    have := (hw (l, h)).2 W
    rw [h1] at this
    cases this
  · refine .inr ⟨_, _, by rw [orderP, if_pos (checkP_iff.2 hok), if_pos T.found], (hw _).1 T.mem, fun l' h' W => ?_⟩
    exact T.least (l', h') ((hw (l', h')).2 W)
end Go.Aw
end

section
set_option maxRecDepth 100000
namespace Go.Aw
open Go Go.Proofs.Try

theorem beforeL_drop {a c : List Int} {i : Nat} (ha : i < a.length) (hc : i < c.length) : beforeL (a.drop i) (c.drop i) = if a[i] ≠ c[i] then decide (a[i] < c[i]) else beforeL (a.drop (i + 1)) (c.drop (i + 1)) := by
  rw [List.drop_eq_getElem_cons ha, List.drop_eq_getElem_cons hc]
  rfl

theorem beforeL_end {a c : List Int} {i : Nat} (h : a.length ≤ i ∨ c.length ≤ i) : beforeL (a.drop i) (c.drop i) = false := by
  rcases h with h | h
  · rw [List.drop_of_length_le h]; cases c.drop i <;> rfl
  · rw [List.drop_of_length_le h]; cases a.drop i <;> rfl

theorem c66 (a c : List Step) (ha : a.length ≤ 1000) (hc : c.length ≤ 1000) : PC prog 66 [.d (.sl (a.map Step.d)), .d (.sl (c.map Step.d))] (.d (.bool (beforeL (platesOf a) (platesOf c)))) := by
  refine PC.run (fun _ => false) tt_ok (fn := f66) (rs := [.tmp 4]) rfl rfl rfl rfl rfl rfl rfl ?_
  simp only [go_sem]
  refine ALoop.by (S := Nat) (fun i => [(5, .d (.int .i64 i)), (1, .d (.sl (c.map Step.d))), (0, .d (.sl (a.map Step.d)))]) (fun _ => []) (fun i => a.length - i) (fun i => i ≤ a.length ∧ beforeL (platesOf a) (platesOf c) = beforeL ((platesOf a).drop i) ((platesOf c).drop i)) 0 (Nat.zero_le _) (fun _ h => nomatch h) ⟨Nat.zero_le _, rfl⟩ ?_ ?_
  · exact ForgetTo.same' (Nat.zero_le _) (by simp [EWe, Env.look]) rfl
  rintro i ⟨hi, hb⟩ hn
  have la : (platesOf a).length = a.length := by simp [platesOf]
  have lc : (platesOf c).length = c.length := by simp [platesOf]
  rw [hb]
  refine AWP.run (fun _ => false) tt_ok (fun _ h => nomatch h) (Nat.zero_le _) rfl ?_
  simp only [go_sem]
  have hend : (a.length ≤ i ∨ c.length ≤ i) → beforeL ((platesOf a).drop i) ((platesOf c).drop i) = false := fun h => beforeL_end (by rw [la, lc]; exact h)
  by_cases h1 : i < a.length
  · have d1 : decide ((i : Int) < a.length) = true := by simpa using h1
    by_cases h2 : i < c.length
    · have d2 : decide ((i : Int) < c.length) = true := by simpa using h2
      have hst := beforeL_drop (a := platesOf a) (c := platesOf c) (i := i) (by omega) (by omega)
      have ga : (platesOf a)[i] = (a[i]).plate := by simp [platesOf]
      have gc : (platesOf c)[i] = (c[i]).plate := by simp [platesOf]
      rw [ga, gc] at hst
      have hix : idx? (a.map Step.d) (i : Int) = some (.agg [.int .i64 (a[i]).plate, .int .i64 (a[i]).hours]) := by simp [idx?, List.getElem?_eq_getElem h1, Step.d]
      have hiy : idx? (c.map Step.d) (i : Int) = some (.agg [.int .i64 (c[i]).plate, .int .i64 (c[i]).hours]) := by simp [idx?, List.getElem?_eq_getElem h2, Step.d]
      have hnx : IntKind.i64.wrap ((i : Int) + 1) = (i : Int) + 1 := w64 (by omega) (by omega)
      generalize a[i] = s at hst hix
      generalize c[i] = t at hst hiy
      simp only [go_sem, d1, d2]
      refine ADrw.treeG (fun _ => false) tt_ok (by kernel_rfl) (fun k => some .S) (.ones [0, 1, 2, 3, 4, 5, 6, 7, 8, 9, 10] .done) (Nat.zero_le _) (fun _ h => nomatch h) rfl rfl (by kernel_rfl) ?_
      simp only [go_sem, hix, hiy]
      refine Br_split (fun he => ?_) (fun he => ?_) <;> simp only [go_sem, he]
      · have he' : s.plate ≠ t.plate := by simpa using he
        rw [hst, if_pos he']
        refine ADrw.treeG (fun _ => false) tt_ok (by kernel_rfl) (fun k => some .S) (.ones [0, 1, 2, 3, 4, 5, 6, 7, 8, 9, 10, 11] .done) (Nat.zero_le _) (fun _ h => nomatch h) rfl rfl (by kernel_rfl) ?_
        simp only [go_sem, hix, hiy]
      · have he' : s.plate = t.plate := by simpa using he
        rw [if_neg (by simpa using he')] at hst
        refine ⟨i + 1, ⟨h1, hst⟩, by omega, ?_⟩
        exact ForgetTo.same' (Nat.zero_le _) (by simp [EWe, Env.look, hnx]) rfl
    · have d2 : decide ((i : Int) < c.length) = false := by simp only [decide_eq_false_iff_not]; omega
      rw [hend (.inr (by omega))]
      simp only [go_sem, d1, d2]
  · have d1 : decide ((i : Int) < a.length) = false := by simp only [decide_eq_false_iff_not]; omega
    rw [hend (.inl (by omega))]
    simp only [go_sem, d1]

def done4 (l : List Step) : Blk := .cells [.d (.bool (decide ((0 : Int) ∈ platesOf l))), .d (.bool (decide ((1 : Int) ∈ platesOf l))), .d (.bool (decide ((2 : Int) ∈ platesOf l))), .d (.bool (decide ((3 : Int) ∈ platesOf l)))]

/-- What is in a slot; a list of steps is just that. -/
def EWl (E : Env) : Env → Prop
  | [] => True
  | (k, v) :: r => (E.look k = v ∨ ∃ l : List Step, E.look k = lv l ∧ v = .d (.sl (l.map Step.d))) ∧ EWl E r

theorem EWl_ew {n : Nat} {H : Heap} (hH : H.length ≤ n) {E : Env} : ∀ {E' : Env}, EWl E E' → EW n H E E'
  | [], _ => trivial
  | (_, _) :: _, h => ⟨by
      rcases h.1 with h1 | ⟨l, h1, h2⟩
      · exact .inr (.inl ⟨h1, hH⟩)
      · subst h2
        rw [h1]
        cases l with
        | nil => exact .inr (.inr (.inr ⟨some true, [], rfl, .inr rfl⟩))
        | cons x r => exact .inr (.inl ⟨rfl, hH⟩), EWl_ew hH h.2⟩

theorem ForgetTo.sameL {n0 : Nat} {E E' : Env} {H H' : Heap} (hn : n0 ≤ H.length) (he : EWl E E') (hH : H = H') : ForgetTo n0 E H E' H' := by
  subst hH
  exact ⟨hn, Nat.le_refl _, .inl (Nat.le_refl _), List.take_length, EWl_ew (Nat.le_refl _) he⟩

theorem c12_a {x : Vat} (hx : x.Ok) {tries : List B4} {l : List Step} {e : Int} (hO : orderP x.bath = (l, e)) (hF : (e = 9 ∧ l = []) ∨ (e = 0 ∧ l.length = x.bath.plates.length))
    (hrest : AWP prog f12.ntmps 0 none (restC 4 (bodyOf f12)) [(9, .d (.int .i64 e)), (8, .d (.sl (l.map Step.d))), (7, .d (.sl (x.rusts.map (.int .i64)))), (6, .d (.int .i64 x.str)), (5, .ptr 1 0), (1, .d (.sl (tries.map B4.d)))] [vatB x, bthB x.bath] (FnPost Tt [.tmp 4] 0 fun r H' => H' = [] ∧ r = .d (.bool true))) :
    PC prog 12 [.d x.d, .d (.sl (tries.map B4.d))] (.d (.bool true)) := by
  have hok := Vat.bathOk hx
  obtain ⟨s1, s2, s3, hb5, _⟩ := id hok
  refine PC.of_body tt_ok (fn := f12) (c := bodyOf f12) (rs := [.tmp 4]) rfl rfl rfl rfl rfl rfl ?_
  refine AWP.stepN 4 _ _ (fun k => false) tt_ok (fun _ h => nomatch h) (Nat.zero_le _) rfl ?_ hrest
  simp only [go_sem, Vat.d]
  refine (c58 hx).call rfl rfl rfl ?_
  simp only [go_sem, Bath.d]
  refine (c60 x.bath (by omega)).call rfl rfl rfl ?_
  simp only [go_sem]
  have h37 := c37 x.bath (by omega)
  rw [hO] at h37
  refine h37.call rfl rfl (by simp [VB, VBs, VB_lv]) ?_
  rcases hF with ⟨rfl, rfl⟩ | ⟨rfl, hl⟩
  · simp only [go_sem, lv]
    exact ForgetTo.sameL (Nat.zero_le _) (by simp [EWl, Env.look]; exact rfl) (by simp [vatB, bthB])
  · cases l with
    | nil =>
      have dl : decide ((0 : Int) = x.bath.plates.length) = true := by simp only [decide_eq_true_eq, List.length_nil] at hl ⊢; omega
      simp only [go_sem, lv, dl]
      exact ForgetTo.sameL (Nat.zero_le _) (by simp [EWl, Env.look]; exact rfl) (by simp [vatB, bthB])
    | cons s r =>
      have dl : decide (((r.length + 1 : Nat) : Int) = x.bath.plates.length) = true := by simp only [decide_eq_true_eq, List.length_cons] at hl ⊢; omega
      simp only [go_sem, lv, List.length_map, dl]
      exact ForgetTo.sameL (Nat.zero_le _) (by simp [EWl, Env.look]) (by simp [vatB, bthB])
end Go.Aw
end

section
set_option maxRecDepth 100000
namespace Go.Aw
open Go Go.Proofs.Try

theorem c12_b {x : Vat} {b : Bath} {tries : List B4} {l : List Step} {e str : Int} {rusts : List Int} (h4 : b.plates.length ≤ 4) (hl4 : l.length ≤ 4) (hN : (platesOf l).Nodup) (hm : ∀ s ∈ l, (0 ≤ s.plate ∧ s.plate < b.plates.length) ∧ 1 ≤ s.hours ∧ s.hours ≤ 24)
    (hh : ∀ i (hi : i < l.length), ∃ w : Sp, hoursP b (l.take i) (l[i]).plate = (w, 0) ∧ w.lo = (l[i]).hours)
    (hrest : AWP prog f12.ntmps 0 none (restC 6 (bodyOf f12)) [(10, .d (.int .i64 (l.map Step.hours).sum)), (9, .d (.int .i64 e)), (8, .d (.sl (l.map Step.d))), (7, .d (.sl (rusts.map (.int .i64)))), (6, .d (.int .i64 str)), (5, .ptr 1 0), (1, .d (.sl (tries.map B4.d)))] [vatB x, bthB b] (FnPost Tt [.tmp 4] 0 fun r H' => H' = [] ∧ r = .d (.bool true))) :
    AWP prog f12.ntmps 0 none (restC 4 (bodyOf f12)) [(9, .d (.int .i64 e)), (8, .d (.sl (l.map Step.d))), (7, .d (.sl (rusts.map (.int .i64)))), (6, .d (.int .i64 str)), (5, .ptr 1 0), (1, .d (.sl (tries.map B4.d)))] [vatB x, bthB b] (FnPost Tt [.tmp 4] 0 fun r H' => H' = [] ∧ r = .d (.bool true)) := by
  refine AWP.stepN 2 _ _ (fun k => false) tt_ok (fun _ h => nomatch h) (Nat.zero_le _) rfl ?_ hrest
  simp only [go_sem, bthB]
  refine ALoop.by (S := Nat) (fun i => [(12, .d (.int .i64 i)), (11, .ptr 2 0), (10, .d (.int .i64 ((l.take i).map Step.hours).sum)), (9, .d (.int .i64 e)), (8, .d (.sl (l.map Step.d))), (7, .d (.sl (rusts.map (.int .i64)))), (6, .d (.int .i64 str)), (5, .ptr 1 0), (1, .d (.sl (tries.map B4.d)))])
    (fun i => [vatB x, bthB b, done4 (l.take i)]) (fun i => l.length - i) (fun i => i ≤ l.length) 0 (Nat.zero_le _) (fun _ h => nomatch h) (Nat.zero_le _) ?_ ?_
  · exact ForgetTo.same' (Nat.zero_le _) (by simp [EWe, Env.look]) (by simp [bthB, done4, platesOf])
  rintro i hi hn
  refine AWP.run (fun k => false) tt_ok (fun _ h => nomatch h) (Nat.zero_le _) rfl ?_
  simp only [go_sem, bthB, done4]
  refine Br_split (fun hd => ?_) (fun hd => ?_) <;> simp only [go_sem, hd]
  · have hlt : i < l.length := by simpa using hd
    obtain ⟨w, hw1, hw2⟩ := hh i hlt
    have hms := hm _ (List.getElem_mem hlt)
    have hix : idx? (l.map Step.d) (i : Int) = some (.agg [.int .i64 (l[i]).plate, .int .i64 (l[i]).hours]) := by simp [idx?, List.getElem?_eq_getElem hlt, Step.d]
    have e1 : platesOf (l.take i) = (platesOf l).take i := by simp [platesOf]
    have hnin : (l[i]).plate ∉ platesOf (l.take i) := fun hin => by
      rw [e1] at hin
      obtain ⟨j, hj⟩ := List.getElem?_of_mem hin
      rw [List.getElem?_take] at hj
      split at hj
      · rename_i hji
        have h2 : (platesOf l)[i]? = some (l[i]).plate := by simp [platesOf, List.getElem?_eq_getElem hlt]
        have := (List.getElem?_inj (by simp [platesOf]; omega) hN).1 (hj.trans h2.symm)
        omega
      · cases hj
    have hpt : platesOf (l.take (i + 1)) = platesOf (l.take i) ++ [(l[i]).plate] := by rw [List.take_succ_eq_append_getElem hlt, platesOf, List.map_append]; rfl
    have hst : ((l.take (i + 1)).map Step.hours).sum = ((l.take i).map Step.hours).sum + (l[i]).hours := by rw [List.take_succ_eq_append_getElem hlt, List.map_append, List.sum_append]; simp
    have hsb : 0 ≤ ((l.take i).map Step.hours).sum ∧ ((l.take i).map Step.hours).sum ≤ 24 * 4 := by
      have hs : ∀ k : List Step, (∀ s ∈ k, 1 ≤ s.hours ∧ s.hours ≤ 24) → 0 ≤ (k.map Step.hours).sum ∧ (k.map Step.hours).sum ≤ 24 * k.length := by
        intro k
        induction k with
        | nil => intro _; simp
        | cons s r ih =>
          intro hk
          have := ih fun s hs => hk s (List.mem_cons_of_mem _ hs)
          have := hk s List.mem_cons_self
          simp only [List.map_cons, List.sum_cons, List.length_cons]
          omega
      have := hs (l.take i) fun s hs => (hm s (List.mem_of_mem_take hs)).2
      have h3 : (l.take i).length = i := by simp; omega
      omega
    have hnx : IntKind.i64.wrap ((i : Int) + 1) = (i : Int) + 1 := w64 (by omega) (by omega)
    have h33 := c33 b (l.take i) (l[i]).plate (by omega) (by simp; omega)
    rw [hw1] at h33
    have hk0 : (0 : Int) ≤ (i : Int) := by omega
    have hsz := sized_steps (l.take i)
    have hszl := sized_steps l
    have hle : (l.take i).length ≤ 4294967296 := by simp; omega
    have htk1 : (l.map Step.d).take i = (l.take i).map Step.d := by simp
    generalize l[i] = s at *
    obtain ⟨sp, sh⟩ := s
    simp only at hix hw2 hms hnin hpt hst h33
    have hp : sp = 0 ∨ sp = 1 ∨ sp = 2 ∨ sp = 3 := by omega
    have c0 : decide (sp < 0) = false := by simp only [decide_eq_false_iff_not]; omega
    have c1 : decide ((b.plates.length : Int) ≤ sp) = false := by simp only [decide_eq_false_iff_not]; omega
    have hnd : decide (sp ∈ platesOf (l.take i)) = false := by simpa using hnin
    have hws : IntKind.i64.wrap (((l.take i).map Step.hours).sum + sh) = ((l.take i).map Step.hours).sum + sh := w64 (by omega) (by omega)
    have hwe : decide (w.lo = sh) = true := by simpa using hw2
    generalize ((l.take i).map Step.hours).sum = long at hws hst ⊢
    generalize hP : platesOf (l.take i) = P at hnd hpt hnin
    rcases hp with rfl | rfl | rfl | rfl
    all_goals
      simp only [go_sem, hix, c0, c1, hnd]
      refine ADrw.treeG (fun _ => false) tt_ok (by kernel_rfl) (fun k => if k = 0 then some .L else if k = 13 then some .W else if k = 12 then some .A else some .S) (.ones [0, 1, 2, 3, 4, 5, 6, 7, 8, 9, 10, 11, 12, 13, 14] .done) (Nat.zero_le _) (fun _ h => nomatch h) rfl rfl (by kernel_rfl) ?_
      simp only [go_sem]
      refine (c60 b (by omega)).callS rfl rfl rfl rfl rfl rfl ?_
      simp only [go_sem, hk0, htk1, hsz, hszl, hi, hle, List.nil_append, Nat.zero_add, if_true, Nat.sub_zero, Int.toNat_natCast]
      refine h33.callS rfl rfl rfl rfl rfl rfl ?_
      simp only [go_sem, Sp.d]
      refine ADrw.treeG (fun _ => false) tt_ok (by kernel_rfl) (fun k => if k = 4 then some .L else some .S) (.ones [0, 1, 2, 3, 4, 5, 6, 7, 8, 9, 10, 11] .done) (Nat.zero_le _) (fun _ h => nomatch h) rfl rfl (by kernel_rfl) ?_
      simp only [go_sem, hix, hwe, hws]
      refine ⟨i + 1, hlt, by omega, ?_⟩
      refine ForgetTo.drop (H0 := [_, _, _]) (Y := [_]) (Nat.zero_le _) ?_ (by simp [BBs, BB, VBs, VB, vatB, done4, bthB]) ?_
      · simp [bthB, done4, hpt, hP]
      · simp [EWp, Env.look, pubV, hnx, hst, -List.map_take]
  · have hie : i = l.length := by simp only [decide_eq_false_iff_not] at hd; omega
    subst hie
    refine ForgetTo.drop (H0 := [_, _]) (Y := [_]) (Nat.zero_le _) rfl (by simp [BBs, BB, VBs, VB, vatB, bthB]) ?_
    simp [EWp, Env.look, pubV]
end Go.Aw
end

section
set_option maxRecDepth 100000
namespace Go.Aw
open Go Go.Proofs.Try

theorem extR_bnd {b : Bath} (hok : b.Ok) (m : Bool) : ∀ r ∈ extR b m, 0 ≤ r ∧ r ≤ 600 := fun r hr => by
  obtain ⟨p, hp, rfl⟩ := List.mem_map.1 hr
  have := hok.2.2.2.2 p hp
  simp only [Plate.Ok] at this
  split <;> omega

theorem c12_c {x : Vat} {b : Bath} {tries : List B4} {l : List Step} {e str long : Int} {rusts : List Int} (hok : b.Ok) (hl4 : l.length ≤ 4) (hm : ∀ s ∈ l, (0 ≤ s.plate ∧ s.plate < b.plates.length) ∧ 1 ≤ s.hours ∧ s.hours ≤ 24)
    (hs : b.str.lo ≤ str ∧ str ≤ b.str.hi) (hrl : rusts.length = b.plates.length) (hrb : ∀ r ∈ rusts, 0 ≤ r ∧ r ≤ 600)
    (g0 : ∀ i, i < l.length → (comesR b rusts l str).1[i]? = some 2) (g1 : ∀ i, i < l.length → (comesR b (extR b true) l b.str.lo).1[i]? = some 2) (g2 : ∀ i, i < l.length → (comesR b (extR b false) l b.str.hi).1[i]? = some 2)
    (hrest : AWP prog f12.ntmps 0 none (restC 7 (bodyOf f12)) [(10, .d (.int .i64 long)), (9, .d (.int .i64 e)), (8, .d (.sl (l.map Step.d))), (5, .ptr 1 0), (1, .d (.sl (tries.map B4.d)))] [vatB x, bthB b] (FnPost Tt [.tmp 4] 0 fun r H' => H' = [] ∧ r = .d (.bool true))) :
    AWP prog f12.ntmps 0 none (restC 6 (bodyOf f12)) [(10, .d (.int .i64 long)), (9, .d (.int .i64 e)), (8, .d (.sl (l.map Step.d))), (7, .d (.sl (rusts.map (.int .i64)))), (6, .d (.int .i64 str)), (5, .ptr 1 0), (1, .d (.sl (tries.map B4.d)))] [vatB x, bthB b] (FnPost Tt [.tmp 4] 0 fun r H' => H' = [] ∧ r = .d (.bool true)) := by
  obtain ⟨s1, s2, s3, hb5, _⟩ := id hok
  have hel := fun m => show (extR b m).length = b.plates.length by simp [extR]
  have z0 : IntKind.i64.wrap (1 - 1) = 0 := by decide
  have w1 : IntKind.i64.wrap 1 = 1 := by decide
  have w2 : IntKind.i64.wrap 2 = 2 := by decide
  have w3 : IntKind.i64.wrap 3 = 3 := by decide
  have z1 : IntKind.i64.wrap (2 - 1) = 1 := by decide
  refine AWP.stepN 1 _ _ (fun k => false) tt_ok (fun _ h => nomatch h) (Nat.zero_le _) rfl ?_ hrest
  simp only [go_sem]
  refine ALoop.by (S := Nat) (fun k => [(16, .d (.int .i64 k)), (10, .d (.int .i64 long)), (9, .d (.int .i64 e)), (8, .d (.sl (l.map Step.d))), (7, .d (.sl (rusts.map (.int .i64)))), (6, .d (.int .i64 str)), (5, .ptr 1 0), (1, .d (.sl (tries.map B4.d)))])
    (fun _ => [vatB x, bthB b]) (fun k => 3 - k) (fun k => k ≤ 3) 0 (Nat.zero_le _) (fun _ h => nomatch h) (Nat.zero_le _) ?_ ?_
  · exact ForgetTo.same' (Nat.zero_le _) (by simp [EWe, Env.look]) rfl
  rintro k hk hn
  refine AWP.run (fun k => false) tt_ok (fun _ h => nomatch h) (Nat.zero_le _) rfl ?_
  simp only [go_sem, bthB]
  refine Br_split (fun hd => ?_) (fun hd => ?_) <;> simp only [go_sem, hd]
  · have hk3 : k = 0 ∨ k = 1 ∨ k = 2 := by simp only [decide_eq_true_eq] at hd; omega
    rcases hk3 with rfl | rfl | rfl
    case' inl =>
      simp only [go_sem]
      refine (c61 hok l str rusts (by omega) (by omega) hrl hrb hm).call rfl rfl rfl ?_
      have hol := comesR_len b rusts l str
      generalize (comesR b rusts l str).1 = o at g0 hol
      have g := g0
      obtain ⟨kk, hkk⟩ : ∃ kk : Int, kk = 0 := ⟨_, rfl⟩
    case' inr.inl =>
      simp only [go_sem]
      refine ADrw.treeG (fun _ => false) tt_ok (by kernel_rfl) (fun k => if k = 2 ∨ k = 5 ∨ k = 11 then some .L else some .S) (.ones [0, 1, 2, 3, 4, 5, 6, 7, 8, 9, 10, 11, 12, 13, 14, 15, 16] .done) (Nat.zero_le _) (fun _ h => nomatch h) rfl rfl (by kernel_rfl) ?_
      simp only [go_sem, z0]
      refine (c65 b true (by omega)).callS rfl rfl rfl rfl rfl rfl ?_
      simp only [go_sem]
      refine (c61 hok l b.str.lo (extR b true) (by omega) (by omega) (hel _) (extR_bnd hok _) hm).call rfl rfl rfl ?_
      have hol := comesR_len b (extR b true) l b.str.lo
      generalize (comesR b (extR b true) l b.str.lo).1 = o at g1 hol
      have g := g1
      obtain ⟨kk, hkk⟩ : ∃ kk : Int, kk = 1 := ⟨_, rfl⟩
    case' inr.inr =>
      simp only [go_sem]
      refine ADrw.treeG (fun _ => false) tt_ok (by kernel_rfl) (fun k => if k = 2 ∨ k = 5 ∨ k = 11 then some .L else some .S) (.ones [0, 1, 2, 3, 4, 5, 6, 7, 8, 9, 10, 11, 12, 13, 14, 15, 16] .done) (Nat.zero_le _) (fun _ h => nomatch h) rfl rfl (by kernel_rfl) ?_
      simp only [go_sem, z1]
      refine (c65 b false (by omega)).callS rfl rfl rfl rfl rfl rfl ?_
      simp only [go_sem]
      refine (c61 hok l b.str.hi (extR b false) (by omega) (by omega) (hel _) (extR_bnd hok _) hm).call rfl rfl rfl ?_
      have hol := comesR_len b (extR b false) l b.str.hi
      generalize (comesR b (extR b false) l b.str.hi).1 = o at g2 hol
      have g := g2
      obtain ⟨kk, hkk⟩ : ∃ kk : Int, kk = 2 := ⟨_, rfl⟩
    all_goals
      simp only [go_sem]
      refine ALoop.by (S := Nat) (fun i => [(21, .d (.int .i64 i)), (19, .d (.sl (o.map (.int .i64)))), (16, .d (.int .i64 kk)), (10, .d (.int .i64 long)), (9, .d (.int .i64 e)), (8, .d (.sl (l.map Step.d))), (7, .d (.sl (rusts.map (.int .i64)))), (6, .d (.int .i64 str)), (5, .ptr 1 0), (1, .d (.sl (tries.map B4.d)))])
        (fun _ => [vatB x, bthB b]) (fun i => o.length - i) (fun i => i ≤ o.length) 0 (Nat.zero_le _) (fun _ h => nomatch h) (Nat.zero_le _) ?_ ?_
      · exact ForgetTo.same' (Nat.zero_le _) (by simp [EWe, Env.look, hkk]) (by simp [bthB])
      rintro i hi hni
      refine AWP.run (fun k => false) tt_ok (fun _ h => nomatch h) (Nat.zero_le _) rfl ?_
      simp only [go_sem, bthB]
      refine Br_split (fun he => ?_) (fun he => ?_) <;> simp only [go_sem, he]
      · have hlt : i < o.length := by simpa using he
        have hix : idx? (o.map (D.int .i64)) (i : Int) = some (.int .i64 2) := by simp [idx?, g i (by omega)]
        have hnx : IntKind.i64.wrap ((i : Int) + 1) = (i : Int) + 1 := w64 (by omega) (by omega)
        simp only [go_sem, hix]
        refine ⟨i + 1, hlt, by omega, ?_⟩
        exact ForgetTo.same' (Nat.zero_le _) (by simp [EWe, Env.look, hnx]) (by simp [bthB])
      · subst hkk
        first
        | (refine ⟨1, by omega, by omega, ?_⟩
           exact ForgetTo.same' (Nat.zero_le _) (by simp [EWe, Env.look, w1]) (by simp [bthB])
           done)
        | (refine ⟨2, by omega, by omega, ?_⟩
           exact ForgetTo.same' (Nat.zero_le _) (by simp [EWe, Env.look, w2]) (by simp [bthB])
           done)
        | (refine ⟨3, by omega, by omega, ?_⟩
           exact ForgetTo.same' (Nat.zero_le _) (by simp [EWe, Env.look, w3]) (by simp [bthB])
           done)
  · have hke : k = 3 := by simp only [decide_eq_false_iff_not] at hd; omega
    subst hke
    exact ForgetTo.same' (Nat.zero_le _) (by simp [EWe, Env.look]) (by simp [bthB])
end Go.Aw
end

section
set_option maxRecDepth 100000
namespace Go.Aw
open Go Go.Proofs.Try

def b4I (v : B4) : Nat → Int
  | 0 => v.a
  | 1 => v.b
  | 2 => v.c
  | _ => v.e

def rngI (n : Nat) : List Int := (List.range n).map fun p : Nat => (p : Int)

theorem rngI_succ (n : Nat) : rngI (n + 1) = rngI n ++ [(n : Int)] := by simp [rngI, List.range_succ]
theorem rngI_len (n : Nat) : (rngI n).length = n := by simp [rngI]
theorem rngI_nodup (n : Nat) : (rngI n).Nodup := by
  rw [rngI, List.Nodup, List.pairwise_map]
  exact List.pairwise_lt_range.imp fun h e => by omega
theorem rngI_mem (n : Nat) (x : Int) : x ∈ rngI n ↔ 0 ≤ x ∧ x < n := by
  rw [rngI, List.mem_map]
  constructor
  · rintro ⟨p, hp, rfl⟩
    have := List.mem_range.1 hp
    omega
  · intro h
    exact ⟨x.toNat, List.mem_range.2 (by omega), by omega⟩

theorem c12_d {x : Vat} {b : Bath} {tries : List B4} {l : List Step} {e long : Int} (hok : b.Ok) (h4 : b.plates.length ≤ 4) (ht : ∀ v ∈ tries, v.Ok) (hl4 : l.length ≤ 4)
    (htry : ∀ l' h', Well b (2 ^ b.plates.length - 1) 0 l' h' → e = 0 ∧ long ≤ h' ∧ (h' = long → beforeL (platesOf l') (platesOf l) = false)) :
    AWP prog f12.ntmps 0 none (restC 7 (bodyOf f12)) [(10, .d (.int .i64 long)), (9, .d (.int .i64 e)), (8, .d (.sl (l.map Step.d))), (5, .ptr 1 0), (1, .d (.sl (tries.map B4.d)))] [vatB x, bthB b] (FnPost Tt [.tmp 4] 0 fun r H' => H' = [] ∧ r = .d (.bool true)) := by
  obtain ⟨s1, s2, s3, hb5, _⟩ := id hok
  refine AWP.runS (fun k => k == 180 || k == 181) tt_ok (fun _ h => nomatch h) (Nat.zero_le _) rfl ?_
  simp only [go_sem]
  refine ALoop.by (S := Nat) (fun i => [(22, .d (.int .i64 i)), (10, .d (.int .i64 long)), (9, .d (.int .i64 e)), (8, .d (.sl (l.map Step.d))), (5, .ptr 1 0), (1, .d (.sl (tries.map B4.d)))])
    (fun _ => [vatB x, bthB b]) (fun i => tries.length - i) (fun i => i ≤ tries.length ∧ i ≤ 8) 0 (Nat.zero_le _) (fun _ h => nomatch h) ⟨Nat.zero_le _, by omega⟩ ?_ ?_
  · exact ForgetTo.same' (Nat.zero_le _) (by simp [EWe, Env.look]) rfl
  rintro i ⟨hi, hi8⟩ hn
  refine AWP.run (fun k => k == 180 || k == 181) tt_ok (fun _ h => nomatch h) (Nat.zero_le _) rfl ?_
  simp only [go_sem, bthB]
  by_cases hlt : i < tries.length ∧ i < 8
  rotate_left
  · by_cases h1 : i < tries.length
    · have d1 : decide ((i : Int) < tries.length) = true := by simpa using h1
      have d2 : decide ((i : Int) < 8) = false := by simp only [decide_eq_false_iff_not]; omega
      simp only [go_sem, d1, d2]
      refine c17.call rfl rfl rfl ?_
      simp only [go_sem]
    · have d1 : decide ((i : Int) < tries.length) = false := by simp only [decide_eq_false_iff_not]; omega
      simp only [go_sem, d1]
      refine c17.call rfl rfl rfl ?_
      simp only [go_sem]
  obtain ⟨hlt, hlt8⟩ := hlt
  have d1 : decide ((i : Int) < tries.length) = true := by simpa using hlt
  have d2 : decide ((i : Int) < 8) = true := by simp only [decide_eq_true_eq]; omega
  have hv := ht _ (List.getElem_mem hlt)
  have hiv : idx? (tries.map B4.d) (i : Int) = some (tries[i]).d := by simp [idx?, List.getElem?_eq_getElem hlt]
  have hix2 : IntKind.i64.wrap ((i : Int) + 1) = (i : Int) + 1 := w64 (by omega) (by omega)
  generalize tries[i] = v at hv hiv
  simp only [B4.d] at hiv
  simp only [go_sem, d1, d2]
  refine ALoop.by (S := Nat) (fun p => [(26, .d (.int .i64 p)), (25, .d (.bool true)), (24, .ref 3 0 0 0), (23, .ref 2 p 0 p), (22, .d (.int .i64 i)), (10, .d (.int .i64 long)), (9, .d (.int .i64 e)), (8, .d (.sl (l.map Step.d))), (5, .ptr 1 0), (1, .d (.sl (tries.map B4.d)))])
    (fun p => [vatB x, bthB b, .arr 1 false ((rngI p).map (.int .i64)), .arr 2 false []]) (fun p => b.plates.length - p) (fun p => p ≤ b.plates.length) 0 (Nat.zero_le _) (fun _ h => nomatch h) (Nat.zero_le _) ?_ ?_
  · exact ForgetTo.same' (Nat.zero_le _) (by simp [EWe, Env.look]) (by simp [bthB, rngI])
  rintro p hp hn
  refine AWP.run (fun k => k == 180 || k == 181) tt_ok (fun _ h => nomatch h) (Nat.zero_le _) rfl ?_
  simp only [go_sem, bthB]
  refine Br_split (fun hd => ?_) (fun hd => ?_) <;> simp only [go_sem, hd]
  · have hpl : p < b.plates.length := by simpa using hd
    have hrl := rngI_len p
    have hrs := rngI_succ p
    have hp1 : p ≤ 4294967295 := by omega
    have hnx : IntKind.i64.wrap ((p : Int) + 1) = (p : Int) + 1 := w64 (by omega) (by omega)
    generalize rngI p = R at hrl hrs ⊢
    simp only [go_sem, List.length_map, hrl, hp1]
    refine ⟨p + 1, hpl, by omega, ?_⟩
    exact ForgetTo.same' (Nat.zero_le _) (by simp [EWe, Env.look, hnx]) (by simp [bthB, hrs])
  have hpe : p = b.plates.length := by simp only [decide_eq_false_iff_not] at hd; omega
  subst hpe
  refine ALoop.by (S := Nat × List Int) (fun s => [(27, .d (.int .i64 s.1)), (25, .d (.bool true)), (24, .ref 3 0 0 0), (23, .ref 2 b.plates.length 0 b.plates.length), (22, .d (.int .i64 i)), (10, .d (.int .i64 long)), (9, .d (.int .i64 e)), (8, .d (.sl (l.map Step.d))), (5, .ptr 1 0), (1, .d (.sl (tries.map B4.d)))])
    (fun s => [vatB x, bthB b, .arr 1 false (s.2.map (.int .i64)), .arr 2 false []]) (fun s => b.plates.length - s.1) (fun s => s.1 ≤ b.plates.length ∧ s.2.Perm (rngI b.plates.length)) (0, rngI b.plates.length) (Nat.zero_le _) (fun _ h => nomatch h) ⟨Nat.zero_le _, List.Perm.refl _⟩ ?_ ?_
  · exact ForgetTo.same' (Nat.zero_le _) (by simp [EWe, Env.look]) (by simp [bthB])
  rintro ⟨p, o⟩ ⟨hp, hperm⟩ hn
  simp only at hp hperm
  have hol : o.length = b.plates.length := by rw [hperm.length_eq, rngI_len]
  refine AWP.run (fun k => k == 180 || k == 181) tt_ok (fun _ h => nomatch h) (Nat.zero_le _) rfl ?_
  simp only [go_sem, bthB, List.length_map, hol]
  refine Br_split (fun hd => ?_) (fun hd => ?_) <;> simp only [go_sem, hd]
  · have hpl : p < b.plates.length := by simpa using hd
    have hbb : ∃ k, b4I v p = k ∧ Byte k := by
      refine ⟨_, rfl, ?_⟩
      unfold b4I
      split
      · exact hv.a
      · exact hv.b
      · exact hv.c
      · exact hv.e
    obtain ⟨k, hk, hkb⟩ := hbb
    have f1 := byte_conv hkb
    simp only [Byte] at hkb
    have zn : (b.plates.length : Int) ≠ 0 := by omega
    have n1 : k.tmod b.plates.length = k % b.plates.length := Int.tmod_eq_emod_of_nonneg hkb.1
    have e1 := Int.emod_nonneg k zn
    have e2 := Int.emod_lt_of_pos k (show (0 : Int) < b.plates.length by omega)
    have hc0 : (0 : Int) ≤ (p : Int) := by omega
    have hc1 : (p : Int) < 4 := by omega
    have hnx : IntKind.i64.wrap ((p : Int) + 1) = (p : Int) + 1 := w64 (by omega) (by omega)
    have hhv : headD (List.drop p [D.int .u8 v.a, .int .u8 v.b, .int .u8 v.c, .int .u8 v.e]) = some (.int .u8 k) := by
      have h4 : p = 0 ∨ p = 1 ∨ p = 2 ∨ p = 3 := by omega
      rcases h4 with rfl | rfl | rfl | rfl <;> (simp only [b4I] at hk; simp [headD, hk])
    obtain ⟨q, hq⟩ : ∃ q : Nat, k % b.plates.length = q := ⟨(k % b.plates.length).toNat, by omega⟩
    rw [hq] at n1 e2
    have hpo : p < o.length := by omega
    have hqo : q < o.length := by omega
    have hop : idx? (o.map (D.int .i64)) (p : Int) = some (.int .i64 o[p]) := by simp [idx?, List.getElem?_eq_getElem hpo]
    have hoq : idx? (o.map (D.int .i64)) (q : Int) = some (.int .i64 o[q]) := by simp [idx?, List.getElem?_eq_getElem hqo]
    have hgp : (o.map (D.int .i64))[p]? = some (.int .i64 o[p]) := by simp [List.getElem?_eq_getElem hpo]
    have hgq : (o.map (D.int .i64))[q]? = some (.int .i64 o[q]) := by simp [List.getElem?_eq_getElem hqo]
    have hgs : ((o.map (D.int .i64)).set p (.int .i64 o[q]))[q]? = some (.int .i64 o[q]) := by
      rw [List.getElem?_set]
      split
      · rename_i hpq
        rw [if_pos (by simp; omega)]
      · exact hgq
    have hpi : (p : Int) < b.plates.length := by omega
    have hc2 : (0 : Int) ≤ (q : Int) := by omega
    simp only [go_sem, hiv, hc0, hc1, Int.toNat_natCast, Nat.mul_one, List.length_map, hol, hhv, Option.map_some, f1, n1, remO_ne zn, hgp, hgq, hpi, e2, hc2, List.length_set, hgs]
    refine ⟨(p + 1, (o.set p o[q]).set q o[p]), ⟨hpl, (List.set_set_perm hpo hqo).trans hperm⟩, by omega, ?_⟩
    exact ForgetTo.same' (Nat.zero_le _) (by simp [EWe, Env.look, hnx]) (by simp [bthB, List.map_set])
  have hod : o.Nodup := hperm.nodup_iff.2 (rngI_nodup _)
  have hom : ∀ x : Int, x ∈ o ↔ 0 ≤ x ∧ x < b.plates.length := fun x => by rw [hperm.mem_iff, rngI_mem]
  have hz : IntKind.i64.wrap 0 = 0 := by decide
  refine ALoop.by (S := Nat) (fun p => [(31, .d (.int .i64 p)), (30, .d (.int .i64 (tryF b o p).2.1)), (25, .d (.bool (tryF b o p).2.2)), (24, .ref 3 p 0 p), (23, .ref 2 b.plates.length 0 b.plates.length), (22, .d (.int .i64 i)), (10, .d (.int .i64 long)), (9, .d (.int .i64 e)), (8, .d (.sl (l.map Step.d))), (5, .ptr 1 0), (1, .d (.sl (tries.map B4.d)))])
    (fun p => [vatB x, bthB b, .arr 1 false (o.map (.int .i64)), .arr 2 false ((tryF b o p).1.map Step.d)]) (fun p => b.plates.length - p) (fun p => p ≤ b.plates.length ∧ ∀ j, j < p → (tryF b o j).2.2 = true) 0 (Nat.zero_le _) (fun _ h => nomatch h) ⟨Nat.zero_le _, fun j hj => by omega⟩ ?_ ?_
  · exact ForgetTo.same' (Nat.zero_le _) (by simp [EWe, Env.look, tryF]) (by simp [bthB, tryF])
  rintro p ⟨hp, hall⟩ hn
  have htl := tryF_len b o p
  have htb := tryF_bnd hok o p
  refine AWP.run (fun k => k == 180 || k == 181) tt_ok (fun _ h => nomatch h) (Nat.zero_le _) rfl ?_
  simp only [go_sem, bthB, List.length_map, hol]
  have hsz := sized_steps (tryF b o p).1
  have hle : (tryF b o p).1.length ≤ 4294967296 := by omega
  have htk : ((tryF b o p).1.map Step.d).take p = (tryF b o p).1.map Step.d := List.take_of_length_le (by simp [htl])
  cases hok2 : (tryF b o p).2.2 with
  | false =>
    by_cases hpl : p < b.plates.length
    · have dp : decide ((p : Int) < b.plates.length) = true := by simpa using hpl
      simp only [go_sem, dp]
      refine ⟨i + 1, ⟨by omega, by omega⟩, by omega, ?_⟩
      refine ForgetTo.drop (H0 := [_, _]) (Y := [_, _]) (Nat.zero_le _) rfl (by simp [BBs, BB, VBs, VB, vatB, bthB]) ?_
      simp [EWp, Env.look, pubV, hix2]
    · have dp : decide ((p : Int) < b.plates.length) = false := by simp only [decide_eq_false_iff_not]; omega
      simp only [go_sem, dp]
      refine ⟨i + 1, ⟨by omega, by omega⟩, by omega, ?_⟩
      refine ForgetTo.drop (H0 := [_, _]) (Y := [_, _]) (Nat.zero_le _) rfl (by simp [BBs, BB, VBs, VB, vatB, bthB]) ?_
      simp [EWp, Env.look, pubV, hix2]
  | true =>
    by_cases hpl : p < b.plates.length
    · have dp : decide ((p : Int) < b.plates.length) = true := by simpa using hpl
      have hpo : p < o.length := by omega
      have hgp : (o.map (D.int .i64))[p]? = some (.int .i64 (o.getD p 0)) := by simp [List.getD_eq_getElem?_getD, List.getElem?_eq_getElem hpo]
      have hc0 : (0 : Int) ≤ (p : Int) := by omega
      have hpi : (p : Int) < b.plates.length := by omega
      have hlo := hoursP_lo hok (tryF b o p).1 (o.getD p 0)
      have h33 := c33 b (tryF b o p).1 (o.getD p 0) (by omega) (by omega)
      have hs1 : (tryF b o (p + 1)).1 = (tryF b o p).1 ++ [⟨o.getD p 0, max 1 (hoursP b (tryF b o p).1 (o.getD p 0)).1.lo⟩] := rfl
      have hs2 : (tryF b o (p + 1)).2.1 = (tryF b o p).2.1 + (hoursP b (tryF b o p).1 (o.getD p 0)).1.lo := rfl
      have hs3 : (tryF b o (p + 1)).2.2 = decide ((hoursP b (tryF b o p).1 (o.getD p 0)).2 = 0) := rfl
      have hws : IntKind.i64.wrap ((tryF b o p).2.1 + (hoursP b (tryF b o p).1 (o.getD p 0)).1.lo) = (tryF b o p).2.1 + (hoursP b (tryF b o p).1 (o.getD p 0)).1.lo := w64 (by omega) (by omega)
      have hnx : IntKind.i64.wrap ((p : Int) + 1) = (p : Int) + 1 := w64 (by omega) (by omega)
      have hp1 : p ≤ 4294967295 := by omega
      have hp2 : p ≤ 4294967296 := by omega
      have hall' : ∀ j, j < p + 1 → (tryF b o j).2.2 = true := fun j hj => by
        by_cases h : j = p
        · rw [h]; exact hok2
        · exact hall j (by omega)
      generalize hoursP b (tryF b o p).1 (o.getD p 0) = HP at hlo h33 hs1 hs2 hs3 hws
      obtain ⟨⟨w1, w2⟩, f⟩ := HP
      generalize (tryF b o p).1 = all at htl hsz hle htk h33 hs1 ⊢
      generalize (tryF b o p).2.1 = hours at htb hs2 hws ⊢
      generalize o.getD p 0 = c at hgp h33 hs1
      simp only [Sp.d] at h33
      simp only at hlo hs1 hs2 hs3 hws
      simp only [go_sem, dp]
      refine ADrw.treeG (fun k => k == 180 || k == 181) tt_ok (by kernel_rfl) (fun k => if k = 0 ∨ k = 4 ∨ k = 7 ∨ k = 8 then some .L else if k = 14 then some .W else if k = 13 then some .A else some .S) (.ones [0, 1, 2, 3, 4, 5, 6, 7, 8, 9, 10, 11, 12, 13, 14, 15] .done) (Nat.zero_le _) (fun _ h => nomatch h) rfl rfl (by kernel_rfl) ?_
      simp only [go_sem]
      refine (c60 b (by omega)).callS rfl rfl rfl rfl rfl rfl ?_
      simp only [go_sem, htk, htl, hsz, hle, hp2, List.nil_append, Nat.zero_add, List.length_map, hol, hc0, hpi, hgp, Int.toNat_natCast, List.drop_zero, Nat.add_zero, Nat.mul_one]
      refine h33.callS rfl rfl rfl rfl rfl rfl ?_
      simp only [go_sem]
      refine ADrw.treeG (fun k => k == 180 || k == 181) tt_ok (by kernel_rfl) (fun k => if k = 3 ∨ k = 4 ∨ k = 6 ∨ k = 13 then some .L else if k = 10 then some .W else some .S) (.ones [0, 1, 2, 3, 4, 5, 6, 7, 8, 9, 11, 12] (.two 10 (.ones [13, 14, 15, 16] .done) 13 (.ones [10, 14, 15, 16] .done))) (Nat.zero_le _) (fun _ h => nomatch h) rfl rfl (by kernel_rfl) ?_
      simp only [go_sem, List.length_map, hol, hc0, hpi, hgp, Int.toNat_natCast, Nat.zero_add, Nat.add_zero, Nat.mul_one]
      refine (c24 c (max 1 w1)).callS rfl rfl rfl rfl rfl rfl ?_
      simp only [go_sem, Step.d, List.length_map, htl, hp1, hws]
      refine ⟨?_, ?_⟩
      all_goals
        refine ⟨p + 1, ⟨by omega, hall'⟩, by omega, ?_⟩
        refine ForgetTo.drop (H0 := [_, _, _, _]) (Y := [_]) (Nat.zero_le _) ?_ (by simp [BBs, BB, VBs, VB, vatB, bthB]) ?_
        · rw [hs1]; simp [bthB, Step.d]
        · simp [EWp, Env.look, pubV, hnx, hs2, hs3]
    · have dp : decide ((p : Int) < b.plates.length) = false := by simp only [decide_eq_false_iff_not]; omega
      have hpe : p = b.plates.length := by omega
      have W := tryF_well hok hod hom fun j hj => by
        rw [hol] at hj
        by_cases h : j = p
        · rw [h]; exact hok2
        · exact hall j (by omega)
      rw [hol, ← hpe] at W
      rw [← hpe] at htry
      obtain ⟨rfl, t1, t2⟩ := htry _ _ W
      have h66 := c66 (tryF b o p).1 l (by omega) (by omega)
      generalize (tryF b o p).1 = all at htl hsz hle htk h66 t2 ⊢
      generalize (tryF b o p).2.1 = hours at htb t1 t2 ⊢
      have dh : decide (hours < long) = false := by simp only [decide_eq_false_iff_not]; omega
      by_cases he : hours = long
      · have de : decide (hours = long) = true := by simpa using he
        rw [t2 he] at h66
        simp only [go_sem, dp, dh, de]
        refine h66.callL rfl (by simp [pubVs, pubV, dz, htk, htl]) rfl ?_
        simp only [go_sem]
        refine ⟨i + 1, ⟨by omega, by omega⟩, by omega, ?_⟩
        refine ForgetTo.drop (H0 := [_, _]) (Y := [_, _]) (Nat.zero_le _) rfl (by simp [BBs, BB, VBs, VB, vatB, bthB]) ?_
        simp [EWp, Env.look, pubV, hix2]
      · have de : decide (hours = long) = false := by simpa using he
        simp only [go_sem, dp, dh, de]
        refine ⟨i + 1, ⟨by omega, by omega⟩, by omega, ?_⟩
        refine ForgetTo.drop (H0 := [_, _]) (Y := [_, _]) (Nat.zero_le _) rfl (by simp [BBs, BB, VBs, VB, vatB, bthB]) ?_
        simp [EWp, Env.look, pubV, hix2]
end Go.Aw
end

section
set_option maxRecDepth 100000
namespace Go.Aw
open Go Go.Proofs.Try

theorem c12 {x : Vat} (hx : x.Ok) (tries : List B4) (ht : ∀ v ∈ tries, v.Ok) : PC prog 12 [.d x.d, .d (.sl (tries.map B4.d))] (.d (.bool true)) := by
  have hok := Vat.bathOk hx
  obtain ⟨g1, g2⟩ := Vat.str_in hx
  have hri := fun q hq => Vat.rust_in hx (q := q) hq
  have hrl : x.rusts.length = x.bath.plates.length := by simp [Vat.rusts, Vat.bath]
  have hrb : ∀ r ∈ x.rusts, 0 ≤ r ∧ r ≤ 600 := fun r hr => by
    obtain ⟨v, hv, rfl⟩ := List.mem_map.1 hr
    have := (hx.p v (List.mem_of_mem_take hv)).a
    simp only [Byte] at this
    omega
  have h4 : x.bath.plates.length ≤ 4 := by simp [Vat.bath]; omega
  rcases order_facts hok h4 with ⟨hO, hno⟩ | ⟨l, h, hO, W, hbest⟩
  · refine c12_a hx hO (.inl ⟨rfl, rfl⟩) (c12_b h4 (by simp) List.nodup_nil (by simp) (fun i hi => absurd hi (by simp)) (c12_c hok (by simp) (by simp) ⟨g1, g2⟩ hrl hrb (fun i hi => absurd hi (by simp)) (fun i hi => absurd hi (by simp)) (fun i hi => absurd hi (by simp)) (c12_d hok h4 ht (by simp) fun l' h' W => absurd W (hno l' h'))))
  · have hl := well_len W
    have hm := well_hours hok W
    have hg := fun i hi => order_good hok W (i := i) hi ⟨g1, g2⟩ hri
    have hs : h = (l.map Step.hours).sum := W.sum
    refine c12_a hx hO (.inr ⟨rfl, hl⟩) (c12_b h4 (by omega) W.nodup hm (fun i hi => order_hours hok W hi) (c12_c hok (by omega) hm ⟨g1, g2⟩ hrl hrb (fun i hi => (hg i hi).1) (fun i hi => (hg i hi).2.1) (fun i hi => (hg i hi).2.2) (c12_d hok h4 ht (by omega) fun l' h' W' => ?_)))
    rw [← hs]
    exact ⟨rfl, hbest l' h' W'⟩
end Go.Aw
end
