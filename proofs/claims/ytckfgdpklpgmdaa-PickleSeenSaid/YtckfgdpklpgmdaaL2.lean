/- The strengths with which a bath can have been filled. What was. All sets of so many numbers. What is wrong. What is missing. The reference: lists compared. The reference: baths; the law's helpers. The reference: Steps, Weaker; the bath of the examples. The bath of the document's examples. The document's examples. What the document's examples say is so. The law of the strengths. Arguments of the program's types. The reference: how plates come out. The reference: all ways in which a plate comes out. The law of the ways. The reference: for how long a plate may lie; the law of it. The law of the hours. The reference: acids that are mixed. The law of the mixtures. Bytes as arguments; the law of what is missing, without the reference. Bytes as arguments of the law. A bath of bytes, with a truth. Steps of bytes; how plates truly come out. -/
import Derived.Test.YtckfgdpklpgmdaaL1
set_option linter.unusedSimpArgs false
set_option linter.unusedVariables false

section
set_option maxRecDepth 100000
namespace Go.Aw
open Go Go.Proofs.Try

abbrev ItemU := List V × Option (Nat × Blk)

theorem BBs_upd {n : Nat} {u : Option (Nat × Blk)} {H : Heap} (hu : uOk u H) (hb : BBs n H) : BBs n (upd u H) := by
  cases u with
  | none => exact hb
  | some p =>
    obtain ⟨i, x⟩ := p
    cases x with
    | arr sz nl els => exact BBs_set hb trivial
    | _ => exact hu.elim

theorem yield_frameU {yv : V} {n : Nat} {I : List ItemU → Heap → Prop} {Q : V → Heap → Prop} (hyv : VB n yv = true) (hI : ∀ l H, I l H → H.length = n ∧ BBs n H)
    (hy : ∀ a r H, I (a :: r) H → uOk a.2 H ∧ ACallV prog yv a.1 (upd a.2 H) (fun v H' => (v = .d (.bool true) ∧ I r H') ∨ (v = .d (.bool false) ∧ H'.length = n ∧ BBs n H' ∧ Q (.tup []) H')))
    {a : ItemU} {r : List ItemU} {H : Heap} (X : Heap) (ha : VBs n a.1 = true) (h : I (a :: r) H) :
    ACallV prog yv a.1 (upd a.2 H ++ X) (fun v H' => ∃ H1, H' = H1 ++ X ∧ H1.length = n ∧ BBs n H1 ∧ ((v = .d (.bool true) ∧ I r H1) ∨ (v = .d (.bool false) ∧ Q (.tup []) H1))) := by
  obtain ⟨hl, hb⟩ := hI _ _ h
  obtain ⟨hu, hc⟩ := hy _ _ _ h
  have hbu := BBs_upd hu hb
  have hlu : (upd a.2 H).length = n := by rw [upd_len, hl]
  refine (ACallV.frame (fun id x hx => BB_le (by omega) (BBs_get hbu id x hx)) (by rw [hlu]; exact hyv) (by rw [hlu]; exact ha) (fun v H' hv => ?_) hc).mono ?_
  · rcases hv with ⟨_, k⟩ | ⟨_, k, _⟩
    · rw [(hI _ _ k).1, hlu]
    · rw [k, hlu]
  · rintro v H' ⟨H1, rfl, ⟨k1, k2⟩ | ⟨k1, k2, k3, k4⟩⟩
    · exact ⟨H1, rfl, (hI _ _ k2).1, (hI _ _ k2).2, .inl ⟨k1, k2⟩⟩
    · exact ⟨H1, rfl, k2, k3, .inr ⟨k1, k4⟩⟩

/-- How many strengths there are. -/
def Log.N (x : Log) : Nat := (x.bath.str.hi + 1 - x.bath.str.lo).toNat

def itemAt (x : Log) (v : Nat → List Sp → V) (u : Nat → List Sp → Option (Nat × Blk)) (i : Nat) : Option ItemU :=
  (rustsP x (x.bath.str.lo + i)).map fun l => ([.d (.int .i64 (x.bath.str.lo + i)), v i l], u i l)

def itemsF (x : Log) (v : Nat → List Sp → V) (u : Nat → List Sp → Option (Nat × Blk)) : List ItemU := (List.range x.N).filterMap (itemAt x v u)

theorem c93 {x : Log} (hok : x.Ok) (v : Nat → List Sp → V) (u : Nat → List Sp → Option (Nat × Blk)) (hv : ∀ i l H, i < x.N → rustsP x (x.bath.str.lo + i) = some l → uOk (u i l) H → VB H.length (v i l) = true)
    (hcall : ∀ i l H Q, i < x.N → rustsP x (x.bath.str.lo + i) = some l → uOk (u i l) H → Q (.tup [v i l, .d (.bool true)]) (upd (u i l) H) → ACallV prog (.fn (.func 115) [] []) [.d x.d, .d (.int .i64 (x.bath.str.lo + i))] H Q) :
    IterU prog (.fn (.func 93) [.d x.d] []) (itemsF x v u) := by
  intro yv n I Q hf hyv hI hy hend H hH
  have hHl := (hI _ _ hH).1
  have hHb := (hI _ _ hH).2
  obtain ⟨f, y1, y2, rfl⟩ := hf
  have hok' := hok
  obtain ⟨hb, _, _, _⟩ := hok'
  obtain ⟨s1, s2, s3, hb5, _⟩ := hb
  have hN : (x.N : Int) = x.bath.str.hi + 1 - x.bath.str.lo := by simp only [Log.N]; omega
  refine ACallV.of rfl ?_
  refine ACalls.run (fun _ => false) tt_ok (fn := f93) (rs := []) rfl rfl rfl rfl rfl rfl rfl ?_
  simp only [go_sem, hHl, hy0 hHl, Log.d]
  refine ALoop.by (S := Nat × Heap) (fun s => [(4, .d (.int .i64 (x.bath.str.lo + s.1))), (2, .ptr n 0), (1, .fn f y1 y2)])
    (fun s => s.2 ++ [boxX x]) (fun s => x.N - s.1)
    (fun s => s.1 ≤ x.N ∧ I (((List.range x.N).drop s.1).filterMap (itemAt x v u)) s.2) (0, H) (by simp) (fun _ h => nomatch h) ⟨Nat.zero_le _, hH⟩ ?_ ?_
  · exact ForgetTo.same' (by simp) (by simp [EWe, Env.look]) (by simp [boxX])
  rintro ⟨i, Hc⟩ ⟨hi, hI0⟩ hn'
  simp only at hi hI0 hn' ⊢
  have hcl := (hI _ _ hI0).1
  have hcb := (hI _ _ hI0).2
  refine AWP.run (fun _ => false) tt_ok (fun _ h => nomatch h) (by simp; omega) rfl ?_
  simp only [go_sem, hy0 hcl, boxX]
  refine Br_split (fun hd => ?_) (fun hd => ?_) <;> simp only [go_sem, hd]
  · have hlt : i < x.N := by simp at hd; omega
    have hstr : 0 ≤ x.bath.str.lo + i ∧ x.bath.str.lo + i ≤ 40 := by omega
    have hnx : IntKind.i64.wrap (x.bath.str.lo + i + 1) = x.bath.str.lo + ((i + 1 : Nat) : Int) := by rw [w64 (by omega) (by omega)]; omega
    simp only [go_sem, hy0 hcl, boxX]
    have hdr : (List.range x.N).drop i = i :: (List.range x.N).drop (i + 1) := by rw [List.drop_eq_getElem_cons (by simpa using hlt), List.getElem_range]
    rw [hdr] at hI0
    cases h : rustsP x (x.bath.str.lo + i) with
    | none =>
      have hit : itemAt x v u i = none := by simp only [itemAt, h]; rfl
      rw [List.filterMap_cons_none hit] at hI0
      refine (c115 hok hstr).call rfl rfl (by simp only [rustsV, h]; rfl) ?_
      simp only [rustsV, h, go_sem, hy0 hcl, boxX]
      refine ⟨(i + 1, Hc), ⟨hlt, hI0⟩, by simp only; omega, ?_⟩
      exact ForgetTo.same' (by simp; omega) (by simp [EWe, Env.look, hnx]) (by simp [boxX])
    | some l =>
      have hit : itemAt x v u i = some ([.d (.int .i64 (x.bath.str.lo + i)), v i l], u i l) := by simp only [itemAt, h]; rfl
      rw [List.filterMap_cons_some hit] at hI0
      have hu : uOk (u i l) Hc := (hy _ _ _ hI0).1
      refine hcall i l _ _ hlt h (uOk_append _ hu) ?_
      have hul : (upd (u i l) Hc).length = n := by rw [upd_len, hcl]
      rw [upd_append _ hu]
      simp only [go_sem, hy0 hul, boxX]
      have hvb := hv i l Hc hlt h hu
      rw [hcl] at hvb
      refine (yield_frameU hyv hI hy [.cells [.d (.int .i64 x.bath.str.lo), .d (.int .i64 x.bath.str.hi), .d (.sl (x.bath.plates.map Plate.d)), .d (.sl (x.seen.map Seen.d)), .d (.int .i64 x.without)]] (by simp [VBs, VB, hvb]) hI0).mono ?_
      rintro w H' ⟨H1, rfl, k1, k2, k3⟩
      rcases k3 with ⟨rfl, k3⟩ | ⟨rfl, k3⟩
      · simp only [go_sem, hy0 k1]
        refine ⟨(i + 1, H1), ⟨hlt, k3⟩, by simp only; omega, ?_⟩
        exact ForgetTo.same' (by simp; omega) (by simp [EWe, Env.look, hnx]) (by simp [boxX])
      · simp only [go_sem, hHl, htk k1]
        exact ⟨.inr k2, k3⟩
  · have hie : i = x.N := by simp at hd; omega
    rw [List.drop_eq_nil_of_le (by simp; omega)] at hI0
    simp only [go_sem, hHl, htk hcl]
    exact ⟨.inr hcb, hend _ hI0⟩
end Go.Aw
end

section
set_option maxRecDepth 100000
namespace Go.Aw
open Go Go.Proofs.Try

def both (a b : Sp) : Sp := ⟨min a.lo b.lo, max a.hi b.hi⟩

theorem both_self (a : Sp) : both a a = a := by simp [both]

theorem c94 (a b : Sp) : PC prog 94 [.d a.d, .d b.d] (.d (both a b).d) := by
  refine PC.run (fun _ => false) tt_ok (fn := f94) (rs := [.cell 4 23]) rfl rfl rfl rfl rfl rfl rfl ?_
  simp only [go_sem, Sp.d, both]

/-- What can have been, in order. -/
def canL (x : Log) : List (Nat × List Sp) := (List.range x.N).filterMap fun i : Nat => (rustsP x (x.bath.str.lo + i)).map fun l => ((i : Nat), l)

def mixR (r l : List Sp) (p : Nat) : List Sp := (List.zipWith both r l).take p ++ r.drop p

theorem mixR_zero (r l : List Sp) : mixR r l 0 = r := by simp [mixR]
theorem mixR_self (l : List Sp) (p : Nat) : mixR l l p = l := by
  have : List.zipWith both l l = l := by
    induction l with
    | nil => rfl
    | cons a r ih => simp only [List.zipWith_cons_cons, both_self, ih]
  rw [mixR, this, List.take_append_drop]
theorem mixR_len {r l : List Sp} (h : l.length = r.length) {p : Nat} (hp : p ≤ r.length) : (mixR r l p).length = r.length := by
  simp [mixR, h]; omega
theorem mixR_get {r l : List Sp} (h : l.length = r.length) {p : Nat} (hp : p < r.length) : (mixR r l p)[p]? = some r[p] := by
  have : ((List.zipWith both r l).take p).length = p := by simp [h]; omega
  rw [mixR, List.getElem?_append_right (by omega), this, Nat.sub_self, List.getElem?_drop, Nat.add_zero, List.getElem?_eq_getElem hp]
theorem mixR_set {r l : List Sp} (h : l.length = r.length) {p : Nat} (hp : p < r.length) : (mixR r l p).set p (both r[p] l[p]) = mixR r l (p + 1) := by
  have h1 : ((List.zipWith both r l).take p).length = p := by simp [h]; omega
  rw [mixR, List.set_append_right _ _ (by omega), h1, Nat.sub_self, List.drop_eq_getElem_cons hp, List.set_cons_zero, mixR, List.take_succ_eq_append_getElem (by simp [h]; omega), List.append_assoc]
  simp
theorem mixR_end {r l : List Sp} (h : l.length = r.length) : mixR r l r.length = List.zipWith both r l := by
  rw [mixR, List.drop_length, List.append_nil, List.take_of_length_le (by simp [h])]

/-- What was: where its row is, the least and the greatest strength, all rusts. -/
def wasS : Option (Nat × Nat × List Sp) → Nat × List Sp → Option (Nat × Nat × List Sp)
  | none, (i, l) => some (i, i, l)
  | some (k, _, r), (i, l) => some (k, i, List.zipWith both r l)

def wasO (x : Log) : Option (Nat × Nat × List Sp) := (canL x).foldl wasS none

def wasV (b : Bath) (l : List Seen) : V :=
  if logE b l = 0 then (match wasO ⟨b, l, 0⟩ with | none => .tup [.d sp0.d, .slx (some true) [], .d (.int .i64 9)] | some (k, h, r) => .tup [.d (Sp.mk (b.str.lo + k) (b.str.lo + h)).d, .d (.sl (r.map Sp.d)), .d (.int .i64 0)]) else .tup [.d sp0.d, .slx (some true) [], .d (.int .i64 (logE b l))]

theorem logP_ok {b : Bath} {l : List Seen} (hl : l.length ≤ 62) (h : logE b l = 0) : b.Ok ∧ (∀ w, w < 2 ^ 62 → (Log.mk b l w).Ok) := by
  unfold logE at h
  split at h
  · rename_i h0
    split at h
    · cases h
    · split at h
      · rename_i h2
        refine ⟨checkP_iff.1 h0, fun w hw => ⟨checkP_iff.1 h0, hl, hw, fun s hs => stepsOk_mem h2 s.step (List.mem_map.2 ⟨s, hs, rfl⟩)⟩⟩
      · cases h
  · rename_i h0; exact absurd h h0

def isArr : Blk → Bool
  | .arr _ _ _ => true
  | _ => false

theorem BBs_arr {n : Nat} : ∀ {l : List Blk}, (∀ x ∈ l, isArr x = true) → BBs n l
  | [], _ => trivial
  | .arr _ _ _ :: _, h => ⟨trivial, BBs_arr fun x hx => h x (List.mem_cons_of_mem _ hx)⟩
  | .cells c :: _, h => by have := h (.cells c) List.mem_cons_self; cases this
  | .loop a b c d e f :: _, h => by have := h (.loop a b c d e f) List.mem_cons_self; cases this
  | .obj o :: _, h => by have := h (.obj o) List.mem_cons_self; cases this

def rowV (n i : Nat) : V := if n = 0 then .d (.sl []) else .ref (i + 5) n 0 n

def rowU (n i : Nat) (l : List Sp) : Option (Nat × Blk) := if n = 0 then none else some (i + 5, .arr 2 false (l.map Sp.d))

def itemI (b : Bath) (p : Nat × List Sp) : ItemU := ([.d (.int .i64 (b.str.lo + p.1)), rowV b.plates.length p.1], rowU b.plates.length p.1 p.2)

/-- The heap of Was. -/
def hW (b : Bath) (l : List Seen) (lo hi : Int) (rv : V) (e : Int) (rows : Heap) : Heap :=
  .cells [.d (.int .i64 b.str.lo), .d (.int .i64 b.str.hi), .d (.sl (b.plates.map Plate.d))] :: .cells [.d (.int .i64 lo), .d (.int .i64 hi)] :: .cells [rv] :: .cells [.d (.int .i64 e)] ::
    .cells [.d (.int .i64 b.str.lo), .d (.int .i64 b.str.hi), .d (.sl (b.plates.map Plate.d)), .d (.sl (l.map Seen.d)), .d (.int .i64 0)] :: rows

def hS (b : Bath) (l : List Seen) : Option (Nat × Nat × List Sp) → Heap → Heap
  | none, rows => hW b l 0 0 (.slx (some true) []) 9 rows
  | some (k, h, _), rows => hW b l (b.str.lo + k) (b.str.lo + h) (rowV b.plates.length k) 0 rows

/-- What holds of Was's rows. -/
structure JW (b : Bath) (m : Nat) (q : List (Nat × List Sp)) (st : Option (Nat × Nat × List Sp)) (rows : Heap) : Prop where
  len : rows.length = m
  arr : ∀ x ∈ rows, isArr x = true
  due : ∀ p ∈ q, p.1 < m ∧ p.2.length = b.plates.length ∧ (b.plates.length ≠ 0 → rows[p.1]? = some (.arr 2 true []))
  pw : q.Pairwise (fun a c => a.1 ≠ c.1)
  cur : ∀ k h r, st = some (k, h, r) → k < m ∧ r.length = b.plates.length ∧ (∀ p ∈ q, p.1 ≠ k) ∧ (b.plates.length ≠ 0 → rows[k]? = some (.arr 2 false (r.map Sp.d)))

theorem JW.next {b : Bath} {m i : Nat} {now : List Sp} {q' : List (Nat × List Sp)} {st : Option (Nat × Nat × List Sp)} {rows : Heap} (hJ : JW b m ((i, now) :: q') st rows) {k h : Nat} {r : List Sp} {rows2 : Heap} (hl : rows2.length = m) (ha : ∀ x ∈ rows2, isArr x = true) (hk : k < m)
    (hr : r.length = b.plates.length) (hq : ∀ p ∈ q', p.1 ≠ k) (hrow : b.plates.length ≠ 0 → rows2[k]? = some (.arr 2 false (r.map Sp.d))) (ho : ∀ j, j ≠ i → j ≠ k → rows2[j]? = rows[j]?) : JW b m q' (some (k, h, r)) rows2 where
  len := hl
  arr := ha
  due := fun p hp => by
    obtain ⟨h1, h2, h3⟩ := hJ.due p (List.mem_cons_of_mem _ hp)
    refine ⟨h1, h2, fun hn => ?_⟩
    rw [ho p.1 (fun e => (List.pairwise_cons.1 hJ.pw).1 p hp e.symm) (hq p hp)]
    exact h3 hn
  pw := (List.pairwise_cons.1 hJ.pw).2
  cur := fun k' h' r' e => by
    cases e
    exact ⟨hk, hr, hq, hrow⟩

theorem canL_pw (x : Log) : (canL x).Pairwise (fun a c => a.1 ≠ c.1) := by
  refine List.Pairwise.filterMap _ (R := fun a c : Nat => a ≠ c) ?_ List.nodup_range
  intro a c hac p hp p' hp' he
  simp only [Option.map_eq_some_iff] at hp hp'
  obtain ⟨l, _, rfl⟩ := hp
  obtain ⟨l', _, rfl⟩ := hp'
  exact hac he

theorem canL_mem {x : Log} {p : Nat × List Sp} (h : p ∈ canL x) : p.1 < x.N ∧ p.2.length = x.bath.plates.length := by
  simp only [canL, List.mem_filterMap, Option.map_eq_some_iff] at h
  obtain ⟨i, hi, l, hl, rfl⟩ := h
  exact ⟨by simpa using hi, rustsP_len hl⟩

theorem items_can (x : Log) : itemsF x (fun i _ => rowV x.bath.plates.length i) (rowU x.bath.plates.length) = (canL x).map (itemI x.bath) := by
  simp only [itemsF, canL, List.map_filterMap]
  congr 1
  funext i
  simp only [itemAt, Option.map_map]
  rfl

theorem c49 (b : Bath) (l : List Seen) (hb : b.plates.length ≤ 4294967296) (hl : l.length ≤ 62) : PC prog 49 [.d b.d, .d (.sl (l.map Seen.d))] (wasV b l) := by
  refine PC.run (fun _ => false) tt_ok (fn := f49) (rs := [.cell 4 23, .cell 5 32, .cell 6 30]) rfl rfl rfl rfl rfl rfl rfl ?_
  simp only [go_sem, Bath.d]
  refine (c92 b l hb (by omega)).call rfl rfl rfl ?_
  simp only [go_sem, Bath.d, Log.d]
  refine Br_split (fun hc => ?_) (fun hc => ?_) <;> simp only [go_sem, hc]
  · have h0 : ¬ logE b l = 0 := by simpa using hc
    refine ADrw.treeG (fun _ => false) tt_ok (by kernel_rfl) (fun k => if k = 0 ∨ k = 1 then some .L else if k = 2 ∨ k = 3 ∨ k = 4 then some .W else some .S) (.ones [0] (.two 1 (.ones [2, 3, 4] .done) 2 (.two 1 (.ones [3, 4] .done) 3 (.ones [1, 4] .done)))) (by simp) (fun _ h => nomatch h) rfl rfl (by kernel_rfl) ?_
    simp only [go_sem]
    simp [wasV, h0, sp0, Sp.d]
  have h0 : logE b l = 0 := by simpa using hc
  have hlp : logP b l = ⟨b, l, 0⟩ := by rw [logP, if_pos h0]
  rw [hlp]
  obtain ⟨hbo, hxo⟩ := logP_ok hl h0
  have hok := hxo 0 (by omega)
  simp only [go_sem]
  refine (AWP.newrows 2 (Log.mk b l 0).N (Nat.zero_le _) ?_ : AWP _ _ _ _ _ _ _ _)
  change AWP _ _ _ _ _ _ (hS b l none (List.replicate (Log.mk b l 0).N (.arr 2 true []))) _
  have hm5 : ∀ st rows, rows.length = (Log.mk b l 0).N → (hS b l st rows).length = (Log.mk b l 0).N + 5 := fun st rows h => by cases st <;> simp [hS, hW, h]
  have hlen0 : (hS b l none (List.replicate (Log.mk b l 0).N (.arr 2 true []))).length = (Log.mk b l 0).N + 5 := hm5 _ _ (by simp)
  refine ARng.iterU (items := (canL ⟨b, l, 0⟩).map (itemI b)) (J := fun rest Hc => ∃ q st rows, rest = q.map (itemI b) ∧ Hc = hS b l st rows ∧ JW b (Log.mk b l 0).N q st rows ∧ q.foldl wasS st = wasO ⟨b, l, 0⟩)
    (Nat.zero_le _) (fun _ h => nomatch h) rfl ?_ rfl (by rw [hlen0]; simp [VBs, VB]) ?_ ?_ ?_ ?_ ?_ ?_
  · refine cast (congrArg _ (items_can ⟨b, l, 0⟩)) (c93 hok _ _ ?_ ?_)
    · intro i r H hi hr hu
      simp only [rowV]
      split
      · rfl
      · rename_i hn
        simp only [rowU, if_neg hn] at hu
        simpa [VB] using uOk_lt hu
    · intro i r H Q hi hr hu hq
      have hstr : 0 ≤ b.str.lo + i ∧ b.str.lo + i ≤ 40 := by
        obtain ⟨s1, s2, s3, _, _⟩ := hbo
        simp only [Log.N] at hi
        omega
      have hrl := rustsP_len hr
      by_cases hn : b.plates.length = 0
      · have hr0 : r = [] := List.length_eq_zero_iff.1 (by rw [hrl]; exact hn)
        simp only [rowV, rowU, if_pos hn, upd] at hq
        refine (c115 hok hstr).call rfl rfl (by simp only [rustsV, hr]; rfl) ?_
        simp only [rustsV, hr, hr0, List.map_nil]
        exact hq
      · simp only [rowV, rowU, if_neg hn, upd] at hq hu
        have hr1 := r115 hok hstr
        have hB : rB ⟨b, l, 0⟩ (b.str.lo + i) = [boxX ⟨b, l, 0⟩] ++ [.arr 2 false (r.map Sp.d)] := by simp only [rB, hr, hn, decide_false]; rfl
        have hV : rV ⟨b, l, 0⟩ (b.str.lo + i) = .tup [.ref 1 b.plates.length 0 b.plates.length, .d (.bool true)] := by simp only [rV, hr]
        rw [hB, hV] at hr1
        exact PCr.into hr1 hu.1 hu.2 rfl rfl rfl hq
  · rintro rest Hc ⟨q, st, rows, rfl, rfl, hJ, _⟩
    refine ⟨?_, ?_⟩
    · rw [hm5 _ _ hJ.len, hlen0]
    · rw [hlen0]
      have hba : ∀ k, BBs k rows := fun k => BBs_arr hJ.arr
      cases st with
      | none => simp [hS, hW, BBs, BB, VBs, VB, hba]
      | some p =>
        obtain ⟨k, h, r⟩ := p
        have hk := (hJ.cur k h r rfl).1
        have hv : VB ((Log.mk b l 0).N + 5) (rowV b.plates.length k) = true := by
          simp only [rowV]
          split
          · rfl
          · simp [VB, hk]
        simp [hS, hW, BBs, BB, VBs, VB, hba, hv]
  · refine ⟨canL ⟨b, l, 0⟩, none, List.replicate (Log.mk b l 0).N (.arr 2 true []), rfl, rfl, ⟨by simp, fun x hx => by rw [List.eq_of_mem_replicate hx]; rfl, fun p hp => ?_, canL_pw _, fun k h r he => by cases he⟩, rfl⟩
    obtain ⟨h1, h2⟩ := canL_mem hp
    exact ⟨h1, h2, fun _ => by rw [List.getElem?_replicate, if_pos h1]⟩
  · rintro Hc ⟨q, st, rows, hq, rfl, hJ, hfo⟩
    obtain rfl : q = [] := by simpa using hq.symm
    simp only [List.foldl_nil] at hfo
    subst hfo
    simp only [go_sem]
    refine ADrw.treeG (fun _ => false) tt_ok (by kernel_rfl) (fun k => if k = 0 ∨ k = 1 ∨ k = 2 then some .L else if k = 3 ∨ k = 4 ∨ k = 5 then some .W else some .S)
      (.ones [0] (.three 1 (.two 2 (.ones [3, 4, 5] .done) 3 (.two 2 (.ones [4, 5] .done) 4 (.ones [2, 5] .done))) 2 (.two 1 (.ones [3, 4, 5] .done) 3 (.ones [1, 4, 5] .done)) 3 (.two 1 (.two 2 (.ones [4, 5] .done) 4 (.ones [2, 5] .done)) 2 (.ones [1, 4, 5] .done)))) (Nat.zero_le _) (fun _ h => nomatch h) rfl rfl (by kernel_rfl) ?_
    cases hw : wasO ⟨b, l, 0⟩ with
    | none =>
      simp only [go_sem, hS, hW]
      simp [wasV, h0, hw, sp0, Sp.d]
    | some p =>
      obtain ⟨k, h, r⟩ := p
      obtain ⟨k1, k2, k3, k4⟩ := hJ.cur k h r hw
      by_cases hn : b.plates.length = 0
      · have hr0 : r = [] := List.length_eq_zero_iff.1 (by omega)
        simp only [go_sem, hS, hW, rowV, if_pos hn]
        simp [wasV, h0, hw, hr0, Sp.d]
      · have hk4 := k4 hn
        have htk : (r.map Sp.d).take b.plates.length = r.map Sp.d := List.take_of_length_le (by simp [k2])
        simp only [go_sem, hS, hW, rowV, if_neg hn, hk4, k2, htk, List.length_map, Nat.not_lt_zero]
        simp [wasV, h0, hw, Sp.d]
  · intro xs has
    obtain ⟨p, _, rfl⟩ := List.mem_map.1 has
    rfl
  · rintro xs rest Hc has ⟨q, st, rows, hq, rfl, hJ, hfo⟩
    obtain ⟨p, q', rfl⟩ : ∃ p q', q = p :: q' := by cases q with
      | nil => cases hq
      | cons p r => exact ⟨p, r, rfl⟩
    obtain ⟨rfl, rfl⟩ : xs = itemI b p ∧ rest = q'.map (itemI b) := by simpa using hq
    obtain ⟨k1, k2, k3⟩ := hJ.due p List.mem_cons_self
    simp only [itemI, rowU]
    split
    · trivial
    · rename_i hn
      refine ⟨?_, fun e => hn (by rw [← k2]; simpa using e)⟩
      have := k3 hn
      cases st <;> simpa [hS, hW] using this
  · rintro L L' xs rest Hc has ⟨q, st, rows, hq, rfl, hJ, hfo⟩
    obtain ⟨p, q', rfl⟩ : ∃ p q', q = p :: q' := by cases q with
      | nil => cases hq
      | cons p r => exact ⟨p, r, rfl⟩
    obtain ⟨rfl, rfl⟩ : xs = itemI b p ∧ rest = q'.map (itemI b) := by simpa using hq
    obtain ⟨i, now⟩ := p
    obtain ⟨k1, k2, k3⟩ := hJ.due (i, now) List.mem_cons_self
    simp only at k1 k2 k3
    rw [hlen0]
    refine AWP.run (fun _ => false) tt_ok (fun _ h => by cases h; exact Nat.lt_succ_self _) ?_ rfl ?_
    · simp only [itemI, List.length_append, upd_len, hm5 st rows hJ.len, List.length_singleton]
      exact Nat.le_refl _
    -- the row that was filled
    obtain ⟨rows1, hr1, hr1l, hr1a, hr1i, hr1o⟩ : ∃ rows1, upd (itemI b (i, now)).2 (hS b l st rows) = hS b l st rows1 ∧ rows1.length = (Log.mk b l 0).N ∧ (∀ x ∈ rows1, isArr x = true) ∧ (b.plates.length ≠ 0 → rows1[i]? = some (.arr 2 false (now.map Sp.d))) ∧ (∀ j, j ≠ i → rows1[j]? = rows[j]?) := by
      by_cases hn : b.plates.length = 0
      · exact ⟨rows, by simp only [itemI, rowU, if_pos hn, upd], hJ.len, hJ.arr, fun h => absurd hn h, fun _ _ => rfl⟩
      · refine ⟨rows.set i (.arr 2 false (now.map Sp.d)), ?_, by simp [hJ.len], fun x hx => ?_, fun _ => ?_, fun j hj => ?_⟩
        · simp only [itemI, rowU, if_neg hn, upd]
          cases st <;> rfl
        · rcases List.mem_or_eq_of_mem_set hx with hx | rfl
          · exact hJ.arr x hx
          · rfl
        · rw [List.getElem?_set_self (by rw [hJ.len]; exact k1)]
        · rw [List.getElem?_set_ne (fun e => hj e.symm)]
    rw [hr1]
    simp only [go_sem, itemI]
    have hL : (hS b l st rows1 ++ [L])[(Log.mk b l 0).N + 5]? = some L := by rw [List.getElem?_append_right (by rw [hm5 _ _ hr1l]; exact Nat.le_refl _), hm5 _ _ hr1l, Nat.sub_self]; rfl
    refine ⟨hL, ?_⟩
    have hset : (hS b l st rows1 ++ [L]).set ((Log.mk b l 0).N + 5) L' = hS b l st rows1 ++ [L'] := by rw [List.set_append_right _ _ (by rw [hm5 _ _ hr1l]; exact Nat.le_refl _), hm5 _ _ hr1l, Nat.sub_self]; rfl
    rw [hset]
    generalize (Log.mk b l 0).N = m at *
    have hnB : b.plates.length ≤ 5 := hbo.2.2.2.1
    refine AWP.run (fun _ => false) tt_ok (fun _ h => by cases h; omega) (by rw [List.length_append, hm5 _ _ hr1l]; exact Nat.le_refl _) rfl ?_
    simp only [List.foldl_cons] at hfo
    have hpw' := hJ.pw
    rw [List.pairwise_cons] at hpw'
    have hnx : ∀ p : Nat, p < 10 → IntKind.i64.wrap ((p : Int) + 1) = ((p + 1 : Nat) : Int) := fun p hp => w64 (by omega) (by omega)
    have hgm : ∀ rows2 : Heap, rows2.length = m → (rows2 ++ [L'])[m]? = some L' := fun rows2 h => by rw [List.getElem?_append_right (by omega), h, Nat.sub_self]; rfl
    have hgr : ∀ (rows2 : Heap) (j : Nat), rows2.length = m → j < m → (rows2 ++ [L'])[j]? = rows2[j]? := fun rows2 j h hj => List.getElem?_append_left (by omega)
    have hsr : ∀ (rows2 : Heap) (j : Nat) (X : Blk), rows2.length = m → j < m → (rows2 ++ [L']).set j X = rows2.set j X ++ [L'] := fun rows2 j X h hj => List.set_append_left _ _ (by omega)
    have htk : ∀ rows2 : Heap, rows2.length = m → (rows2 ++ [L']).take m = rows2 := fun rows2 h => by rw [← h]; simp
    cases st with
    | none =>
      by_cases hn : b.plates.length = 0
      · have hnow : now = [] := List.length_eq_zero_iff.1 (by omega)
        simp only [go_sem, hS, hW, rowV, if_pos hn]
        refine ALoop.by (S := Nat) (fun p => [(35, .d (.int .i64 p)), (34, .d (.int .i64 0)), (6, .ptr 3 0), (5, .ptr 2 0), (4, .ptr 1 0)])
          (fun _ => hW b l (b.str.lo + i) (b.str.lo + i) (.d (.sl [])) 0 (rows1 ++ [L'])) (fun p => 0) (fun p => True) 0 (by simp [hr1l]) (fun _ h => by cases h; omega) trivial ?_ ?_
        · exact ForgetTo.same' (by simp [hr1l]) (by simp [EWe, Env.look]) (by simp [hW])
        rintro p hp hn2
        refine AWP.run (fun _ => false) tt_ok (fun _ h => by cases h; omega) hn2 rfl ?_
        have hd : decide ((p : Int) < 0) = false := by simp
        simp only [go_sem, hd, hW, hgm _ hr1l, htk _ hr1l]
        refine ⟨BBs_arr hr1a, q', some (i, i, now), rows1, rfl, rfl, hJ.next hr1l hr1a k1 k2 (fun p hp e => hpw'.1 p hp e.symm) hr1i (fun j h1 _ => hr1o j h1), hfo⟩
      · have hgi : (rows1 ++ [L'])[i]? = some (.arr 2 false (now.map Sp.d)) := by rw [hgr _ _ hr1l k1]; exact hr1i hn
        simp only [go_sem, hS, hW, rowV, if_neg hn, hgi, List.length_map, k2]
        refine ALoop.by (S := Nat) (fun p => [(35, .d (.int .i64 p)), (34, .d (.int .i64 b.plates.length)), (9, .ref (i + 5) b.plates.length 0 b.plates.length), (6, .ptr 3 0), (5, .ptr 2 0), (4, .ptr 1 0)])
          (fun _ => hW b l (b.str.lo + i) (b.str.lo + i) (.ref (i + 5) b.plates.length 0 b.plates.length) 0 (rows1 ++ [L'])) (fun p => b.plates.length - p) (fun p => p ≤ b.plates.length) 0 (by simp [hr1l]) (fun _ h => by cases h; omega) (Nat.zero_le _) ?_ ?_
        · exact ForgetTo.same' (by simp [hr1l]) (by simp [EWe, Env.look]) (by simp [hW])
        rintro p hp hn2
        refine AWP.run (fun _ => false) tt_ok (fun _ h => by cases h; omega) hn2 rfl ?_
        simp only [go_sem]
        refine Br_split (fun hd => ?_) (fun hd => ?_) <;> simp only [go_sem, hd]
        · have hlt : p < b.plates.length := by simpa using hd
          have hge : (now.map Sp.d)[p]? = some (now[p]).d := by rw [List.getElem?_map, List.getElem?_eq_getElem (by omega)]; rfl
          have hse : (now.map Sp.d).set p (now[p]).d = now.map Sp.d := by
            rw [← List.map_set]; congr 1; exact List.set_getElem_self _
          have hsb : (rows1 ++ [L']).set i (.arr 2 false (now.map Sp.d)) = rows1 ++ [L'] := set_same hgi
          generalize now[p] = a at hge hse
          have c1 : (0 : Int) ≤ (p : Int) := by omega
          have c2 : (p : Int) < (b.plates.length : Int) := by omega
          simp only [go_sem, hW]
          refine ADrw.treeG (fun _ => false) tt_ok (by kernel_rfl) (fun k => if k = 0 ∨ k = 2 ∨ k = 4 ∨ k = 5 ∨ k = 8 ∨ k = 9 ∨ k = 11 then some .L else if k = 12 then some .W else some .S) (.ones [0, 1, 2, 3, 4, 5, 6, 7, 8, 9, 10, 11, 12] .done) (by simp [hr1l]) (fun _ h => by cases h; omega) rfl rfl (by kernel_rfl) ?_
          simp only [go_sem, hgi, hge, List.length_map, k2, c1, c2, Int.toNat_natCast, Sp.d]
          refine (c94 a a).callS rfl rfl rfl rfl rfl rfl ?_
          rw [both_self]
          have hse' : (now.map Sp.d).set p (.agg [.int .i64 a.lo, .int .i64 a.hi]) = now.map Sp.d := hse
          simp only [go_sem, hgi, hge, List.length_map, k2, c1, c2, Int.toNat_natCast, Sp.d, hsb, hse']
          refine ⟨p + 1, hlt, by omega, ?_⟩
          exact ForgetTo.same' (by simp [hr1l]) (by simp [EWe, Env.look, hnx p (by omega)]) (by simp [hW, hsb])
        · have hpe : p = b.plates.length := by simp at hd; omega
          simp only [go_sem, hW, hgm _ hr1l, htk _ hr1l]
          refine ⟨⟨by omega, BBs_arr hr1a⟩, q', some (i, i, now), rows1, rfl, rfl, hJ.next hr1l hr1a k1 k2 (fun p hp e => hpw'.1 p hp e.symm) hr1i (fun j h1 _ => hr1o j h1), hfo⟩
    | some st0 =>
      obtain ⟨k, h, r⟩ := st0
      obtain ⟨j1, j2, j3, j4⟩ := hJ.cur k h r rfl
      have hik : i ≠ k := j3 (i, now) List.mem_cons_self
      by_cases hn : b.plates.length = 0
      · have hnow : now = [] := List.length_eq_zero_iff.1 (by omega)
        have hr : r = [] := List.length_eq_zero_iff.1 (by omega)
        subst hnow
        subst hr
        simp only [go_sem, hS, hW, rowV, if_pos hn]
        refine ALoop.by (S := Nat) (fun p => [(35, .d (.int .i64 p)), (34, .d (.int .i64 0)), (6, .ptr 3 0), (5, .ptr 2 0), (4, .ptr 1 0)])
          (fun _ => hW b l (b.str.lo + k) (b.str.lo + i) (.d (.sl [])) 0 (rows1 ++ [L'])) (fun p => 0) (fun p => True) 0 (by simp [hr1l]) (fun _ h => by cases h; omega) trivial ?_ ?_
        · exact ForgetTo.same' (by simp [hr1l]) (by simp [EWe, Env.look]) (by simp [hW])
        rintro p hp hn2
        refine AWP.run (fun _ => false) tt_ok (fun _ h => by cases h; omega) hn2 rfl ?_
        have hd : decide ((p : Int) < 0) = false := by simp
        simp only [go_sem, hd, hW, hgm _ hr1l, htk _ hr1l]
        refine ⟨BBs_arr hr1a, q', some (k, i, []), rows1, rfl, by simp only [hS, hW, rowV, if_pos hn], hJ.next hr1l hr1a j1 j2 (fun p hp => j3 p (List.mem_cons_of_mem _ hp)) (fun h => absurd hn h) (fun j h1 _ => hr1o j h1), hfo⟩
      · have hrk : rows1[k]? = some (.arr 2 false (r.map Sp.d)) := by rw [hr1o k (fun e => hik e.symm)]; exact j4 hn
        have hlr : now.length = r.length := by omega
        have hgi : (rows1 ++ [L'])[i]? = some (.arr 2 false (now.map Sp.d)) := by rw [hgr _ _ hr1l k1]; exact hr1i hn
        simp only [go_sem, hS, hW, rowV, if_neg hn, hgi, List.length_map, k2]
        refine ALoop.by (S := Nat) (fun p => [(35, .d (.int .i64 p)), (34, .d (.int .i64 b.plates.length)), (9, .ref (i + 5) b.plates.length 0 b.plates.length), (6, .ptr 3 0), (5, .ptr 2 0), (4, .ptr 1 0)])
          (fun p => hW b l (b.str.lo + k) (b.str.lo + i) (.ref (k + 5) b.plates.length 0 b.plates.length) 0 (rows1.set k (.arr 2 false ((mixR r now p).map Sp.d)) ++ [L'])) (fun p => b.plates.length - p) (fun p => p ≤ b.plates.length) 0 (by simp [hr1l]) (fun _ h => by cases h; omega) (Nat.zero_le _) ?_ ?_
        · exact ForgetTo.same' (by simp [hr1l]) (by simp [EWe, Env.look]) (by rw [mixR_zero, set_same hrk]; simp [hW])
        rintro p hp hn2
        have hrpl : (rows1.set k (.arr 2 false ((mixR r now p).map Sp.d))).length = m := by simp [hr1l]
        refine AWP.run (fun _ => false) tt_ok (fun _ h => by cases h; omega) hn2 rfl ?_
        simp only [go_sem]
        refine Br_split (fun hd => ?_) (fun hd => ?_) <;> simp only [go_sem, hd]
        · have hlt : p < b.plates.length := by simpa using hd
          have hgk : (rows1.set k (.arr 2 false ((mixR r now p).map Sp.d)) ++ [L'])[k]? = some (.arr 2 false ((mixR r now p).map Sp.d)) := by rw [hgr _ _ hrpl j1, List.getElem?_set_self (by omega)]
          have hgi2 : (rows1.set k (.arr 2 false ((mixR r now p).map Sp.d)) ++ [L'])[i]? = some (.arr 2 false (now.map Sp.d)) := by rw [hgr _ _ hrpl k1, List.getElem?_set_ne (fun e => hik e.symm)]; exact hr1i hn
          have hge : (now.map Sp.d)[p]? = some (now[p]).d := by rw [List.getElem?_map, List.getElem?_eq_getElem (by omega)]; rfl
          have hgf : ((mixR r now p).map Sp.d)[p]? = some (r[p]).d := by rw [List.getElem?_map, mixR_get hlr (by omega)]; rfl
          have hml : (mixR r now p).length = b.plates.length := by rw [mixR_len hlr (by omega)]; exact j2
          have hse : ((mixR r now p).map Sp.d).set p (both r[p] now[p]).d = (mixR r now (p + 1)).map Sp.d := by rw [← List.map_set, mixR_set hlr (by omega)]
          have hsb : ∀ X : Blk, (rows1.set k (.arr 2 false ((mixR r now p).map Sp.d)) ++ [L']).set k X = rows1.set k X ++ [L'] := fun X => by rw [hsr _ _ _ hrpl j1, List.set_set]
          generalize now[p] = a at hge hse
          generalize r[p] = a2 at hgf hse
          have c1 : (0 : Int) ≤ (p : Int) := by omega
          have c2 : (p : Int) < (b.plates.length : Int) := by omega
          simp only [go_sem, hW]
          refine ADrw.treeG (fun _ => false) tt_ok (by kernel_rfl) (fun k => if k = 0 ∨ k = 2 ∨ k = 4 ∨ k = 5 ∨ k = 8 ∨ k = 9 ∨ k = 11 then some .L else if k = 12 then some .W else some .S) (.ones [0, 1, 2, 3, 4, 5, 6, 7, 8, 9, 10, 11, 12] .done) (by simp [hr1l]) (fun _ h => by cases h; omega) rfl rfl (by kernel_rfl) ?_
          simp only [go_sem, hgi2, hgk, hge, hgf, hml, List.length_map, k2, c1, c2, Int.toNat_natCast, Sp.d]
          refine (c94 a2 a).callS rfl rfl rfl rfl rfl rfl ?_
          have hse' : ((mixR r now p).map Sp.d).set p (.agg [.int .i64 (both a2 a).lo, .int .i64 (both a2 a).hi]) = (mixR r now (p + 1)).map Sp.d := hse
          simp only [go_sem, hgi2, hgk, hge, hgf, hml, List.length_map, k2, c1, c2, Int.toNat_natCast, Sp.d, hsb, hse']
          refine ⟨p + 1, hlt, by omega, ?_⟩
          exact ForgetTo.same' (by simp [hr1l]) (by simp [EWe, Env.look, hnx p (by omega)]) (by simp [hW, hsb])
        · have hpe : p = b.plates.length := by simp at hd; omega
          have hme : mixR r now p = List.zipWith both r now := by rw [hpe, ← j2, mixR_end hlr]
          have hzl : (List.zipWith both r now).length = b.plates.length := by simp [hlr, j2]
          rw [hme] at hrpl ⊢
          simp only [go_sem, hW, hgm _ hrpl, htk _ hrpl]
          refine ⟨⟨by omega, BBs_arr (fun x hx => ?_)⟩, q', some (k, i, List.zipWith both r now), _, rfl, by simp only [hS, hW, rowV, if_neg hn], hJ.next hrpl (fun x hx => ?_) j1 hzl (fun p hp => j3 p (List.mem_cons_of_mem _ hp)) (fun _ => List.getElem?_set_self (by omega)) (fun j h1 h2 => ?_), hfo⟩
          · rcases List.mem_or_eq_of_mem_set hx with hx | rfl
            · exact hr1a x hx
            · rfl
          · rcases List.mem_or_eq_of_mem_set hx with hx | rfl
            · exact hr1a x hx
            · rfl
          · rw [List.getElem?_set_ne (fun e => h2 e.symm)]; exact hr1o j h1
end Go.Aw
end

section
set_option maxRecDepth 100000
namespace Go.Aw
open Go Go.Proofs.Try

/-- All sets of so many numbers, from some of them on: the next k numbers from n on may be in it. -/
def subsF (many : Nat) : Nat → List Nat → Nat → Nat → List (List Nat × Nat)
  | 0, _, _, _ => []
  | k + 1, l, set, n => (if (l ++ [n]).length = many then [(l ++ [n], set ||| 2 ^ n)] else subsF many k (l ++ [n]) (set ||| 2 ^ n) (n + 1)) ++ subsF many k l set (n + 1)

def onF' (many k : Nat) (l : List Nat) (set n : Nat) : List (List Nat × Nat) := if l.length = many then [(l, set)] else subsF many k l set n

theorem subsF_succ (many k : Nat) (l : List Nat) (set n : Nat) : subsF many (k + 1) l set n = onF' many k (l ++ [n]) (set ||| 2 ^ n) (n + 1) ++ subsF many k l set (n + 1) := rfl

def setsP (below many : Nat) : List (List Nat × Nat) := onF' many below [] 0 0

def setI (p : List Nat × Nat) : List V := [.d (.sl (natsD p.1)), .d (.int .i64 p.2)]

def setV (below many : Nat) : V := .fn (.func 116) [] [.pp [.int .i64 many], .pp [.int .i64 below]]

theorem c95 (below many : Nat) : PC prog 95 [.d (.int .i64 below), .d (.int .i64 many)] (setV below many) := by
  refine PC.run (fun _ => false) tt_ok (fn := f95) (rs := [.tmp 4]) rfl rfl rfl rfl rfl rfl rfl ?_
  simp only [go_sem, setV]

section
variable {yv : V} {n : Nat} {I : List (List V) → Heap → Prop} {Q : V → Heap → Prop} {below many : Nat}

def onW (n below many : Nat) : V := .fn (.func 117) [] [.pp [.int .i64 many], .ptr n 0, .pp [.int .i64 below], .ptr (n + 1) 0]

def SPost (yv : V) (n below many : Nat) (I : List (List V) → Heap → Prop) (Q : V → Heap → Prop) (rest : List (List V)) (v : V) (H' : Heap) : Prop :=
  ∃ H1, H' = H1 ++ [.cells [yv], .cells [onW n below many]] ∧ H1.length = n ∧ BBs n H1 ∧ ((v = .d (.bool true) ∧ I rest H1) ∨ (v = .d (.bool false) ∧ Q (.tup []) H1))

theorem c117 (hb : below ≤ 60) (hf : ∃ f x y, yv = .fn f x y) (hyv : VB n yv = true) (hI : ∀ l H, I l H → H.length = n ∧ BBs n H)
    (hy : ∀ a r H, I (a :: r) H → ACallV prog yv a H (fun v H' => (v = .d (.bool true) ∧ I r H') ∨ (v = .d (.bool false) ∧ H'.length = n ∧ BBs n H' ∧ Q (.tup []) H'))) :
    ∀ (k : Nat) (l : List Nat) (set first : Nat) (rest : List (List V)) (H : Heap), first + k = below → l.length ≤ first → set < 2 ^ first → I ((onF' many k l set first).map setI ++ rest) H →
      ACalls prog 117 [.d (.sl (natsD l)), .d (.int .i64 set), .d (.int .i64 first), .pp [.int .i64 many], .ptr n 0, .pp [.int .i64 below], .ptr (n + 1) 0] (H ++ [.cells [yv], .cells [onW n below many]]) (SPost yv n below many I Q rest) := by
  obtain ⟨f, x, y, rfl⟩ := hf
  intro k
  induction k using Nat.strongRecOn with
  | ind k ih =>
    intro l set first rest H hk hlf hset hi
    have hHl := (hI _ _ hi).1
    have hHb := (hI _ _ hi).2
    have hyn : ∀ H1 : Heap, H1.length = n → BBs n H1 → BBs (n + 2) (H1 ++ [.cells [.fn f x y], .cells [onW n below many]]) := fun H1 h1 h2 =>
      BBs_append (BBs_le (by omega) h2) ⟨by simp only [BB, VBs, Bool.and_true]; exact VB_le (by omega) _ hyv, by simp [BB, VBs, VB, onW], trivial⟩
    have hl62 : l.length ≤ 60 := by omega
    have hs62 : set < 2 ^ 62 := Nat.lt_of_lt_of_le hset (Nat.pow_le_pow_right (by omega) (by omega))
    refine ACalls.run (fun _ => false) tt_ok (fn := f117) (rs := [.tmp 10]) rfl rfl rfl rfl rfl rfl rfl ?_
    have hHn : (H ++ [Blk.cells [.fn f x y], Blk.cells [onW n below many]]).length = n + 2 := by simp [hHl]
    simp only [go_sem, hyl hHl, natsD_len]
    rw [hHn]
    refine Br_split (fun hc => ?_) (fun hc => ?_) <;> simp only [go_sem, hyl hHl, hc, hy0 hHl]
    · have hlm : l.length = many := by simp only [decide_eq_true_eq] at hc; omega
      rw [onF', if_pos hlm] at hi
      refine (yield_frame hyv hI hy (r := rest) [.cells [.fn f x y], .cells [onW n below many]] rfl hi).mono ?_
      rintro v H' ⟨H1, rfl, k1, k2, k3⟩
      have ht : (H1 ++ [Blk.cells [V.fn f x y], Blk.cells [onW n below many]]).take (n + 2) = H1 ++ [Blk.cells [V.fn f x y], Blk.cells [onW n below many]] := List.take_of_length_le (by simp [k1])
      rcases k3 with ⟨rfl, k3⟩ | ⟨rfl, k3⟩
      · simp only [go_sem, ht, hHl]
        exact ⟨.inr (hyn H1 k1 k2), H1, rfl, k1, k2, .inl ⟨rfl, k3⟩⟩
      · simp only [go_sem, ht, hHl]
        exact ⟨.inr (hyn H1 k1 k2), H1, rfl, k1, k2, .inr ⟨rfl, k3⟩⟩
    · have hlm : ¬ l.length = many := by simp only [decide_eq_false_iff_not] at hc; omega
      rw [onF', if_neg hlm] at hi
      refine ALoop.by (S := Nat × Heap) (fun s => [(11, .d (.int .i64 (first + s.1 : Nat))), (6, .ptr (n + 1) 0), (5, .pp [.int .i64 below]), (4, .ptr n 0), (3, .pp [.int .i64 many]), (1, .d (.int .i64 set)), (0, .d (.sl (natsD l)))])
        (fun s => s.2 ++ [.cells [.fn f x y], .cells [onW n below many]]) (fun s => k - s.1) (fun s => s.1 ≤ k ∧ I ((subsF many (k - s.1) l set (first + s.1)).map setI ++ rest) s.2) (0, H) (by simp [hHl]) (fun _ h => nomatch h) ⟨Nat.zero_le _, hi⟩ ?_ ?_
      · exact ForgetTo.same' (by simp [hHl]) (by simp [EWe, Env.look]) (by simp)
      rintro ⟨j, Hc⟩ ⟨hj, hI0⟩ hn2
      simp only at hj hI0 hn2 ⊢
      have hcl := (hI _ _ hI0).1
      have hcb := (hI _ _ hI0).2
      refine AWP.run (fun _ => false) tt_ok (fun _ h => nomatch h) (by simp [hcl]) rfl ?_
      simp only [go_sem]
      refine Br_split (fun hd => ?_) (fun hd => ?_) <;> simp only [go_sem, hd]
      · have hlt : j < k := by simp only [decide_eq_true_eq] at hd; omega
        obtain ⟨k', hk'⟩ : ∃ k', k - j = k' + 1 := ⟨k - j - 1, by omega⟩
        rw [hk', subsF_succ, List.map_append, List.append_assoc] at hI0
        have hpw : 2 ^ (first + j) < 2 ^ 62 := Nat.pow_lt_pow_right (by omega) (by omega)
        have hor : orI .i64 (set : Nat) ((2 ^ (first + j) : Nat) : Int) = ((set ||| 2 ^ (first + j) : Nat) : Int) := orN (by omega) (by omega)
        have hnx : IntKind.i64.wrap (((first + j : Nat) : Int) + 1) = ((first + j + 1 : Nat) : Int) := by rw [w64 (by omega) (by omega)]; omega
        have hset2 : set ||| 2 ^ (first + j) < 2 ^ (first + j + 1) := bit_lt (Nat.lt_of_lt_of_le hset (Nat.pow_le_pow_right (by omega) (by omega)))
        have hsz := sized_nats l
        have hle : l.length + 1 ≤ 4294967296 := by omega
        refine ADrw.treeG (fun _ => false) tt_ok (by kernel_rfl) (fun k => if k = 0 then some .L else if k = 12 then none else some .S) (.ones [0, 1, 2, 3, 4, 5, 6, 7, 8, 9, 10, 11] (.only 12 (.one 13 .done))) (by simp [hcl]) (fun _ h => nomatch h) rfl rfl (by kernel_rfl) ?_
        simp only [go_sem, hy1 hcl, onW]
        refine (c111 (natsD l) (sized_nats l)).callS rfl rfl rfl rfl rfl rfl ?_
        simp only [go_sem, hy1 hcl, onW, hsz, hle, natsD_len, shlN (show first + j < 63 by omega), hor, hnx]
        have happ : natsD l ++ [.int .i64 ((first + j : Nat) : Int)] = natsD (l ++ [first + j]) := by simp [natsD]
        rw [happ]
        have hc2 := ih k' (by omega) (l ++ [first + j]) (set ||| 2 ^ (first + j)) (first + j + 1) _ Hc (by omega) (by simp; omega) hset2 hI0
        refine ACallV.of rfl (ACalls.mono hc2 ?_)
        rintro v H' ⟨H1, rfl, k1, k2, k3⟩
        have ht : (H1 ++ [Blk.cells [V.fn f x y], Blk.cells [onW n below many]]).take (n + 2) = H1 ++ [Blk.cells [V.fn f x y], Blk.cells [onW n below many]] := List.take_of_length_le (by simp [k1])
        rcases k3 with ⟨rfl, k3⟩ | ⟨rfl, k3⟩
        · simp only [go_sem]
          refine ⟨(j + 1, H1), ⟨hlt, ?_⟩, by simp only; omega, ?_⟩
          · rw [show k - (j + 1) = k' by omega]; exact k3
          · exact ForgetTo.same' (by simp [k1]) (by simp [EWe, Env.look]; rw [w64 (by omega) (by omega)]; omega) rfl
        · simp only [go_sem, ht]
          exact ⟨.inr (hyn H1 k1 k2), H1, rfl, k1, k2, .inr ⟨rfl, k3⟩⟩
      · have hje : j = k := by simp only [decide_eq_false_iff_not] at hd; omega
        subst hje
        rw [Nat.sub_self] at hI0
        simp only [subsF, List.map_nil, List.nil_append] at hI0
        have ht : (Hc ++ [Blk.cells [V.fn f x y], Blk.cells [onW n below many]]).take (n + 2) = Hc ++ [Blk.cells [V.fn f x y], Blk.cells [onW n below many]] := List.take_of_length_le (by simp [hcl])
        rw [ht]
        exact ⟨.inr (hyn Hc hcl hcb), Hc, rfl, hcl, hcb, .inl ⟨rfl, hI0⟩⟩
end

theorem c116 {below many : Nat} (hb : below ≤ 60) : Iter prog (setV below many) ((setsP below many).map setI) := by
  intro yv n I Q hf hyv hI hy hend H hH
  have hHl := (hI _ _ hH).1
  have hHb := (hI _ _ hH).2
  have hf' := hf
  obtain ⟨f, x, y, rfl⟩ := hf'
  refine ACallV.of rfl ?_
  refine ACalls.run (fun _ => false) tt_ok (fn := f116) (rs := []) rfl rfl rfl rfl rfl rfl rfl ?_
  simp only [go_sem, hyl hHl, hy0 hHl, hy1 hHl, hs1 hHl, List.append_assoc]
  rw [hHl]
  have hc := c117 (below := below) (many := many) hb hf hyv hI hy below [] 0 0 [] H (by omega) (Nat.le_refl _) (by simp) (by rw [List.append_nil]; exact hH)
  refine ACallV.of rfl (ACalls.dz (ACalls.mono hc ?_))
  rintro v H' ⟨H1, rfl, k1, k2, k3⟩
  have hq : Q (.tup []) H1 := by
    rcases k3 with ⟨_, k3⟩ | ⟨_, k3⟩
    · exact hend _ k3
    · exact k3
  simp only [go_sem, htk k1]
  exact ⟨.inr k2, hq⟩
end Go.Aw
end

section
set_option maxRecDepth 100000
namespace Go.Aw
open Go Go.Proofs.Try

theorem subsF_mem (many : Nat) : ∀ (k : Nat) (l : List Nat) (set n : Nat), set < 2 ^ n → ∀ p ∈ subsF many k l set n, p.1.length = many ∧ p.2 < 2 ^ (n + k)
  | 0, l, set, n, hs, p, hp => by simp [subsF] at hp
  | k + 1, l, set, n, hs, p, hp => by
    have h2 : set ||| 2 ^ n < 2 ^ (n + 1) := bit_lt hs
    rw [subsF_succ, List.mem_append] at hp
    rcases hp with hp | hp
    · unfold onF' at hp
      split at hp
      · rename_i h
        simp only [List.mem_singleton] at hp
        subst hp
        exact ⟨h, Nat.lt_of_lt_of_le h2 (Nat.pow_le_pow_right (by omega) (by omega))⟩
      · have := subsF_mem many k _ _ _ h2 p hp
        rw [show n + (k + 1) = n + 1 + k by omega]; exact this
    · have := subsF_mem many k l set (n + 1) (Nat.lt_of_lt_of_le hs (Nat.pow_le_pow_right (by omega) (by omega))) p hp
      rw [show n + (k + 1) = n + 1 + k by omega]; exact this

theorem setsP_mem {below many : Nat} {p : List Nat × Nat} (hp : p ∈ setsP below many) : p.1.length = many ∧ p.2 < 2 ^ below := by
  unfold setsP onF' at hp
  split at hp
  · rename_i h
    simp only [List.mem_singleton] at hp
    subst hp
    exact ⟨h, Nat.two_pow_pos _⟩
  · have := subsF_mem many below [] 0 0 (by simp) p hp
    simpa using this

/-- Can the bath have been filled at all, if some things seen are wrong? -/
def fitsB (b : Bath) (l : List Seen) (w : Nat) : Bool := !(canL ⟨b, l, w⟩).isEmpty

def wrongF (b : Bath) (l : List Seen) : Option (List Nat × Nat) := ((List.range (l.length + 1)).flatMap (setsP l.length)).find? fun p => fitsB b l p.2

def wrongV (b : Bath) (l : List Seen) : V :=
  if logE b l = 0 then (match wrongF b l with | none => .tup [.slx (some true) [], .d (.int .i64 9)] | some p => if p.1 = [] then .tup [.slx (some true) [], .d (.int .i64 6)] else .tup [.d (.sl (natsD p.1)), .d (.int .i64 0)])
  else .tup [.slx (some true) [], .d (.int .i64 (logE b l))]

/-- The heap of Wrong. -/
def hG (b : Bath) (l : List Seen) (w : Nat) (v : V) (e : Int) : Heap :=
  [.cells [.d (.int .i64 b.str.lo), .d (.int .i64 b.str.hi), .d (.sl (b.plates.map Plate.d))], .cells [v], .cells [.d (.int .i64 e)],
    .cells [.d (.int .i64 b.str.lo), .d (.int .i64 b.str.hi), .d (.sl (b.plates.map Plate.d)), .d (.sl (l.map Seen.d)), .d (.int .i64 w)]]

theorem c96d (l : List Nat) (hl : l.length ≤ 1000) (hne : l ≠ []) : PC prog 96 [.d (.sl (natsD l))] (.d (.sl (natsD l))) := by
  refine PC.of_r (c96 l hl hne) ?_
  have : (natsD l).take l.length = natsD l := List.take_of_length_le (by simp [natsD_len])
  simp [pubV, natsD_len, this]

/-- What the strengths' items are as data. -/
def itemD (b : Bath) (p : Nat × List Sp) : ItemU := ([.d (.int .i64 (b.str.lo + p.1)), .d (.sl (p.2.map Sp.d))], none)

theorem c93d {x : Log} (hok : x.Ok) : IterU prog (.fn (.func 93) [.d x.d] []) ((canL x).map (itemD x.bath)) := by
  have he : itemsF x (fun _ l => .d (.sl (l.map Sp.d))) (fun _ _ => none) = (canL x).map (itemD x.bath) := by
    simp only [itemsF, canL, List.map_filterMap]
    congr 1
    funext i
    simp only [itemAt, Option.map_map]
    rfl
  rw [← he]
  refine c93 hok _ _ (fun _ _ _ _ _ _ => rfl) ?_
  intro i l H Q hi hr _ hq
  have hb := hok.1
  obtain ⟨s1, s2, s3, _, _⟩ := hb
  simp only [Log.N] at hi
  refine (c115 hok (str := x.bath.str.lo + i) (by omega)).call rfl rfl (by simp only [rustsV, hr]; rfl) ?_
  simp only [rustsV, hr]
  exact hq

theorem c50 (b : Bath) (l : List Seen) (hb : b.plates.length ≤ 4294967296) (hl : l.length ≤ 60) : PC prog 50 [.d b.d, .d (.sl (l.map Seen.d))] (wrongV b l) := by
  refine PC.run (fun _ => false) tt_ok (fn := f50) (rs := [.cell 4 27, .cell 5 30]) rfl rfl rfl rfl rfl rfl rfl ?_
  simp only [go_sem, Bath.d]
  refine (c92 b l hb (by omega)).call rfl rfl rfl ?_
  simp only [go_sem, Bath.d, Log.d]
  refine Br_split (fun hc => ?_) (fun hc => ?_) <;> simp only [go_sem, hc]
  · have h0 : ¬ logE b l = 0 := by simpa using hc
    simp [wrongV, h0]
  have h0 : logE b l = 0 := by simpa using hc
  have hlp : logP b l = ⟨b, l, 0⟩ := by rw [logP, if_pos h0]
  rw [hlp]
  obtain ⟨hbo, hxo⟩ := logP_ok (by omega) h0
  have hw : IntKind.i64.wrap ((l.length : Int) + 1) = ((l.length + 1 : Nat) : Int) := by rw [w64 (by omega) (by omega)]; omega
  simp only [go_sem, hw]
  refine ALoop.by (S := Nat × Nat) (fun s => [(23, .d (.int .i64 s.1)), (22, .d (.int .i64 (l.length + 1 : Nat))), (6, .ptr 3 0), (5, .ptr 2 0), (4, .ptr 1 0), (1, .d (.sl (l.map Seen.d)))])
    (fun s => hG b l s.2 (.slx (some true) []) 0) (fun s => l.length + 1 - s.1)
    (fun s => s.1 ≤ l.length + 1 ∧ wrongF b l = (((List.range (l.length + 1)).drop s.1).flatMap (setsP l.length)).find? fun p => fitsB b l p.2) (0, 0) (by simp) (fun _ h => nomatch h) ⟨Nat.zero_le _, rfl⟩ ?_ ?_
  · exact ForgetTo.same' (by simp) (by simp [EWe, Env.look]) (by simp [hG])
  rintro ⟨many, w⟩ ⟨hm, hfst⟩ hn'
  simp only at hm hfst hn' ⊢
  refine AWP.run (fun _ => false) tt_ok (fun _ h => nomatch h) (by simp) rfl ?_
  simp only [go_sem]
  refine Br_split (fun hd => ?_) (fun hd => ?_) <;> simp only [go_sem, hd]
  · have hlt : many < l.length + 1 := by simp only [decide_eq_true_eq] at hd; omega
    simp only [go_sem, hG]
    refine (c95 l.length many).call rfl rfl rfl ?_
    simp only [go_sem]
    rw [List.drop_eq_getElem_cons (by simpa using hlt), List.flatMap_cons, List.find?_append, List.getElem_range] at hfst
    refine ARng.iterN (items := (setsP l.length many).map setI) (J := fun rest Hx => ∃ (w : Nat) (pre : List (List Nat × Nat)), Hx = hG b l w (.slx (some true) []) 0 ++ [.cells [.d (.int .i64 many)]] ∧ rest = pre.map setI ∧ (∀ p ∈ pre, p ∈ setsP l.length many) ∧ (setsP l.length many).find? (fun p => fitsB b l p.2) = pre.find? (fun p => fitsB b l p.2))
      (by simp) (fun _ h => nomatch h) rfl (c116 (by omega)) rfl (by simp [VBs, VB, setV]) ?_ ?_ ?_ ?_ ?_
    · rintro rest Hx ⟨w1, pre, rfl, _, _, _⟩
      exact ⟨rfl, by simp [hG, BBs, BB, VBs, VB]⟩
    · exact ⟨w, _, rfl, rfl, fun _ h => h, rfl⟩
    · rintro Hx ⟨w1, pre, rfl, hp, _, hf1⟩
      obtain rfl : pre = [] := by simpa using hp.symm
      simp only [go_sem]
      refine ⟨(many + 1, w1), ⟨by omega, ?_⟩, by simp only; omega, ?_⟩
      · rw [hfst, hf1]; simp [List.range_succ]
      · refine ForgetTo.drop (H0 := hG b l w1 (.slx (some true) []) 0) (Y := [_]) (Nat.zero_le _) rfl (by simp [hG, BBs, BB, VBs, VB]) ?_
        simp [EWp, Env.look, pubV, hG, w64 (n := (many : Int) + 1) (by omega) (by omega)]
    · intro xs hxs
      obtain ⟨p, _, rfl⟩ := List.mem_map.1 hxs
      rfl
    · rintro L L' xs rest Hx hbL hxs ⟨w1, pre, rfl, hp, hpm, hf1⟩
      obtain ⟨p, rest', rfl⟩ : ∃ p rest', pre = p :: rest' := by cases pre with
        | nil => cases hp
        | cons p r => exact ⟨p, r, rfl⟩
      obtain ⟨rfl, rfl⟩ : xs = setI p ∧ rest = rest'.map setI := by simpa using hp
      refine AWP.run (fun _ => false) tt_ok (fun _ h => by cases h; simp) (by simp [hG]) rfl ?_
      simp only [go_sem, setI, hG]
      refine AWP.run (fun _ => false) tt_ok (fun _ h => by cases h; simp) (by simp) rfl ?_
      simp only [go_sem]
      have hpl := setsP_mem (hpm p List.mem_cons_self)
      have hp62 : p.2 < 2 ^ 62 := Nat.lt_of_lt_of_le hpl.2 (Nat.pow_le_pow_right (by omega) (by omega))
      have hxk := hxo p.2 hp62
      have hbL6 : BB 7 L' := BB_le (by simp) hbL
      refine ARng.iterU (items := (canL ⟨b, l, p.2⟩).map (itemD b)) (J := fun rest Hx => Hx = hG b l p.2 (.slx (some true) []) 0 ++ [.cells [.d (.int .i64 many)], L', .cells [.d (.sl (natsD p.1))]] ∧ rest = (canL ⟨b, l, p.2⟩).map (itemD b))
        (by simp) (fun _ h => by cases h; simp) rfl (c93d hxk) rfl (by simp [VBs, VB, setV]) ?_ ?_ ?_ ?_ ?_ ?_
      · rintro rest Hx ⟨rfl, _⟩
        exact ⟨rfl, by simp [hG, BBs, BB, VBs, VB]; exact hbL6⟩
      · exact ⟨rfl, rfl⟩
      · rintro Hx ⟨rfl, he⟩
        have he' : canL ⟨b, l, p.2⟩ = [] := by simpa using he.symm
        simp only [go_sem, hG]
        refine ⟨p.2, rest', rfl, rfl, fun q hq => hpm q (List.mem_cons_of_mem _ hq), ?_⟩
        rw [hf1, List.find?_cons_of_neg]
        simp [fitsB, he']
      · intro xs hxs
        obtain ⟨q, _, rfl⟩ := List.mem_map.1 hxs
        rfl
      · intro xs rest Hx hxs _
        obtain ⟨q, _, rfl⟩ := List.mem_map.1 hxs
        trivial
      · rintro L2 L2' xs rest Hx hxs ⟨rfl, he⟩
        have hfit : fitsB b l p.2 = true := by
          simp only [fitsB]
          cases h : canL ⟨b, l, p.2⟩ with
          | nil => rw [h] at hxs; cases hxs
          | cons _ _ => rfl
        rw [List.find?_cons_of_pos (by simpa using hfit)] at hf1
        rw [hf1] at hfst
        obtain ⟨q, _, rfl⟩ := List.mem_map.1 hxs
        refine AWP.run (fun _ => false) tt_ok (fun _ h => by cases h; simp) (by simp [hG, itemD, upd]) rfl ?_
        simp only [go_sem, itemD, upd, hG]
        refine AWP.run (fun _ => false) tt_ok (fun _ h => by cases h; simp) (by simp) rfl ?_
        simp only [go_sem]
        refine Br_split (fun h0m => ?_) (fun h0m => ?_) <;> simp only [go_sem, h0m]
        · have hm0 : many = 0 := by simp only [decide_eq_true_eq] at h0m; omega
          have hp1 : p.1 = [] := List.length_eq_zero_iff.1 (by omega)
          refine ⟨hbL6, ?_⟩
          simp [wrongV, h0, hfst, hp1]
        · have hm0 : ¬ many = 0 := by simp only [decide_eq_false_iff_not] at h0m; omega
          have hp1 : p.1 ≠ [] := fun e => hm0 (by rw [← hpl.1, e]; rfl)
          refine (c96d p.1 (by omega) hp1).call rfl rfl rfl ?_
          simp only [go_sem]
          refine ⟨hbL6, ?_⟩
          simp [wrongV, h0, hfst, hp1]
  · have hme : many = l.length + 1 := by simp only [decide_eq_false_iff_not] at hd; omega
    rw [List.drop_eq_nil_of_le (by simp [hme])] at hfst
    simp only [go_sem, hG]
    simp [wrongV, h0, hfst]
end Go.Aw
end

section
set_option maxRecDepth 100000
namespace Go.Aw
open Go Go.Proofs.Try

def badCarboy (s : Sp) : Bool := !(within 0 5000 [s.lo, s.hi] && decide (s.lo ≤ s.hi))

theorem c100 (s : Sp) : PC prog 100 [.d s.d] (.d (.bool (badCarboy s))) := by
  refine PC.run (fun _ => false) tt_ok (fn := f100) (rs := [.tmp 2]) rfl rfl rfl rfl rfl rfl rfl ?_
  simp only [go_sem, Sp.d]
  refine (c73 0 5000 s).call rfl rfl rfl ?_
  simp only [go_sem, badCarboy]

theorem badCarboy_iff (s : Sp) : badCarboy s = false ↔ 0 ≤ s.lo ∧ s.lo ≤ s.hi ∧ s.hi ≤ 5000 := by
  simp [badCarboy, within]
  omega

theorem sized_sps (l : List Sp) : sized 2 (l.map Sp.d) = true := by
  simp [sized, Sp.d, dcells]

theorem c102 (l : List D) (hl : sized 2 l = true) : PC prog 102 [.d (.sl l)] (.slx none l) := by
  refine PC.run (fun _ => false) tt_ok (fn := f102) (rs := [.tmp 2]) rfl rfl rfl rfl rfl rfl rfl ?_
  simp only [go_sem, Int.natCast_nonneg, Int.toNat_natCast, hl]

/-- The error of a carboy. -/
def carboyP (full : Sp) (used : List Sp) (left : Sp) : Int := if used.length > 10 then 5 else if (badCarboy full || used.any badCarboy || badCarboy left) = true then 2 else 0

def missStep (m s : Sp) : Sp := ⟨m.lo - s.hi, m.hi - s.lo⟩

def missAll (full : Sp) (used : List Sp) (left : Sp) : Sp := (used ++ [left]).foldl missStep full

def missP (full : Sp) (used : List Sp) (left : Sp) : Sp × Int :=
  if carboyP full used left = 0 then (if (missAll full used left).hi < 0 then (sp0, 9) else (⟨max 0 (missAll full used left).lo, (missAll full used left).hi⟩, 0)) else (sp0, carboyP full used left)

theorem miss_bnd : ∀ (l : List Sp) (m : Sp), (∀ s ∈ l, badCarboy s = false) → m.lo - 5000 * l.length ≤ (l.foldl missStep m).lo ∧ (l.foldl missStep m).lo ≤ m.lo ∧ m.hi - 5000 * l.length ≤ (l.foldl missStep m).hi ∧ (l.foldl missStep m).hi ≤ m.hi
  | [], m, _ => by simp
  | s :: r, m, h => by
    have h1 := (badCarboy_iff s).1 (h s List.mem_cons_self)
    have := miss_bnd r (missStep m s) (fun x hx => h x (List.mem_cons_of_mem _ hx))
    simp only [List.foldl_cons, List.length_cons]
    simp only [missStep] at this ⊢
    omega

theorem c55 (full : Sp) (used : List Sp) (left : Sp) (hl : used.length ≤ 4294967296) : PC prog 55 [.d full.d, .d (.sl (used.map Sp.d)), .d left.d] (.tup [.d (missP full used left).1.d, .d (.int .i64 (missP full used left).2)]) := by
  refine PC.run (fun _ => false) tt_ok (fn := f55) (rs := [.cell 6 23, .tmp 7]) rfl rfl rfl rfl rfl rfl rfl ?_
  simp only [go_sem, Sp.d]
  refine Br_split (fun hc => ?_) (fun hc => ?_) <;> simp only [go_sem, hc]
  · have h1 : used.length > 10 := by simp at hc; omega
    simp [missP, carboyP, h1, sp0]
  have h1 : ¬ used.length > 10 := by simp at hc; omega
  have bad : (badCarboy full || used.any badCarboy || badCarboy left) = true → missP full used left = (sp0, 2) := fun h => by simp [missP, carboyP, h1, h]
  refine (c100 full).call rfl rfl rfl ?_
  simp only [go_sem, hc]
  refine Br_split (fun hd => ?_) (fun hd => ?_) <;> simp only [go_sem, hc, hd]
  · rw [bad (by rw [hd]; rfl)]
    simp [sp0]
  refine ACallV.of rfl (c101 enc_sp used hl 100 [] [] badCarboy (fun x _ Q h => (c100 x).call rfl rfl rfl h) ?_)
  simp only [go_sem, hc, hd]
  refine Br_split (fun he => ?_) (fun he => ?_) <;> simp only [go_sem, hc, hd, he]
  · rw [bad (by rw [hd, he]; rfl)]
    simp [sp0]
  refine (c100 left).call rfl rfl rfl ?_
  simp only [go_sem, hc, hd, he]
  refine Br_split (fun hf => ?_) (fun hf => ?_) <;> simp only [go_sem, hc, hd, he, hf]
  · rw [bad (by rw [hf]; simp)]
    simp [sp0]
  have h0 : carboyP full used left = 0 := by simp [carboyP, h1, hd, he, hf]
  have hall : ∀ s ∈ used ++ [left], badCarboy s = false := fun s hs => by
    rcases List.mem_append.1 hs with hs | hs
    · have := List.any_eq_false.1 he s hs
      simpa using this
    · rw [List.mem_singleton.1 hs]; exact hf
  have hfu := (badCarboy_iff full).1 hd
  have hsz := sized_sps used
  have hle : used.length + 1 ≤ 4294967296 := by omega
  refine ADrw.treeG (fun _ => false) tt_ok (by kernel_rfl) (fun k => if k = 2 ∨ k = 5 then some .L else some .S) (.ones [0, 1, 2, 3, 4, 5, 6] .done) (by simp) (fun _ h => nomatch h) rfl rfl (by kernel_rfl) ?_
  simp only [go_sem]
  refine (c102 (used.map Sp.d) hsz).callS rfl rfl rfl rfl rfl rfl ?_
  simp only [go_sem, hsz, hle, List.length_map, List.length_append]
  have happ : used.map Sp.d ++ [.agg [.int .i64 left.lo, .int .i64 left.hi]] = (used ++ [left]).map Sp.d := by simp [Sp.d]
  rw [happ]
  have hlen : used.length + 1 = (used ++ [left]).length := by simp
  have hl11 : (used ++ [left]).length ≤ 11 := by simp; omega
  rw [hlen]
  have hma : missAll full used left = (used ++ [left]).foldl missStep full := rfl
  generalize used ++ [left] = l at hma hall hl11
  refine ALoop.by (S := Nat) (fun i => [(34, .d (.int .i64 i)), (33, .d (.int .i64 l.length)), (32, .d (.sl (l.map Sp.d))), (6, .ptr 2 0)])
    (fun i => [.cells [.d (.int .i64 full.lo), .d (.int .i64 full.hi)], .cells [.d (.int .i64 left.lo), .d (.int .i64 left.hi)], .cells [.d (.int .i64 ((l.take i).foldl missStep full).lo), .d (.int .i64 ((l.take i).foldl missStep full).hi)]]) (fun i => l.length - i) (fun i => i ≤ l.length) 0 (by simp) (fun _ h => nomatch h) (Nat.zero_le _) ?_ ?_
  · exact ForgetTo.same' (by simp) (by simp [EWe, Env.look]) (by simp)
  rintro i hi hn
  refine AWP.run (fun _ => false) tt_ok (fun _ h => nomatch h) (by simp) rfl ?_
  simp only [go_sem]
  refine Br_split (fun hg => ?_) (fun hg => ?_) <;> simp only [go_sem, hg]
  · have hlt : i < l.length := by simpa using hg
    have hix : idx? (l.map Sp.d) (i : Int) = some (l[i]).d := by simp [idx?, List.getElem?_eq_getElem hlt]
    have hst : (l.take (i + 1)).foldl missStep full = missStep ((l.take i).foldl missStep full) l[i] := by
      rw [List.take_add_one, List.getElem?_eq_getElem hlt, List.foldl_append]; rfl
    have hbn := miss_bnd (l.take i) full (fun s hs => hall s (List.mem_of_mem_take hs))
    have htl : (l.take i).length = i := by simp; omega
    rw [htl] at hbn
    have hs := (badCarboy_iff _).1 (hall _ (List.getElem_mem hlt))
    generalize (l.take i).foldl missStep full = m at hst hbn
    generalize l[i] = s at hix hst hs
    simp only [go_sem, hix, Sp.d]
    refine ⟨i + 1, hlt, by omega, ?_⟩
    refine ForgetTo.drop (H0 := [_, _, _]) (Y := [_]) (Nat.zero_le _) ?_ (by simp [BBs, BB, VBs, VB]) ?_
    · rw [hst, missStep, w64 (n := m.lo - s.hi) (by omega) (by omega), w64 (n := m.hi - s.lo) (by omega) (by omega)]
    · simp [EWp, Env.look, pubV, w64 (n := (i : Int) + 1) (by omega) (by omega)]
  · have hie : i = l.length := by simp at hg; omega
    subst hie
    rw [List.take_length, ← hma]
    refine Br_split (fun hh => ?_) (fun hh => ?_) <;> simp only [go_sem, hh]
    · have h9 : (missAll full used left).hi < 0 := by simpa using hh
      simp [missP, h0, h9, sp0]
    · have h9 : ¬ (missAll full used left).hi < 0 := by simpa using hh
      simp only [missP, h0, if_true, if_neg h9]
end Go.Aw
end

section
set_option maxRecDepth 100000
namespace Go.Aw
open Go Go.Proofs.Try

theorem take_succ_eq {α : Type} {a b : List α} {i : Nat} (ha : i < a.length) (hb : i < b.length) (h : a.take i = b.take i) : a.take (i + 1) = b.take (i + 1) ↔ a[i] = b[i] := by
  rw [List.take_succ_eq_append_getElem ha, h, List.take_succ_eq_append_getElem hb]
  simp only [List.append_cancel_left_eq, List.cons.injEq, and_true]

theorem c23 (a b : List Int) (ha : a.length ≤ 4294967296) (hb : b.length ≤ 4294967296) : PC prog 23 [.d (.sl (a.map (.int .i64))), .d (.sl (b.map (.int .i64)))] (.d (.bool (decide (a = b)))) := by
  refine PC.run (fun _ => false) tt_ok (fn := f23) (rs := [.tmp 4]) rfl rfl rfl rfl rfl rfl rfl ?_
  simp only [go_sem]
  refine Br_split (fun hc => ?_) (fun hc => ?_) <;> simp only [go_sem, hc]
  · have : a ≠ b := fun e => by subst e; simp at hc
    simp [this]
  · have hlen : a.length = b.length := by simp at hc; omega
    refine ALoop.by (S := Nat) (fun i => [(5, .d (.int .i64 i)), (0, .d (.sl (a.map (.int .i64)))), (1, .d (.sl (b.map (.int .i64))))]) (fun i => []) (fun i => a.length - i) (fun i => i ≤ a.length ∧ a.take i = b.take i) 0 (by simp) (fun _ h => nomatch h) ⟨Nat.zero_le _, rfl⟩ ?_ ?_
    · simp [ForgetTo, EW, VW, BBq, BBs, BB, VBs, VB, Env.look, pubV]
    · rintro i ⟨hi, hx⟩ hn
      refine AWP.run (fun _ => false) tt_ok (fun _ h => nomatch h) (by simp) rfl ?_
      simp only [go_sem]
      refine Br_split (fun hd => ?_) (fun hd => ?_) <;> simp only [go_sem, hd]
      · have hlt : i < a.length := by simpa using hd
        have hlt' : i < b.length := by omega
        have hs := take_succ_eq hlt hlt' hx
        have hne : a[i] ≠ b[i] → a ≠ b := fun h e => h (by subst e; rfl)
        refine ADrw.treeG (fun _ => false) tt_ok (by kernel_rfl) (fun k => .some .S) (.ones [0, 1, 2, 3, 4, 5, 6, 7, 8] .done) (by simp) (fun _ h => nomatch h) rfl rfl (by kernel_rfl) ?_
        simp only [go_sem, idx_nat, List.getElem?_map, List.getElem?_eq_getElem hlt, List.getElem?_eq_getElem hlt', Step.d, Sp.d]
        generalize a[i] = x at hs hne
        generalize b[i] = y at hs hne
        refine Br_split (fun he => ?_) (fun he => ?_) <;> simp only [go_sem, he]
        · have hxy : x ≠ y := fun e => by subst e; simp at he
          simp [hne hxy]
        · have heq : x = y := by first | (simpa using he) | (cases x; cases y; simpa using he)
          refine ⟨i + 1, ⟨hlt, hs.2 heq⟩, by omega, ?_⟩
          simp [ForgetTo, EW, VW, BBq, BBs, BB, VBs, VB, Env.look, pubV, w64 (n := (i : Int) + 1) (by omega) (by omega)]
      · have hlt : ¬ i < a.length := by simpa using hd
        rw [List.take_of_length_le (by omega), List.take_of_length_le (by omega)] at hx
        simp [hx]

theorem c30 (a b : List Int) (ha : a.length ≤ 4294967296) (hb : b.length ≤ 4294967296) : PC prog 30 [.d (.sl (a.map (.int .i64))), .d (.sl (b.map (.int .i64)))] (.d (.bool (decide (a = b)))) := by
  refine PC.run (fun _ => false) tt_ok (fn := f30) (rs := [.tmp 4]) rfl rfl rfl rfl rfl rfl rfl ?_
  simp only [go_sem]
  refine Br_split (fun hc => ?_) (fun hc => ?_) <;> simp only [go_sem, hc]
  · have : a ≠ b := fun e => by subst e; simp at hc
    simp [this]
  · have hlen : a.length = b.length := by simp at hc; omega
    refine ALoop.by (S := Nat) (fun i => [(5, .d (.int .i64 i)), (0, .d (.sl (a.map (.int .i64)))), (1, .d (.sl (b.map (.int .i64))))]) (fun i => []) (fun i => a.length - i) (fun i => i ≤ a.length ∧ a.take i = b.take i) 0 (by simp) (fun _ h => nomatch h) ⟨Nat.zero_le _, rfl⟩ ?_ ?_
    · simp [ForgetTo, EW, VW, BBq, BBs, BB, VBs, VB, Env.look, pubV]
    · rintro i ⟨hi, hx⟩ hn
      refine AWP.run (fun _ => false) tt_ok (fun _ h => nomatch h) (by simp) rfl ?_
      simp only [go_sem]
      refine Br_split (fun hd => ?_) (fun hd => ?_) <;> simp only [go_sem, hd]
      · have hlt : i < a.length := by simpa using hd
        have hlt' : i < b.length := by omega
        have hs := take_succ_eq hlt hlt' hx
        have hne : a[i] ≠ b[i] → a ≠ b := fun h e => h (by subst e; rfl)
        refine ADrw.treeG (fun _ => false) tt_ok (by kernel_rfl) (fun k => .some .S) (.ones [0, 1, 2, 3, 4, 5, 6, 7, 8] .done) (by simp) (fun _ h => nomatch h) rfl rfl (by kernel_rfl) ?_
        simp only [go_sem, idx_nat, List.getElem?_map, List.getElem?_eq_getElem hlt, List.getElem?_eq_getElem hlt', Step.d, Sp.d]
        generalize a[i] = x at hs hne
        generalize b[i] = y at hs hne
        refine Br_split (fun he => ?_) (fun he => ?_) <;> simp only [go_sem, he]
        · have hxy : x ≠ y := fun e => by subst e; simp at he
          simp [hne hxy]
        · have heq : x = y := by first | (simpa using he) | (cases x; cases y; simpa using he)
          refine ⟨i + 1, ⟨hlt, hs.2 heq⟩, by omega, ?_⟩
          simp [ForgetTo, EW, VW, BBq, BBs, BB, VBs, VB, Env.look, pubV, w64 (n := (i : Int) + 1) (by omega) (by omega)]
      · have hlt : ¬ i < a.length := by simpa using hd
        rw [List.take_of_length_le (by omega), List.take_of_length_le (by omega)] at hx
        simp [hx]

theorem c29 (a b : List Step) (ha : a.length ≤ 4294967296) (hb : b.length ≤ 4294967296) : PC prog 29 [.d (.sl (a.map Step.d)), .d (.sl (b.map Step.d))] (.d (.bool (decide (a = b)))) := by
  refine PC.run (fun _ => false) tt_ok (fn := f29) (rs := [.tmp 4]) rfl rfl rfl rfl rfl rfl rfl ?_
  simp only [go_sem]
  refine Br_split (fun hc => ?_) (fun hc => ?_) <;> simp only [go_sem, hc]
  · have : a ≠ b := fun e => by subst e; simp at hc
    simp [this]
  · have hlen : a.length = b.length := by simp at hc; omega
    refine ALoop.by (S := Nat) (fun i => [(5, .d (.int .i64 i)), (0, .d (.sl (a.map Step.d))), (1, .d (.sl (b.map Step.d)))]) (fun i => []) (fun i => a.length - i) (fun i => i ≤ a.length ∧ a.take i = b.take i) 0 (by simp) (fun _ h => nomatch h) ⟨Nat.zero_le _, rfl⟩ ?_ ?_
    · simp [ForgetTo, EW, VW, BBq, BBs, BB, VBs, VB, Env.look, pubV]
    · rintro i ⟨hi, hx⟩ hn
      refine AWP.run (fun _ => false) tt_ok (fun _ h => nomatch h) (by simp) rfl ?_
      simp only [go_sem]
      refine Br_split (fun hd => ?_) (fun hd => ?_) <;> simp only [go_sem, hd]
      · have hlt : i < a.length := by simpa using hd
        have hlt' : i < b.length := by omega
        have hs := take_succ_eq hlt hlt' hx
        have hne : a[i] ≠ b[i] → a ≠ b := fun h e => h (by subst e; rfl)
        refine ADrw.treeG (fun _ => false) tt_ok (by kernel_rfl) (fun k => .some .S) (.ones [0, 1, 2, 3, 4, 5, 6, 7, 8] .done) (by simp) (fun _ h => nomatch h) rfl rfl (by kernel_rfl) ?_
        simp only [go_sem, idx_nat, List.getElem?_map, List.getElem?_eq_getElem hlt, List.getElem?_eq_getElem hlt', Step.d, Sp.d]
        generalize a[i] = x at hs hne
        generalize b[i] = y at hs hne
        refine Br_split (fun he => ?_) (fun he => ?_) <;> simp only [go_sem, he]
        · have hxy : x ≠ y := fun e => by subst e; simp at he
          simp [hne hxy]
        · have heq : x = y := by first | (simpa using he) | (cases x; cases y; simpa using he)
          refine ⟨i + 1, ⟨hlt, hs.2 heq⟩, by omega, ?_⟩
          simp [ForgetTo, EW, VW, BBq, BBs, BB, VBs, VB, Env.look, pubV, w64 (n := (i : Int) + 1) (by omega) (by omega)]
      · have hlt : ¬ i < a.length := by simpa using hd
        rw [List.take_of_length_le (by omega), List.take_of_length_le (by omega)] at hx
        simp [hx]

theorem c53 (a b : List Sp) (ha : a.length ≤ 4294967296) (hb : b.length ≤ 4294967296) : PC prog 53 [.d (.sl (a.map Sp.d)), .d (.sl (b.map Sp.d))] (.d (.bool (decide (a = b)))) := by
  refine PC.run (fun _ => false) tt_ok (fn := f53) (rs := [.tmp 4]) rfl rfl rfl rfl rfl rfl rfl ?_
  simp only [go_sem]
  refine Br_split (fun hc => ?_) (fun hc => ?_) <;> simp only [go_sem, hc]
  · have : a ≠ b := fun e => by subst e; simp at hc
    simp [this]
  · have hlen : a.length = b.length := by simp at hc; omega
    refine ALoop.by (S := Nat) (fun i => [(5, .d (.int .i64 i)), (0, .d (.sl (a.map Sp.d))), (1, .d (.sl (b.map Sp.d)))]) (fun i => []) (fun i => a.length - i) (fun i => i ≤ a.length ∧ a.take i = b.take i) 0 (by simp) (fun _ h => nomatch h) ⟨Nat.zero_le _, rfl⟩ ?_ ?_
    · simp [ForgetTo, EW, VW, BBq, BBs, BB, VBs, VB, Env.look, pubV]
    · rintro i ⟨hi, hx⟩ hn
      refine AWP.run (fun _ => false) tt_ok (fun _ h => nomatch h) (by simp) rfl ?_
      simp only [go_sem]
      refine Br_split (fun hd => ?_) (fun hd => ?_) <;> simp only [go_sem, hd]
      · have hlt : i < a.length := by simpa using hd
        have hlt' : i < b.length := by omega
        have hs := take_succ_eq hlt hlt' hx
        have hne : a[i] ≠ b[i] → a ≠ b := fun h e => h (by subst e; rfl)
        refine ADrw.treeG (fun _ => false) tt_ok (by kernel_rfl) (fun k => .some .S) (.ones [0, 1, 2, 3, 4, 5, 6, 7, 8] .done) (by simp) (fun _ h => nomatch h) rfl rfl (by kernel_rfl) ?_
        simp only [go_sem, idx_nat, List.getElem?_map, List.getElem?_eq_getElem hlt, List.getElem?_eq_getElem hlt', Step.d, Sp.d]
        generalize a[i] = x at hs hne
        generalize b[i] = y at hs hne
        refine Br_split (fun he => ?_) (fun he => ?_) <;> simp only [go_sem, he]
        · have hxy : x ≠ y := fun e => by subst e; simp at he
          simp [hne hxy]
        · have heq : x = y := by first | (simpa using he) | (cases x; cases y; simpa using he)
          refine ⟨i + 1, ⟨hlt, hs.2 heq⟩, by omega, ?_⟩
          simp [ForgetTo, EW, VW, BBq, BBs, BB, VBs, VB, Env.look, pubV, w64 (n := (i : Int) + 1) (by omega) (by omega)]
      · have hlt : ¬ i < a.length := by simpa using hd
        rw [List.take_of_length_le (by omega), List.take_of_length_le (by omega)] at hx
        simp [hx]
end Go.Aw
end

section
set_option maxRecDepth 100000
namespace Go.Aw
open Go Go.Proofs.Try

theorem c24 (p h : Int) : PC prog 24 [.d (.int .i64 p), .d (.int .i64 h)] (.d (Step.mk p h).d) := by
  refine PC.run (fun _ => false) tt_ok (fn := f24) (rs := [.cell 4 39]) rfl rfl rfl rfl rfl rfl rfl ?_
  simp only [go_sem, Step.d]

theorem c26 (p h : Int) : PC prog 26 [.d (.int .i64 p), .d (.int .i64 h)] (.d (Sp.mk p h).d) := by
  refine PC.run (fun _ => false) tt_ok (fn := f26) (rs := [.cell 4 23]) rfl rfl rfl rfl rfl rfl rfl ?_
  simp only [go_sem, Sp.d]

theorem sized_plates (l : List Plate) : sized 4 (l.map Plate.d) = true := by
  simp [sized, Plate.d, dcells]

theorem c18 (b : Bath) (hb : b.plates.length ≤ 4294967295) : PC prog 18 [.d b.d] (.d b.d) := by
  refine PC.run (fun _ => false) tt_ok (fn := f18) (rs := [.cell 2 26]) rfl rfl rfl rfl rfl rfl rfl ?_
  have hsz := sized_plates b.plates
  have hle : b.plates.length ≤ 4294967296 := by omega
  simp only [go_sem, Bath.d, hsz, hle, List.length_map, List.nil_append, Nat.zero_add]

theorem c35 (l : List Int) (n : Int) (hl : l.length ≤ 4294967296) : PC prog 35 [.d (.sl (l.map (.int .i64))), .d (.int .i64 n)] (.d (.bool (decide (n ∈ l)))) := by
  refine PC.run (fun _ => false) tt_ok (fn := f35) (rs := [.tmp 4]) rfl rfl rfl rfl rfl rfl rfl ?_
  simp only [go_sem]
  refine ALoop.by (S := Nat) (fun i => [(5, .d (.int .i64 i)), (1, .d (.int .i64 n)), (0, .d (.sl (l.map (.int .i64))))]) (fun i => []) (fun i => l.length - i) (fun i => i ≤ l.length ∧ n ∉ l.take i) 0 (by simp) (fun _ h => nomatch h) ⟨Nat.zero_le _, by simp⟩ ?_ ?_
  · exact ForgetTo.same' (by simp) (by simp [EWe, Env.look]) rfl
  rintro i ⟨hi, hx⟩ hn
  refine AWP.run (fun _ => false) tt_ok (fun _ h => nomatch h) (by simp) rfl ?_
  simp only [go_sem]
  refine Br_split (fun hd => ?_) (fun hd => ?_) <;> simp only [go_sem, hd]
  · have hlt : i < l.length := by simpa using hd
    simp only [go_sem, idx_nat, List.getElem?_map, List.getElem?_eq_getElem hlt]
    have hin := List.getElem_mem hlt
    have hst : l.take (i + 1) = l.take i ++ [l[i]] := List.take_succ_eq_append_getElem hlt
    generalize l[i] = x at hin hst
    refine Br_split (fun he => ?_) (fun he => ?_) <;> simp only [go_sem, he]
    · have : x = n := by simpa using he
      subst this
      simp [hin]
    · have hne : ¬ n = x := fun e => by subst e; simp at he
      refine ⟨i + 1, ⟨hlt, by rw [hst]; simp [hx, hne]⟩, by omega, ?_⟩
      exact ForgetTo.same' (by simp) (by simp [EWe, Env.look, w64 (n := (i : Int) + 1) (by omega) (by omega)]) rfl
  · have hie : i = l.length := by simp at hd; omega
    subst hie
    rw [List.take_length] at hx
    simp [hx]

theorem c22 (a b : Bath) (ha : a.plates.length ≤ 4294967296) (hb : b.plates.length ≤ 4294967296) : PC prog 22 [.d a.d, .d b.d] (.d (.bool (decide (a = b)))) := by
  refine PC.run (fun _ => false) tt_ok (fn := f22) (rs := [.tmp 4]) rfl rfl rfl rfl rfl rfl rfl ?_
  simp only [go_sem, Bath.d]
  have hne : ∀ h : ¬ (a.str = b.str ∧ a.plates = b.plates), decide (a = b) = false := fun h => by
    rw [decide_eq_false_iff_not]; intro e; subst e; exact h ⟨rfl, rfl⟩
  refine Br_split (fun h1 => ?_) (fun h1 => ?_) <;> simp only [go_sem, h1]
  · rw [hne]
    rintro ⟨e1, _⟩
    rw [e1] at h1
    simp at h1
  have hstr : a.str = b.str := by
    cases hx : a.str; cases hy : b.str
    rw [hx, hy] at h1
    simpa using h1
  refine Br_split (fun h2 => ?_) (fun h2 => ?_) <;> simp only [go_sem, h1, h2]
  · rw [hne]
    rintro ⟨_, e2⟩
    rw [e2] at h2
    simp at h2
  have hlen : a.plates.length = b.plates.length := by simp at h2; omega
  refine ALoop.by (S := Nat) (fun i => [(5, .d (.int .i64 i)), (3, .ptr 1 0), (2, .ptr 0 0)]) (fun i => [.cells [.d (.int .i64 a.str.lo), .d (.int .i64 a.str.hi), .d (.sl (a.plates.map Plate.d))], .cells [.d (.int .i64 b.str.lo), .d (.int .i64 b.str.hi), .d (.sl (b.plates.map Plate.d))]])
    (fun i => a.plates.length - i) (fun i => i ≤ a.plates.length ∧ a.plates.take i = b.plates.take i) 0 (by simp) (fun _ h => nomatch h) ⟨Nat.zero_le _, rfl⟩ ?_ ?_
  · exact ForgetTo.same' (by simp) (by simp [EWe, Env.look]) rfl
  rintro i ⟨hi, hx⟩ hn
  refine AWP.run (fun _ => false) tt_ok (fun _ h => nomatch h) (by simp) rfl ?_
  simp only [go_sem]
  refine Br_split (fun hd => ?_) (fun hd => ?_) <;> simp only [go_sem, hd]
  · have hlt : i < a.plates.length := by simpa using hd
    have hlt' : i < b.plates.length := by omega
    have hs := take_succ_eq hlt hlt' hx
    have hne2 : a.plates[i] ≠ b.plates[i] → a.plates ≠ b.plates := fun h e => h (by simp [e])
    refine ADrw.treeG (fun _ => false) tt_ok (by kernel_rfl) (fun k => if k = 1 ∨ k = 6 then some .L else some .S) (.ones [0, 1, 2, 3, 4, 5, 6, 7, 8, 9, 10] .done) (by simp) (fun _ h => nomatch h) rfl rfl (by kernel_rfl) ?_
    simp only [go_sem, idx_nat, List.getElem?_map, List.getElem?_eq_getElem hlt, List.getElem?_eq_getElem hlt', Plate.d]
    generalize a.plates[i] = x at hs hne2
    generalize b.plates[i] = y at hs hne2
    refine Br_split (fun he => ?_) (fun he => ?_) <;> simp only [go_sem, he]
    · have hxy : x ≠ y := fun e => by subst e; simp at he
      rw [hne]
      rintro ⟨_, e2⟩
      exact hne2 hxy e2
    · have heq : x = y := by
        obtain ⟨⟨x1, x2⟩, x3, x4⟩ := x
        obtain ⟨⟨y1, y2⟩, y3, y4⟩ := y
        simp at he
        simp [he]
      refine ⟨i + 1, ⟨hlt, hs.2 heq⟩, by omega, ?_⟩
      exact ForgetTo.same' (by simp) (by simp [EWe, Env.look, w64 (n := (i : Int) + 1) (by omega) (by omega)]) rfl
  · have hlt : ¬ i < a.plates.length := by simpa using hd
    rw [List.take_of_length_le (by omega), List.take_of_length_le (by omega)] at hx
    have : a = b := by
      obtain ⟨x, y⟩ := a
      obtain ⟨x', y'⟩ := b
      simp only at hstr hx
      rw [hstr, hx]
    simp [this]

theorem valid_iff (s : Sp) (a b : Int) : (decide (s.lo ≥ a) && decide (s.lo ≤ s.hi) && decide (s.hi ≤ b)) = (within a b [s.lo, s.hi] && decide (s.lo ≤ s.hi)) := by
  rw [Bool.eq_iff_iff]
  simp [within]
  omega

theorem in_iff (n a b : Int) : (decide (n ≥ a) && decide (n ≤ b)) = within a b [n] := by
  rw [Bool.eq_iff_iff]
  simp [within]

theorem c21 (b : Bath) (hb : b.plates.length ≤ 4294967296) : PC prog 21 [.d b.d] (.d (.int .i64 (checkP b))) := by
  refine PC.run (fun _ => false) tt_ok (fn := f21) (rs := [.tmp 2]) rfl rfl rfl rfl rfl rfl rfl ?_
  simp only [go_sem, Bath.d]
  refine (c47 b.str 1 40).call rfl rfl rfl ?_
  rw [valid_iff]
  simp only [go_sem]
  refine Br_split (fun h1 => ?_) (fun h1 => ?_) <;> simp only [go_sem, h1]
  · simp only [checkP, h1, if_true]
  refine Br_split (fun h2 => ?_) (fun h2 => ?_) <;> simp only [go_sem, h1, h2]
  · have : b.plates.length > 5 := by simp at h2; omega
    simp only [checkP, h1, if_pos this]
    simp
  have h5 : ¬ b.plates.length > 5 := by simp at h2; omega
  have hch : checkP b = if b.plates.any badPlate = true then 2 else 0 := by
    simp only [checkP, h1, if_neg h5]
    simp
  rw [hch]
  refine ALoop.by (S := Nat) (fun i => [(3, .d (.int .i64 i)), (1, .ptr 0 0)]) (fun i => [.cells [.d (.int .i64 b.str.lo), .d (.int .i64 b.str.hi), .d (.sl (b.plates.map Plate.d))]])
    (fun i => b.plates.length - i) (fun i => i ≤ b.plates.length ∧ (b.plates.take i).any badPlate = false) 0 (by simp) (fun _ h => nomatch h) ⟨Nat.zero_le _, rfl⟩ ?_ ?_
  · exact ForgetTo.same' (by simp) (by simp [EWe, Env.look]) rfl
  rintro i ⟨hi, hx⟩ hn
  refine AWP.run (fun _ => false) tt_ok (fun _ h => nomatch h) (by simp) rfl ?_
  simp only [go_sem]
  refine Br_split (fun hd => ?_) (fun hd => ?_) <;> simp only [go_sem, hd]
  · have hlt : i < b.plates.length := by simpa using hd
    have hst : (b.plates.take (i + 1)).any badPlate = badPlate b.plates[i] := by
      rw [List.take_add_one, List.getElem?_eq_getElem hlt, List.any_append, hx]; simp
    have hmem : badPlate b.plates[i] = true → b.plates.any badPlate = true := fun h => List.any_eq_true.2 ⟨_, List.getElem_mem hlt, h⟩
    simp only [go_sem, idx_nat, List.getElem?_map, List.getElem?_eq_getElem hlt, Plate.d]
    generalize b.plates[i] = p at hst hmem
    refine (c47 p.rust 0 600).call rfl rfl rfl ?_
    rw [valid_iff]
    simp only [go_sem, hd]
    refine Br_split (fun g1 => ?_) (fun g1 => ?_) <;> simp only [go_sem, hd, g1]
    · rw [if_pos (hmem (by simp only [badPlate, g1, Bool.true_or]))]
    refine (c34 p.takes 0 10).call rfl rfl rfl ?_
    rw [in_iff]
    simp only [go_sem, hd, g1]
    refine Br_split (fun g2 => ?_) (fun g2 => ?_) <;> simp only [go_sem, hd, g1, g2]
    · rw [if_pos (hmem (by simp only [badPlate, g1, g2, Bool.true_or, Bool.or_true]))]
    refine (c34 p.thin 0 300).call rfl rfl rfl ?_
    rw [in_iff]
    simp only [go_sem, hd, g1, g2]
    refine Br_split (fun g3 => ?_) (fun g3 => ?_) <;> simp only [go_sem, hd, g1, g2, g3]
    · rw [if_pos (hmem (by simp only [badPlate, g1, g2, g3, Bool.or_true]))]
    · refine ⟨i + 1, ⟨hlt, by rw [hst]; simp only [badPlate, g1, g2, g3, Bool.or_false]⟩, by omega, ?_⟩
      refine ForgetTo.drop (H0 := [_]) (Y := [_]) (Nat.zero_le _) rfl (by simp [BBs, BB, VBs, VB]) ?_
      simp [EWp, Env.look, pubV, w64 (n := (i : Int) + 1) (by omega) (by omega)]
  · have hie : i = b.plates.length := by simp at hd; omega
    subst hie
    rw [List.take_length] at hx
    simp [hx]
end Go.Aw
end

section
set_option maxRecDepth 100000
namespace Go.Aw
open Go Go.Proofs.Try

def weakF (b : Bath) (l : List Int) (s : Int) : Int := l.foldl (fun s p => max 0 (s - (b.pl p).takes)) s

theorem weakF_bnd {b : Bath} (hok : b.Ok) : ∀ (l : List Int) (s : Int), 0 ≤ s → s ≤ 40 → 0 ≤ weakF b l s ∧ weakF b l s ≤ 40
  | [], s, h1, h2 => ⟨h1, h2⟩
  | p :: r, s, h1, h2 => by
    have hp := hok.pl p
    simp only [Plate.Ok] at hp
    exact weakF_bnd hok r (max 0 (s - (b.pl p).takes)) (by omega) (by omega)

theorem c27 {b : Bath} (hok : b.Ok) (l : List Int) (s : Int) (hl : l.length ≤ 4294967296) (hs : 0 ≤ s ∧ s ≤ 40) (hm : ∀ p ∈ l, 0 ≤ p ∧ p < b.plates.length) : PC prog 27 [.d b.d, .d (.sl (l.map (.int .i64))), .d (.int .i64 s)] (.d (.int .i64 (weakF b l s))) := by
  refine PC.run (fun _ => false) tt_ok (fn := f27) (rs := [.tmp 6]) rfl rfl rfl rfl rfl rfl rfl ?_
  simp only [go_sem, Bath.d]
  refine ALoop.by (S := Nat) (fun i => [(7, .d (.int .i64 i)), (3, .ptr 0 0), (2, .d (.int .i64 (weakF b (l.take i) s))), (1, .d (.sl (l.map (.int .i64))))]) (fun i => [.cells [.d (.int .i64 b.str.lo), .d (.int .i64 b.str.hi), .d (.sl (b.plates.map Plate.d))]])
    (fun i => l.length - i) (fun i => i ≤ l.length) 0 (by simp) (fun _ h => nomatch h) (Nat.zero_le _) ?_ ?_
  · exact ForgetTo.same' (by simp) (by simp [EWe, Env.look, weakF]) rfl
  rintro i hi hn
  refine AWP.run (fun _ => false) tt_ok (fun _ h => nomatch h) (by simp) rfl ?_
  simp only [go_sem]
  refine Br_split (fun hd => ?_) (fun hd => ?_) <;> simp only [go_sem, hd]
  · have hlt : i < l.length := by simpa using hd
    have hp := hm _ (List.getElem_mem hlt)
    have hpl := hok.pl l[i]
    simp only [Plate.Ok] at hpl
    have hw := weakF_bnd hok (l.take i) s hs.1 hs.2
    have hst : weakF b (l.take (i + 1)) s = max 0 (weakF b (l.take i) s - (b.pl l[i]).takes) := by
      rw [weakF, List.take_add_one, List.getElem?_eq_getElem hlt, List.foldl_append]; rfl
    have hat := Bath.at (b := b) hp
    have hix : idx? (l.map (D.int .i64)) (i : Int) = some (.int .i64 l[i]) := by simp [idx?, List.getElem?_eq_getElem hlt]
    generalize l[i] = q at hp hpl hst hat hix
    refine ADrw.treeG (fun _ => false) tt_ok (by kernel_rfl) (fun k => if k = 2 then some .L else some .S) (.ones [0, 1, 2, 3, 4, 5, 6, 7, 8, 9, 10, 11, 12] .done) (by simp) (fun _ h => nomatch h) rfl rfl (by kernel_rfl) ?_
    simp only [go_sem, hix, hat, Plate.d]
    refine ⟨i + 1, hlt, by omega, ?_⟩
    exact ForgetTo.same' (by simp) (by simp [EWe, Env.look, hst, w64 (n := (i : Int) + 1) (by omega) (by omega), w64 (n := weakF b (l.take i) s - (b.pl q).takes) (by omega) (by omega)]) rfl
  · have hie : i = l.length := by simp at hd; omega
    subst hie
    rw [List.take_length]

/-- Steps, as the reference asks them. -/
theorem c25 (b : Bath) (l : List Step) (hb : b.plates.length ≤ 62) (hl : l.length ≤ 1000) : PC prog 25 [.d b.d, .d (.sl (l.map Step.d))] (.d (.bool (stepsOk b.plates.length 0 l))) := by
  refine PC.run (fun k => k == 7) tt_ok (fn := f25) (rs := [.tmp 4]) rfl rfl rfl rfl rfl rfl rfl ?_
  simp only [go_sem, Bath.d]
  refine ALoop.by (S := Nat × Nat) (fun s => [(6, .d (.int .i64 s.1)), (5, .ref 1 s.1 0 s.1), (2, .ptr 0 0), (1, .d (.sl (l.map Step.d)))])
    (fun s => [.cells [.d (.int .i64 b.str.lo), .d (.int .i64 b.str.hi), .d (.sl (b.plates.map Plate.d))], .arr 1 false (((l.take s.1).map Step.plate).map (.int .i64))])
    (fun s => l.length - s.1) (fun s => s.1 ≤ l.length ∧ stepsOk b.plates.length s.2 (l.drop s.1) = stepsOk b.plates.length 0 l ∧ ∀ q : Nat, s.2.testBit q = decide ((q : Int) ∈ (l.take s.1).map Step.plate)) (0, 0) (by simp) (fun _ h => nomatch h) ⟨Nat.zero_le _, rfl, by simp⟩ ?_ ?_
  · exact ForgetTo.same' (by simp) (by simp [EWe, Env.look]) (by simp)
  rintro ⟨i, d⟩ ⟨hi, hx, hq⟩ hn
  simp only at hi hx hq hn ⊢
  refine AWP.run (fun k => k == 7) tt_ok (fun _ h => nomatch h) (by simp) rfl ?_
  simp only [go_sem]
  refine Br_split (fun hd => ?_) (fun hd => ?_) <;> simp only [go_sem, hd]
  · have hlt : i < l.length := by simpa using hd
    rw [List.drop_eq_getElem_cons hlt] at hx
    have hix : idx? (l.map Step.d) (i : Int) = some (l[i]).d := by simp [idx?, List.getElem?_eq_getElem hlt]
    have hst : (l.take (i + 1)).map Step.plate = (l.take i).map Step.plate ++ [l[i].plate] := by
      rw [List.take_add_one, List.getElem?_eq_getElem hlt, List.map_append]; rfl
    simp only [stepsOk] at hx
    generalize l[i] = s at hix hst hx
    have hp1 : IntKind.i64.wrap ((b.plates.length : Int) - 1) = (b.plates.length : Int) - 1 := w64 (by omega) (by omega)
    have hln : (((l.take i).map Step.plate).map (D.int .i64)).length = i := by simp; omega
    have hln2 : (l.take i).length = i := by simp; omega
    have hi95 : i ≤ 4294967295 := by omega
    have htk : (((l.take i).map Step.plate).map (D.int .i64)).take i = ((l.take i).map Step.plate).map (D.int .i64) := List.take_of_length_le (by omega)
    have hnx : IntKind.i64.wrap ((i : Int) + 1) = ((i + 1 : Nat) : Int) := w64 (by omega) (by omega)
    refine ADrw.treeG (fun k => k == 7) tt_ok (by kernel_rfl) (fun k => if k = 6 then some .L else if k = 27 then some .R else some .S) (.ones [0, 1, 2, 3, 4, 5, 6, 7, 8, 9, 10, 11, 12, 13, 14, 15, 16, 17, 18, 19, 20, 21, 22, 23, 24, 25, 26, 27, 28] .done) (by simp) (fun _ h => nomatch h) rfl rfl (by kernel_rfl) ?_
    simp only [go_sem, hix, Step.d, hp1]
    refine (c34 s.plate 0 ((b.plates.length : Int) - 1)).callS rfl rfl rfl rfl rfl rfl ?_
    rw [in_iff]
    simp only [go_sem, hix, Step.d, hp1]
    refine Br_split (fun h1 => ?_) (fun h1 => ?_) <;> simp only [go_sem, hix, Step.d, hp1, h1]
    · rw [if_pos (by simp only [stepBad, h1, Bool.true_or])] at hx
      rw [← hx]
    refine (c34 s.hours 1 24).callS rfl rfl rfl rfl rfl rfl ?_
    rw [in_iff]
    simp only [go_sem, hix, Step.d, hp1, h1]
    refine Br_split (fun h2 => ?_) (fun h2 => ?_) <;> simp only [go_sem, hix, Step.d, hp1, h1, h2]
    · rw [if_pos (by simp only [stepBad, h2, Bool.true_or, Bool.or_true])] at hx
      rw [← hx]
    have hp0 : 0 ≤ s.plate ∧ s.plate < b.plates.length := by
      have := within_one.1 (by simpa using h1); omega
    obtain ⟨q, hqe⟩ : ∃ q : Nat, s.plate = q := ⟨s.plate.toNat, by omega⟩
    refine (c35 ((l.take i).map Step.plate) s.plate (by simp; omega)).callD rfl (by simp only [List.nil_append, List.append_nil, List.cons_append, List.map_cons, List.map_nil, dz, pubVs, pubV, htk, hln]; simp [htk, List.take_take, show min i l.length = i by omega]) rfl ?_
    have hqq := hq q
    rw [← hqe] at hqq
    rw [← hqq]
    simp only [go_sem, hix, Step.d, hp1, h1, h2]
    refine Br_split (fun h3 => ?_) (fun h3 => ?_) <;> simp only [go_sem, hix, Step.d, hp1, h1, h2, h3]
    · rw [if_pos (by simp only [stepBad, hqe, Int.toNat_natCast, h3, Bool.or_true])] at hx
      rw [← hx]
    · rw [if_neg (by simp only [stepBad, hqe, Int.toNat_natCast, h3, h2, Bool.or_false]; rw [← hqe, h1]; simp), hqe, Int.toNat_natCast] at hx
      have hi1 : i + 1 ≤ 4294967296 := by omega
      simp only [go_sem, hix, Step.d, hln, hln2, hi95, hi1]
      refine ⟨(i + 1, d ||| 2 ^ q), ⟨hlt, hx, fun q' => ?_⟩, by simp only; omega, ?_⟩
      · simp only [hst, hqe]
        rw [Nat.testBit_or, hq q', Nat.testBit_two_pow, Bool.eq_iff_iff]
        simp only [Bool.or_eq_true, decide_eq_true_eq, List.mem_append, List.mem_singleton]
        exact or_congr Iff.rfl (by omega)
      · exact ForgetTo.same' (by simp) (by simp [EWe, Env.look, hnx]) (by simp [hst])
  · have hie : i = l.length := by simp at hd; omega
    subst hie
    rw [List.drop_eq_nil_of_le (Nat.le_refl _)] at hx
    simp only [stepsOk] at hx
    rw [← hx]
end Go.Aw
end

section
set_option maxRecDepth 100000
namespace Go.Aw
open Go Go.Proofs.Try

def exB (l : List Int) : Bath := ⟨⟨10, 12⟩, [⟨⟨40, 44⟩, l.getD 0 1, 30⟩, ⟨⟨50, 60⟩, l.getD 1 2, 40⟩, ⟨⟨20, 22⟩, l.getD 2 1, 16⟩]⟩

theorem exB_set (l : List Int) (hl : l.length ≤ 2) {i : Nat} (hi : i < l.length) : ((exB (l.take i)).plates.map Plate.d).set i (.agg [.int .i64 ((exB []).pl i).rust.lo, .int .i64 ((exB []).pl i).rust.hi, .int .i64 l[i], .int .i64 ((exB []).pl i).thin]) = (exB (l.take (i + 1))).plates.map Plate.d := by
  match l, hl with
  | [], _ => simp at hi
  | [a], _ =>
    obtain rfl : i = 0 := by simp at hi; omega
    rfl
  | [a, b], _ =>
    have : i = 0 ∨ i = 1 := by simp at hi; omega
    rcases this with rfl | rfl <;> rfl

theorem exB_get (l : List Int) (hl : l.length ≤ 2) {i : Nat} (hi : i < l.length) : ((exB (l.take i)).plates.map Plate.d)[i]? = some (.agg [.int .i64 ((exB []).pl i).rust.lo, .int .i64 ((exB []).pl i).rust.hi, .int .i64 ((exB []).pl i).takes, .int .i64 ((exB []).pl i).thin]) := by
  match l, hl with
  | [], _ => simp at hi
  | [a], _ =>
    obtain rfl : i = 0 := by simp at hi; omega
    rfl
  | [a, b], _ =>
    have : i = 0 ∨ i = 1 := by simp at hi; omega
    rcases this with rfl | rfl <;> rfl

theorem c71 (l : List Int) (hl : l.length ≤ 2) : PC prog 71 [.d (.sl (l.map (.int .i64)))] (.d (exB l).d) := by
  refine PC.run (fun k => k == 12) tt_ok (fn := f71) (rs := [.cell 2 26]) rfl rfl rfl rfl rfl rfl rfl ?_
  simp only [go_sem]
  refine (c26 10 12).call rfl rfl rfl ?_
  simp only [go_sem]
  refine (c26 40 44).call rfl rfl rfl ?_
  simp only [go_sem, Sp.d]
  refine (c26 50 60).call rfl rfl rfl ?_
  simp only [go_sem, Sp.d]
  refine (c26 20 22).call rfl rfl rfl ?_
  simp only [go_sem, Sp.d]
  refine ALoop.by (S := Nat) (fun i => [(4, .d (.int .i64 i)), (3, .ptr 2 0), (2, .ptr 0 0), (0, .d (.sl (l.map (.int .i64))))])
    (fun i => [.cells [.d (.int .i64 0), .d (.int .i64 0), .d (.sl [])], .arr 4 false ((exB (l.take i)).plates.map Plate.d), .cells [.d (.int .i64 10), .d (.int .i64 12), .ref 1 3 0 3]]) (fun i => l.length - i) (fun i => i ≤ l.length) 0 (by simp) (fun _ h => nomatch h) (Nat.zero_le _) ?_ ?_
  · exact ForgetTo.same' (by simp) (by simp [EWe, Env.look]) (by simp [exB, Plate.d])
  rintro i hi hn
  refine AWP.run (fun _ => false) tt_ok (fun _ h => nomatch h) (by simp) rfl ?_
  simp only [go_sem]
  refine Br_split (fun hd => ?_) (fun hd => ?_) <;> simp only [go_sem, hd]
  · have hlt : i < l.length := by simpa using hd
    have hix : idx? (l.map (D.int .i64)) (i : Int) = some (.int .i64 l[i]) := by simp [idx?, List.getElem?_eq_getElem hlt]
    have hget := exB_get l hl hlt
    have hset := exB_set l hl hlt
    have hlen : ((exB (l.take i)).plates.map Plate.d).length = 3 := rfl
    have c1 : (0 : Int) ≤ (i : Int) := by omega
    have c2 : (i : Int) < 3 := by omega
    generalize (exB (l.take i)).plates.map Plate.d = ps at hget hset hlen
    generalize l[i] = x at hix hset
    refine ADrw.treeG (fun _ => false) tt_ok (by kernel_rfl) (fun k => if k = 1 ∨ k = 6 ∨ k = 7 then some .L else if k = 9 then some .W else some .S) (.ones [0, 1, 2, 3, 4, 5, 6, 7, 8, 9] .done) (by simp) (fun _ h => nomatch h) rfl rfl (by kernel_rfl) ?_
    simp only [go_sem, hix, hget, hlen, c1, c2, Int.toNat_natCast, hset]
    refine ⟨i + 1, hlt, by omega, ?_⟩
    exact ForgetTo.same' (by simp) (by simp [EWe, Env.look, w64 (n := (i : Int) + 1) (by omega) (by omega)]) rfl
  · have hie : i = l.length := by simp at hd; omega
    subst hie
    rw [List.take_length]
    have hlen : (exB l).plates.length = 3 := rfl
    have htk : ((exB l).plates.map Plate.d).take 3 = (exB l).plates.map Plate.d := rfl
    simp only [go_sem, hlen, htk, List.length_map]
    simp [Bath.d, exB]
end Go.Aw
end

section
set_option maxRecDepth 100000
namespace Go.Aw
open Go Go.Proofs.Try

theorem ex_strengths : strengthsP (exB []) [0, 1] = ([⟨10, 12⟩, ⟨9, 11⟩, ⟨7, 9⟩], 0) := by decide +kernel
theorem ex_out : outP (exB []) [⟨0, 4⟩, ⟨1, 7⟩] = ([[1, 2], [2]], 0) := by decide +kernel
theorem ex_hours : hoursP (exB []) [⟨0, 5⟩] 1 = (⟨7, 8⟩, 0) := by decide +kernel
theorem ex_order : orderP (exB []) = ([⟨0, 5⟩, ⟨1, 7⟩, ⟨2, 4⟩], 0) := by decide +kernel
theorem ex_check : checkP (exB [8, 8]) = 0 := by decide +kernel
theorem ex_fillings : fillFirst (exB [8, 8]) = some ([0, 1, 0], [5, 2]) := by decide +kernel
theorem ex_mix : mixV [⟨⟨30, 30⟩, 10⟩, ⟨⟨12, 15⟩, 20⟩] = ⟨18, 20⟩ := by decide +kernel
theorem ex_acids : acidsP [⟨⟨30, 30⟩, 10⟩, ⟨⟨12, 15⟩, 20⟩] = 0 := by decide +kernel
theorem ex_water : waterP [⟨⟨30, 30⟩, 10⟩] ⟨10, 12⟩ = (⟨15, 20⟩, 0) := by decide +kernel
theorem ex_logE : logE (exB []) [⟨⟨0, 4⟩, 1⟩] = 0 := by decide +kernel
theorem ex_was : wasO ⟨exB [], [⟨⟨0, 4⟩, 1⟩], 0⟩ = some (0, 0, [⟨41, 44⟩, ⟨50, 60⟩, ⟨20, 22⟩]) := by decide +kernel
theorem ex_logE2 : logE (exB []) [⟨⟨0, 24⟩, 2⟩, ⟨⟨2, 3⟩, 2⟩] = 0 := by decide +kernel
theorem ex_wrong : wrongF (exB []) [⟨⟨0, 24⟩, 2⟩, ⟨⟨2, 3⟩, 2⟩] = some ([0], 1) := by decide +kernel
theorem ex_missing : missP ⟨100, 100⟩ [⟨20, 25⟩, ⟨30, 30⟩] ⟨40, 44⟩ = (⟨1, 10⟩, 0) := by decide +kernel
end Go.Aw
end

section
set_option maxRecDepth 100000
namespace Go.Aw
open Go Go.Proofs.Try

theorem c17 : PC prog 17 [] (.d (.bool true)) := by
  refine PC.run (fun _ => false) tt_ok (fn := f17) (rs := [.tmp 0]) rfl rfl rfl rfl rfl rfl rfl ?_
  simp only [go_sem]
  refine (c71 [] (by simp)).call rfl rfl rfl ?_
  simp only [go_sem]
  refine (c20 (exB []) [0, 1] (by simp [exB]) (by simp)).call rfl rfl rfl ?_
  rw [ex_strengths]
  simp only [go_sem]
  refine (c71 [] (by simp)).call rfl rfl rfl ?_
  simp only [go_sem]
  refine (c24 0 4).call rfl rfl rfl ?_
  simp only [go_sem]
  refine (c24 1 7).call rfl rfl rfl ?_
  simp only [go_sem]
  refine (c28 (exB []) [⟨0, 4⟩, ⟨1, 7⟩] (by simp [exB]) (by simp)).call rfl rfl rfl ?_
  rw [ex_out]
  simp only [go_sem]
  refine (c71 [] (by simp)).call rfl rfl rfl ?_
  simp only [go_sem]
  refine (c24 0 5).call rfl rfl rfl ?_
  simp only [go_sem]
  refine (c33 (exB []) [⟨0, 5⟩] 1 (by simp [exB]) (by simp)).call rfl rfl rfl ?_
  rw [ex_hours]
  simp only [go_sem, Sp.d]
  refine (c71 [] (by simp)).call rfl rfl rfl ?_
  simp only [go_sem]
  refine (c37 (exB []) (by simp [exB])).call rfl rfl rfl ?_
  rw [ex_order]
  simp only [go_sem, lv]
  refine (c71 [8, 8] (by simp)).call rfl rfl rfl ?_
  simp only [go_sem]
  have hfv : fillingsV (exB [8, 8]) = .tup [.d (.sl (natsD [0, 1, 0])), .d (.int .i64 0)] := by simp only [fillingsV, ex_check, ex_fillings, if_true]
  refine (c38 (exB [8, 8]) (by simp [exB])).call rfl rfl (by rw [hfv]; rfl) ?_
  rw [hfv]
  simp only [go_sem]
  refine (c26 30 30).call rfl rfl rfl ?_
  simp only [go_sem, Sp.d]
  refine (c26 12 15).call rfl rfl rfl ?_
  simp only [go_sem, Sp.d]
  refine (c43 [⟨⟨30, 30⟩, 10⟩, ⟨⟨12, 15⟩, 20⟩] (by simp)).call rfl rfl rfl ?_
  rw [ex_mix, ex_acids]
  simp only [go_sem, Sp.d]
  refine (c26 30 30).call rfl rfl rfl ?_
  simp only [go_sem, Sp.d]
  refine (c26 10 12).call rfl rfl rfl ?_
  simp only [go_sem]
  refine (c44 [⟨⟨30, 30⟩, 10⟩] ⟨10, 12⟩ (by simp)).call rfl rfl rfl ?_
  rw [ex_water]
  simp only [go_sem, Sp.d]
  refine (c71 [] (by simp)).call rfl rfl rfl ?_
  simp only [go_sem]
  refine (c24 0 4).call rfl rfl rfl ?_
  simp only [go_sem, Step.d]
  have hwv : wasV (exB []) [⟨⟨0, 4⟩, 1⟩] = .tup [.d (Sp.mk 10 10).d, .d (.sl ([⟨41, 44⟩, ⟨50, 60⟩, ⟨20, 22⟩].map Sp.d)), .d (.int .i64 0)] := by simp only [wasV, ex_logE, ex_was, if_true]; rfl
  refine (c49 (exB []) [⟨⟨0, 4⟩, 1⟩] (by simp [exB]) (by simp)).call rfl rfl (by rw [hwv]; rfl) ?_
  rw [hwv]
  simp only [go_sem, Sp.d]
  refine (c71 [] (by simp)).call rfl rfl rfl ?_
  simp only [go_sem]
  refine (c24 0 24).call rfl rfl rfl ?_
  simp only [go_sem, Step.d]
  refine (c24 2 3).call rfl rfl rfl ?_
  simp only [go_sem, Step.d]
  have hwr : wrongV (exB []) [⟨⟨0, 24⟩, 2⟩, ⟨⟨2, 3⟩, 2⟩] = .tup [.d (.sl (natsD [0])), .d (.int .i64 0)] := by simp only [wrongV, ex_logE2, ex_wrong, if_true]; rfl
  refine (c50 (exB []) [⟨⟨0, 24⟩, 2⟩, ⟨⟨2, 3⟩, 2⟩] (by simp [exB]) (by simp)).call rfl rfl (by rw [hwr]; rfl) ?_
  rw [hwr]
  simp only [go_sem]
  refine (c26 100 100).call rfl rfl rfl ?_
  simp only [go_sem]
  refine (c26 20 25).call rfl rfl rfl ?_
  simp only [go_sem, Sp.d]
  refine (c26 30 30).call rfl rfl rfl ?_
  simp only [go_sem, Sp.d]
  refine (c26 40 44).call rfl rfl rfl ?_
  simp only [go_sem, Sp.d]
  refine (c55 ⟨100, 100⟩ [⟨20, 25⟩, ⟨30, 30⟩] ⟨40, 44⟩ (by simp)).call rfl rfl rfl ?_
  rw [ex_missing]
  simp only [go_sem, Sp.d]
  have hd0 : ∀ {α : Type} [DecidableEq α] (l : List α), decide (l = l) = true := fun l => by simp
  refine ADrw.treeG (fun _ => false) tt_ok (by kernel_rfl) (fun k => if k = 29 then some .L else some .S) (.ones [0, 1, 2, 3, 4, 5, 6, 7, 8, 9, 10, 11, 12, 13, 14, 15, 16, 17, 18, 19, 20, 21, 22, 23, 24, 25, 26, 27, 28, 29, 30, 31, 32, 33, 34, 35, 36, 37, 38, 39, 40, 41] .done) (by simp) (fun _ h => nomatch h) rfl rfl (by kernel_rfl) ?_
  simp only [go_sem]
  refine (c26 10 12).callS rfl rfl rfl rfl rfl rfl ?_
  simp only [go_sem, Sp.d, Step.d, intsD, hd0]
  refine (c26 9 11).callS rfl rfl rfl rfl rfl rfl ?_
  simp only [go_sem, Sp.d, Step.d, intsD, hd0]
  refine (c26 7 9).callS rfl rfl rfl rfl rfl rfl ?_
  simp only [go_sem, Sp.d, Step.d, intsD, hd0]
  refine (c53 [⟨10, 12⟩, ⟨9, 11⟩, ⟨7, 9⟩] [⟨10, 12⟩, ⟨9, 11⟩, ⟨7, 9⟩] (by simp) (by simp)).callS rfl rfl rfl rfl rfl rfl ?_
  simp only [go_sem, Sp.d, Step.d, intsD, hd0]
  refine (c30 [1, 2] [1, 2] (by simp) (by simp)).callS rfl rfl rfl rfl rfl rfl ?_
  simp only [go_sem, Sp.d, Step.d, intsD, hd0]
  refine (c30 [2] [2] (by simp) (by simp)).callS rfl rfl rfl rfl rfl rfl ?_
  simp only [go_sem, Sp.d, Step.d, intsD, hd0]
  refine (c26 7 8).callS rfl rfl rfl rfl rfl rfl ?_
  simp only [go_sem, Sp.d, Step.d, intsD, hd0]
  refine (c24 0 5).callS rfl rfl rfl rfl rfl rfl ?_
  simp only [go_sem, Sp.d, Step.d, intsD, hd0]
  refine (c24 1 7).callS rfl rfl rfl rfl rfl rfl ?_
  simp only [go_sem, Sp.d, Step.d, intsD, hd0]
  refine (c24 2 4).callS rfl rfl rfl rfl rfl rfl ?_
  simp only [go_sem, Sp.d, Step.d, intsD, hd0]
  refine (c29 [⟨0, 5⟩, ⟨1, 7⟩, ⟨2, 4⟩] [⟨0, 5⟩, ⟨1, 7⟩, ⟨2, 4⟩] (by simp) (by simp)).callS rfl rfl rfl rfl rfl rfl ?_
  simp only [go_sem, Sp.d, Step.d, intsD, hd0]
  refine ADrw.treeG (fun _ => false) tt_ok (by kernel_rfl) (fun k => if k = 4 ∨ k = 9 ∨ k = 14 ∨ k = 32 then some .L else some .S) (.ones [0, 1, 2, 3, 4, 5, 6, 7, 8, 9, 10, 11, 12, 13, 14, 15, 16, 17, 18, 19, 20, 21, 22, 23, 24, 25, 26, 27, 28, 29, 30, 31, 32, 33, 34, 35, 36] .done) (by simp) (fun _ h => nomatch h) rfl rfl (by kernel_rfl) ?_
  simp only [go_sem]
  refine (c23 [0, 1, 0] [0, 1, 0] (by simp) (by simp)).callS rfl rfl rfl rfl rfl rfl ?_
  simp only [go_sem, Sp.d, Step.d, intsD, hd0]
  refine (c26 18 20).callS rfl rfl rfl rfl rfl rfl ?_
  simp only [go_sem, Sp.d, Step.d, intsD, hd0]
  refine (c26 15 20).callS rfl rfl rfl rfl rfl rfl ?_
  simp only [go_sem, Sp.d, Step.d, intsD, hd0]
  refine (c26 10 10).callS rfl rfl rfl rfl rfl rfl ?_
  simp only [go_sem, Sp.d, Step.d, intsD, hd0]
  refine (c26 41 44).callS rfl rfl rfl rfl rfl rfl ?_
  simp only [go_sem, Sp.d, Step.d, intsD, hd0]
  refine (c26 50 60).callS rfl rfl rfl rfl rfl rfl ?_
  simp only [go_sem, Sp.d, Step.d, intsD, hd0]
  refine (c26 20 22).callS rfl rfl rfl rfl rfl rfl ?_
  simp only [go_sem, Sp.d, Step.d, intsD, hd0]
  refine (c53 [⟨41, 44⟩, ⟨50, 60⟩, ⟨20, 22⟩] [⟨41, 44⟩, ⟨50, 60⟩, ⟨20, 22⟩] (by simp) (by simp)).callS rfl rfl rfl rfl rfl rfl ?_
  simp only [go_sem, Sp.d, Step.d, intsD, hd0]
  refine (c23 [0] [0] (by simp) (by simp)).callS rfl rfl rfl rfl rfl rfl ?_
  simp only [go_sem, Sp.d, Step.d, intsD, hd0]
  refine (c26 1 10).callS rfl rfl rfl rfl rfl rfl ?_
  simp only [go_sem, Sp.d, Step.d, intsD, hd0]
end Go.Aw
end

section
set_option maxRecDepth 100000
namespace Go.Aw
open Go Go.Proofs.Try

theorem fellF_nn {b : Bath} (hok : b.Ok) : ∀ l : List Int, 0 ≤ fellF b l
  | [] => by simp [fellF]
  | p :: r => by
    have hp := hok.pl p
    simp only [Plate.Ok] at hp
    have := fellF_nn hok r
    simp only [fellF, List.map_cons, List.sum_cons] at this ⊢
    omega

/-- Plate by plate, or all at once. -/
theorem weak_aft {b : Bath} (hok : b.Ok) : ∀ (l : List Int) (s : Int), 0 ≤ s → weakF b l s = aft (fellF b l) s
  | [], s, hs => by simp [weakF, fellF, aft]; omega
  | p :: r, s, hs => by
    have hp := hok.pl p
    simp only [Plate.Ok] at hp
    have hn := fellF_nn hok r
    have h1 : weakF b (p :: r) s = weakF b r (max 0 (s - (b.pl p).takes)) := rfl
    have h2 : fellF b (p :: r) = (b.pl p).takes + fellF b r := by simp [fellF]
    rw [h1, weak_aft hok r _ (by omega), h2]
    simp only [aft]
    omega

theorem ones_len (l : List Int) : (ones l).length = l.length := by simp [ones]

theorem c3 (b : Bath) (l : List Int) : PC prog 3 [.d b.d, .d (.sl (l.map (.int .i64)))] (.d (.bool true)) := by
  refine PC.run (fun k => k == 54) tt_ok (fn := f3) (rs := [.tmp 4]) rfl rfl rfl rfl rfl rfl rfl ?_
  simp only [go_sem, Bath.d]
  refine Br_split (fun h1 => ?_) (fun h1 => ?_) <;> simp only [go_sem, h1]
  · refine c17.call rfl rfl rfl ?_
    simp only [go_sem, h1]
  refine Br_split (fun h2 => ?_) (fun h2 => ?_) <;> simp only [go_sem, h1, h2]
  · refine c17.call rfl rfl rfl ?_
    simp only [go_sem, h1, h2]
  have hb : b.plates.length ≤ 20 := by simp only [decide_eq_false_iff_not] at h1; omega
  have hl : l.length ≤ 20 := by simp only [decide_eq_false_iff_not] at h2; omega
  refine (c18 b (by omega)).call rfl rfl rfl ?_
  have hle : l.length ≤ 4294967296 := by omega
  have hsz : sized 1 (l.map (D.int .i64)) = true := by simp [sized, dcells]
  simp only [go_sem, h1, h2, Bath.d, hle, hsz, List.length_map, List.nil_append, Nat.zero_add]
  refine (c19 b (by omega)).call rfl rfl rfl ?_
  simp only [go_sem, h1, h2]
  refine (c20 b l (by omega) (by omega)).call rfl rfl rfl ?_
  simp only [go_sem, h1, h2]
  refine (c21 b (by omega)).call rfl rfl rfl ?_
  simp only [go_sem, h1, h2]
  refine (c22 b b (by omega) (by omega)).call rfl rfl rfl ?_
  have hd0 : ∀ {α : Type} [DecidableEq α] (l : α), decide (l = l) = true := fun l => by simp
  simp only [go_sem, h1, h2, hd0]
  refine (c23 l l (by omega) (by omega)).call rfl rfl rfl ?_
  simp only [go_sem, h1, h2, hd0]
  refine ALoop.by (S := Nat) (fun i => [(12, .d (.int .i64 i)), (11, .ref 2 i 0 i), (10, .d (.int .i64 (checkP b))), (9, .d (.int .i64 (strengthsP b l).2)), (8, .d (.sl ((strengthsP b l).1.map Sp.d))), (2, .ptr 0 0), (1, .d (.sl (l.map (.int .i64))))])
    (fun i => [.cells [.d (.int .i64 b.str.lo), .d (.int .i64 b.str.hi), .d (.sl (b.plates.map Plate.d))], .cells [.d (.int .i64 b.str.lo), .d (.int .i64 b.str.hi), .d (.sl (b.plates.map Plate.d))], .arr 2 false ((ones (l.take i)).map Step.d)]) (fun i => l.length - i) (fun i => i ≤ l.length) 0 (by simp) (fun _ h => nomatch h) (Nat.zero_le _) ?_ ?_
  · exact ForgetTo.same' (by simp) (by simp [EWe, Env.look]) (by simp [ones])
  rintro i hi hn
  refine AWP.run (fun k => k == 54) tt_ok (fun _ h => nomatch h) (by simp) rfl ?_
  simp only [go_sem]
  refine Br_split (fun hd => ?_) (fun hd => ?_) <;> simp only [go_sem, hd]
  · have hlt : i < l.length := by simpa using hd
    have hix : idx? (l.map (D.int .i64)) (i : Int) = some (.int .i64 l[i]) := by simp [idx?, List.getElem?_eq_getElem hlt]
    have hst : (ones (l.take (i + 1))).map Step.d = (ones (l.take i)).map Step.d ++ [(Step.mk l[i] 1).d] := by
      rw [List.take_add_one, List.getElem?_eq_getElem hlt]; simp only [ones, List.map_append, Option.toList_some, List.map_cons, List.map_nil]
    have hln : ((ones (l.take i)).map Step.d).length = i := by simp [ones]; omega
    have hln2 : (ones (l.take i)).length = i := by simp [ones]; omega
    have hi1 : i + 1 ≤ 4294967296 := by omega
    have hi95 : i ≤ 4294967295 := by omega
    generalize l[i] = x at hix hst
    simp only [go_sem, hix]
    refine (c24 x 1).call rfl rfl rfl ?_
    simp only [go_sem, hln, hln2, hi1, hi95, Step.d]
    refine ⟨i + 1, hlt, by omega, ?_⟩
    exact ForgetTo.same' (by simp) (by simp [EWe, Env.look, w64 (n := (i : Int) + 1) (by omega) (by omega)]) (by rw [hst]; rfl)
  have hie : i = l.length := by simp at hd; omega
  subst hie
  rw [List.take_length]
  have htk : ((ones l).map Step.d).take l.length = (ones l).map Step.d := List.take_of_length_le (by simp [ones])
  have hon := ones_len l
  refine Br_split (fun h0 => ?_) (fun h0 => ?_) <;> simp only [go_sem, h0]
  · have hc0 : checkP b = 0 := by simpa using h0
    have hok := checkP_iff.1 hc0
    have hok' := hok
    obtain ⟨s1, s2, s3, _, _⟩ := hok'
    refine (c25 b (ones l) (by omega) (by simp [ones]; omega)).callL rfl (by simp [pubVs, pubV, dz, Bath.d, htk, hon]) rfl ?_
    simp only [go_sem, h0]
    refine Br_split (fun h3 => ?_) (fun h3 => ?_) <;> simp only [go_sem, h0, h3]
    · have h3' : ¬ stepsOk b.plates.length 0 (ones l) = true := by simpa using h3
      have hsp : strengthsP b l = ([], 4) := by simp [strengthsP, hc0, h3']
      simp only [go_sem, h0, h3, hsp, List.map_nil, List.length_nil]
      refine c17.call rfl rfl rfl ?_
      simp only [go_sem, h0, h3, hsp]
    · have h3' : stepsOk b.plates.length 0 (ones l) = true := by simpa using h3
      have hsp : strengthsP b l = (strengthsL b l (l.length + 1), 0) := by simp [strengthsP, hc0, h3']
      have hmem : ∀ p ∈ l, 0 ≤ p ∧ p < b.plates.length := fun p hp => (stepsOk_mem h3' ⟨p, 1⟩ (List.mem_map.2 ⟨p, hp, rfl⟩)).1
      simp only [go_sem, h0, h3, hc0, hsp, strengthsL_len]
      have hw : IntKind.i64.wrap ((l.length : Int) + 1) = ((l.length + 1 : Nat) : Int) := by rw [w64 (by omega) (by omega)]; omega
      rw [hw]
      simp only [go_sem, hd0]
      refine ALoop.by (S := Nat) (fun i => [(13, .d (.int .i64 i)), (8, .d (.sl ((strengthsL b l (l.length + 1)).map Sp.d))), (2, .ptr 0 0), (1, .d (.sl (l.map (.int .i64))))])
        (fun i => [.cells [.d (.int .i64 b.str.lo), .d (.int .i64 b.str.hi), .d (.sl (b.plates.map Plate.d))]]) (fun i => l.length + 1 - i) (fun i => i ≤ l.length + 1) 0 (by simp) (fun _ h => nomatch h) (Nat.zero_le _) ?_ ?_
      · refine ForgetTo.drop (H0 := [_]) (Y := [_, _]) (Nat.zero_le _) rfl (by simp [BBs, BB, VBs, VB]) ?_
        simp [EWp, Env.look, pubV]
      rintro i hi2 hn2
      refine AWP.run (fun k => k == 54) tt_ok (fun _ h => nomatch h) (by simp) rfl ?_
      simp only [go_sem]
      refine Br_split (fun he => ?_) (fun he => ?_) <;> simp only [go_sem, he]
      · have hle2 : i ≤ l.length := by simp only [decide_eq_true_eq] at he; omega
        have hix : idx? ((strengthsL b l (l.length + 1)).map Sp.d) (i : Int) = some (aftS (fellF b (l.take i)) b.str).d := by
          rw [idx_nat, List.getElem?_map, strengthsL, List.getElem?_map, List.getElem?_range (by omega)]; rfl
        have hw1 := weak_aft hok (l.take i) b.str.lo (by omega)
        have hw2 := weak_aft hok (l.take i) b.str.hi (by omega)
        have hmt : ∀ p ∈ l.take i, 0 ≤ p ∧ p < b.plates.length := fun p hp => hmem p (List.mem_of_mem_take hp)
        have c1 : (0 : Int) ≤ (i : Int) := by omega
        have c2 : (i : Int) ≤ (l.length : Int) := by omega
        refine ADrw.treeG (fun k => k == 54) tt_ok (by kernel_rfl) (fun k => if k = 4 ∨ k = 10 ∨ k = 12 ∨ k = 18 then some .L else some .S) (.ones [0, 1, 2, 3, 4, 5, 6, 7, 8, 9, 10, 11, 12, 13, 14, 15, 16, 17, 18, 19, 20, 21] .done) (by simp) (fun _ h => nomatch h) rfl rfl (by kernel_rfl) ?_
        have hsz1 := hsz
        have hlen1 : (l.map (D.int .i64)).length = l.length := by simp
        have c0 : 0 ≤ i := Nat.zero_le _
        simp only [go_sem, hix, Sp.d, c1, c0, hle2, Int.toNat_natCast, hsz1, hlen1, if_true, Nat.zero_le, true_and, and_self, and_true, List.drop_zero]
        refine (c27 hok (l.take i) b.str.lo (by simp; omega) (by omega) hmt).callS (by simp [Bath.d, dz, List.map_take]) rfl rfl rfl rfl rfl ?_
        rw [hw1]
        simp only [go_sem, hix, Sp.d, c1, c0, hle2, Int.toNat_natCast, hsz1, hlen1, if_true, Nat.zero_le, true_and, and_self, and_true, List.drop_zero]
        refine (c27 hok (l.take i) b.str.hi (by simp; omega) (by omega) hmt).callS (by simp [Bath.d, dz, List.map_take]) rfl rfl rfl rfl rfl ?_
        rw [hw2]
        simp only [go_sem, hix, Sp.d, c1, c0, hle2]
        refine (c26 (aft (fellF b (l.take i)) b.str.lo) (aft (fellF b (l.take i)) b.str.hi)).callS rfl rfl rfl rfl rfl rfl ?_
        simp only [go_sem, hix, Sp.d, c1, c0, hle2, aftS, hd0]
        refine ⟨i + 1, by omega, by omega, ?_⟩
        exact ForgetTo.same' (by simp) (by simp [EWe, Env.look, aftS, w64 (n := (i : Int) + 1) (by omega) (by omega)]) rfl
      · refine c17.call rfl rfl rfl ?_
        simp only [go_sem, he]
  · have hc0 : ¬ checkP b = 0 := by simpa using h0
    have hsp : strengthsP b l = ([], checkP b) := by simp [strengthsP, hc0]
    simp only [go_sem, h0, hsp, List.map_nil, List.length_nil, hd0]
    refine c17.call rfl rfl rfl ?_
    simp only [go_sem, h0, hsp]
end Go.Aw
end

section
set_option maxRecDepth 100000
namespace Go.Aw
open Go Go.Proofs

theorem has_int {f : Nat} {y : D} (h : HasT Try.prog (f + 1) 3 y) : ∃ n, y = .int .i64 n ∧ (Lit.int .i64 n).wf = true := by
  unfold HasT at h
  rw [Try.underlying3] at h
  exact h

theorem has_sp {f : Nat} {y : D} (h : HasT Try.prog (f + 2) 23 y) : ∃ s : Sp, y = s.d := by
  unfold HasT at h
  rw [Try.underlying23] at h
  obtain ⟨l, rfl, h⟩ := h
  simp only [HasFs] at h
  obtain ⟨y1, r1, rfl, h1, y2, r2, rfl, h2, rfl⟩ := h
  obtain ⟨n1, rfl, _⟩ := has_int h1
  obtain ⟨n2, rfl, _⟩ := has_int h2
  exact ⟨⟨n1, n2⟩, rfl⟩

theorem has_list {α : Type} {enc : α → D} {p : D → Prop} (he : ∀ y, p y → ∃ s, y = enc s) : ∀ l : List D, (∀ y ∈ l, p y) → ∃ ss : List α, l = ss.map enc
  | [], _ => ⟨[], rfl⟩
  | y :: r, h => by
    obtain ⟨s, rfl⟩ := he y (h y (by simp))
    obtain ⟨ss, rfl⟩ := has_list he r fun z hz => h z (List.mem_cons_of_mem _ hz)
    exact ⟨s :: ss, rfl⟩

theorem has_ints {f : Nat} {y : D} (h : HasT Try.prog (f + 2) 27 y) : ∃ l : List Int, y = .sl (l.map (.int .i64)) := by
  unfold HasT at h
  rw [Try.underlying27] at h
  obtain ⟨l, rfl, h1, hl⟩ := h
  obtain ⟨ss, rfl⟩ := has_list (fun y hy => by obtain ⟨n, rfl, hn⟩ := has_int hy; exact ⟨n, rfl⟩) l hl
  exact ⟨ss, rfl⟩

theorem has_plate {f : Nat} {y : D} (h : HasT Try.prog (f + 3) 117 y) : ∃ s : Plate, y = s.d := by
  unfold HasT at h
  rw [Try.underlying117] at h
  obtain ⟨l, rfl, h⟩ := h
  simp only [HasFs] at h
  obtain ⟨y1, r1, rfl, h1, y2, r2, rfl, h2, y3, r3, rfl, h3, rfl⟩ := h
  obtain ⟨n1, rfl⟩ := has_sp h1
  obtain ⟨n2, rfl, _⟩ := has_int h2
  obtain ⟨n3, rfl, _⟩ := has_int h3
  exact ⟨⟨n1, n2, n3⟩, rfl⟩

theorem has_bath {f : Nat} {y : D} (h : HasT Try.prog (f + 5) 26 y) : ∃ s : Bath, y = s.d := by
  unfold HasT at h
  rw [Try.underlying26] at h
  obtain ⟨l, rfl, h⟩ := h
  simp only [HasFs] at h
  obtain ⟨y1, r1, rfl, h1, y2, r2, rfl, h2, rfl⟩ := h
  obtain ⟨n1, rfl⟩ := has_sp h1
  unfold HasT at h2
  rw [Try.underlying24] at h2
  obtain ⟨l2, rfl, _, k2⟩ := h2
  obtain ⟨es, rfl⟩ := has_list (fun y hy => has_plate hy) l2 k2
  exact ⟨⟨n1, es⟩, rfl⟩

theorem has_step {f : Nat} {y : D} (h : HasT Try.prog (f + 2) 39 y) : ∃ s : Step, y = s.d := by
  unfold HasT at h
  rw [Try.underlying39] at h
  obtain ⟨l, rfl, h⟩ := h
  simp only [HasFs] at h
  obtain ⟨y1, r1, rfl, h1, y2, r2, rfl, h2, rfl⟩ := h
  obtain ⟨n1, rfl, _⟩ := has_int h1
  obtain ⟨n2, rfl, _⟩ := has_int h2
  exact ⟨⟨n1, n2⟩, rfl⟩

theorem has_steps {f : Nat} {y : D} (h : HasT Try.prog (f + 3) 37 y) : ∃ l : List Step, y = .sl (l.map Step.d) := by
  unfold HasT at h
  rw [Try.underlying37] at h
  obtain ⟨l, rfl, h1, hl⟩ := h
  obtain ⟨ss, rfl⟩ := has_list (fun y hy => has_step hy) l hl
  exact ⟨ss, rfl⟩
end Go.Aw
end

section
set_option maxRecDepth 100000
namespace Go.Aw
open Go Go.Proofs.Try

theorem c80 (p : Plate) (rust str hours : Int) (hp : p.Ok) (hr : 0 ≤ rust ∧ rust ≤ 600) (hs : 0 ≤ str ∧ str ≤ 40) (hh : 0 ≤ hours ∧ hours ≤ 24) : PC prog 80 [.d p.d, .d (.int .i64 rust), .d (.int .i64 str), .d (.int .i64 hours)] (.d (.int .i64 (howP p rust (str * hours)))) := by
  refine PC.run (fun _ => false) tt_ok (fn := f80) (rs := [.tmp 8]) rfl rfl rfl rfl rfl rfl rfl ?_
  simp only [Plate.Ok] at hp
  have hmul : 0 ≤ str * hours ∧ str * hours ≤ 960 := by
    refine ⟨Int.mul_nonneg hs.1 hh.1, ?_⟩
    have := Int.mul_le_mul hs.2 hh.2 hh.1 (by omega : (0 : Int) ≤ 40)
    omega
  have hw : IntKind.i64.wrap (str * hours) = str * hours := w64 (by omega) (by omega)
  have hw2 : IntKind.i64.wrap (rust + p.thin) = rust + p.thin := w64 (by omega) (by omega)
  simp only [go_sem, Plate.d, hw]
  generalize str * hours = loses
  refine Br_split (fun h1 => ?_) (fun h1 => ?_) <;> simp only [go_sem, h1, hw2]
  · have h1' : loses < rust := by simpa using h1
    simp [howP, h1']
  · have h1' : ¬ loses < rust := by simpa using h1
    refine Br_split (fun h2 => ?_) (fun h2 => ?_) <;> simp only [go_sem, h2]
    · have h2' : loses > rust + p.thin := by simpa using h2
      simp [howP, h1', h2']
    · have h2' : ¬ loses > rust + p.thin := by simpa using h2
      simp [howP, h1', h2']

theorem c32 (l : List Step) (hl : l.length ≤ 1000) : PC prog 32 [.d (.sl (l.map Step.d))] (.d (.sl ((platesOf l).map (.int .i64)))) := by
  refine PC.run (fun k => k == 5) tt_ok (fn := f32) (rs := [.tmp 2]) rfl rfl rfl rfl rfl rfl rfl ?_
  simp only [go_sem]
  refine ALoop.by (S := Nat) (fun i => [(4, .d (.int .i64 i)), (3, .ref 0 i 0 i), (0, .d (.sl (l.map Step.d)))]) (fun i => [.arr 1 false ((platesOf (l.take i)).map (.int .i64))]) (fun i => l.length - i) (fun i => i ≤ l.length) 0 (by simp) (fun _ h => nomatch h) (Nat.zero_le _) ?_ ?_
  · exact ForgetTo.same' (by simp) (by simp [EWe, Env.look]) (by simp [platesOf])
  rintro i hi hn
  refine AWP.run (fun k => k == 5) tt_ok (fun _ h => nomatch h) (by simp) rfl ?_
  simp only [go_sem]
  refine Br_split (fun hd => ?_) (fun hd => ?_) <;> simp only [go_sem, hd]
  · have hlt : i < l.length := by simpa using hd
    have hix : idx? (l.map Step.d) (i : Int) = some (l[i]).d := by simp [idx?, List.getElem?_eq_getElem hlt]
    have hst : (platesOf (l.take (i + 1))).map (D.int .i64) = (platesOf (l.take i)).map (D.int .i64) ++ [.int .i64 l[i].plate] := by
      rw [List.take_add_one, List.getElem?_eq_getElem hlt]; simp only [platesOf, List.map_append, Option.toList_some, List.map_cons, List.map_nil]
    have hln : ((platesOf (l.take i)).map (D.int .i64)).length = i := by simp [platesOf]; omega
    have hln2 : (platesOf (l.take i)).length = i := by simp [platesOf]; omega
    have hi1 : i + 1 ≤ 4294967296 := by omega
    generalize l[i] = x at hix hst
    simp only [go_sem, hix, hln, hln2, hi1, Step.d]
    refine ⟨i + 1, hlt, by omega, ?_⟩
    exact ForgetTo.same' (by simp) (by simp [EWe, Env.look, w64 (n := (i : Int) + 1) (by omega) (by omega)]) (by rw [hst])
  · have hie : i = l.length := by simp at hd; omega
    subst hie
    rw [List.take_length]
    have hln : (platesOf l).length = l.length := by simp [platesOf]
    have htk : ((platesOf l).map (D.int .i64)).take l.length = (platesOf l).map (D.int .i64) := List.take_of_length_le (by simp [platesOf])
    simp only [go_sem, hln, htk]
end Go.Aw
end

section
set_option maxRecDepth 100000
namespace Go.Aw
open Go Go.Proofs.Try

/-- How many integers a span has. -/
def nR (p : Plate) : Nat := (p.rust.hi + 1 - p.rust.lo).toNat

/-- Some strengths and rusts by which a plate comes out so. -/
def rowW (p : Plate) (loses : Int) (j : Nat) (h : Int) : Bool := (List.range j).any fun j' => decide (howP p (p.rust.lo + (j' : Int)) loses = h)

def strW (b : Bath) (before : List Int) (p : Plate) (hours : Int) (i : Nat) (h : Int) : Bool := (List.range i).any fun i' => rowW p (weakF b before (b.str.lo + (i' : Int)) * hours) (nR p) h

def nS (b : Bath) : Nat := (b.str.hi + 1 - b.str.lo).toNat

def waysR (b : Bath) (before : List Int) (p : Plate) (hours : Int) : List Int := [1, 2, 3].filter fun h => strW b before p hours (nS b) h

theorem rowW_succ (p : Plate) (loses : Int) (j : Nat) (h : Int) : rowW p loses (j + 1) h = (rowW p loses j h || decide (howP p (p.rust.lo + j) loses = h)) := by
  simp [rowW, List.range_succ, List.any_append]

theorem strW_succ (b : Bath) (before : List Int) (p : Plate) (hours : Int) (i : Nat) (h : Int) : strW b before p hours (i + 1) h = (strW b before p hours i h || rowW p (weakF b before (b.str.lo + i) * hours) (nR p) h) := by
  simp [strW, List.range_succ, List.any_append]

def canB (c : Int → Bool) : Blk := .cells [.d (.bool false), .d (.bool (c 1)), .d (.bool (c 2)), .d (.bool (c 3))]

def pltB (p : Plate) : Blk := .cells [.d (.int .i64 p.rust.lo), .d (.int .i64 p.rust.hi), .d (.int .i64 p.takes), .d (.int .i64 p.thin)]

def bthB (b : Bath) : Blk := .cells [.d (.int .i64 b.str.lo), .d (.int .i64 b.str.hi), .d (.sl (b.plates.map Plate.d))]

/-- The heap of Ways; the two blocks may lie either way. -/
def hpW (b : Bath) (p : Plate) (o : Bool) (c : Int → Bool) : Heap := if o = true then [bthB b, canB c, pltB p] else [bthB b, pltB p, canB c]

def outW (c : Int → Bool) (i : Nat) : List Int := ([1, 2, 3].take i).filter c

theorem outW_len (c : Int → Bool) (i : Nat) : (outW c i).length ≤ 3 := by
  have h1 := List.length_filter_le c (([1, 2, 3] : List Int).take i)
  have h2 := List.length_take_le' i ([1, 2, 3] : List Int)
  simp only [outW]
  simp only [List.length_cons, List.length_nil] at h2
  omega

theorem outW_succ (c : Int → Bool) : ∀ i : Nat, i < 3 → outW c (i + 1) = outW c i ++ (if c ((i : Int) + 1) = true then [(i : Int) + 1] else [])
  | 0, _ => by simp [outW, List.filter_cons]
  | 1, _ => by simp [outW, List.filter_cons]; split <;> rfl
  | 2, _ => by simp [outW, List.filter_cons]; split <;> split <;> rfl

theorem c31 {b : Bath} (hok : b.Ok) (before : List Int) (plate hours : Int) (hl : before.length ≤ 1000) (hm : ∀ p ∈ before, 0 ≤ p ∧ p < b.plates.length) (hp : 0 ≤ plate ∧ plate < b.plates.length) (hh : 1 ≤ hours ∧ hours ≤ 24) :
    PC prog 31 [.d b.d, .d (.sl (before.map (.int .i64))), .d (.int .i64 plate), .d (.int .i64 hours)] (.d (.sl ((waysR b before (b.pl plate) hours).map (.int .i64)))) := by
  have hat := Bath.at (b := b) hp
  have hpl := hok.pl plate
  generalize b.pl plate = p at hat hpl
  have hpl' := hpl
  simp only [Plate.Ok] at hpl'
  obtain ⟨s1, s2, s3, _, _⟩ := id hok
  refine PC.of_body tt_ok (fn := f31) (c := bodyOf f31) (rs := [.tmp 8]) rfl rfl rfl rfl rfl rfl ?_
  refine AWP.stepS (S := Bool) 2 (fun o => [(10, .ptr (if o = true then 2 else 1) 0), (9, .ptr (if o = true then 1 else 2) 0), (4, .ptr 0 0), (3, .d (.int .i64 hours)), (1, .d (.sl (before.map (.int .i64))))])
    (fun o => hpW b p o fun _ => false) (fun _ => True) (fun k => k == 52) tt_ok (fun _ h => nomatch h) (Nat.zero_le _) rfl ?_ ?_
  · simp only [go_sem, Bath.d]
    refine ADrw.treeG (fun k => k == 52) tt_ok (by kernel_rfl) (fun k => if k = 2 then some .L else if k = 8 ∨ k = 9 then some .W else if k = 6 ∨ k = 7 then some .A else some .S)
      (.ones [0, 1, 3] (.three 2 (.ones [4, 5] (.two 6 (.ones [7, 8, 9] .done) 7 (.ones [6, 8, 9] .done))) 6 (.two 2 (.ones [4, 5, 7, 8, 9] .done) 7 (.two 2 (.ones [4, 5, 8, 9] .done) 8 (.ones [2, 4, 5, 9] .done))) 7 (.two 2 (.ones [4, 5, 6, 8, 9] .done) 6 (.two 2 (.ones [4, 5, 8, 9] .done) 8 (.ones [2, 4, 5, 9] .done)))))
      (Nat.zero_le _) (fun _ h => nomatch h) rfl rfl (by kernel_rfl) ?_
    simp only [go_sem, hat, Plate.d]
    repeat' refine And.intro ?_ ?_
    all_goals first
      | (refine ⟨true, ForgetTo.same' ?_ ?_ ?_⟩ <;> simp [EWe, Env.look, hpW, bthB, canB, pltB]; done)
      | (refine ⟨false, ForgetTo.same' ?_ ?_ ?_⟩ <;> simp [EWe, Env.look, hpW, bthB, canB, pltB]; done)
  rintro o - hn0
  have hnr : p.rust.lo + (nR p : Int) = p.rust.hi + 1 := by simp only [nR]; omega
  have hns : b.str.lo + (nS b : Int) = b.str.hi + 1 := by simp only [nS]; omega
  have hf0 : ∀ x : Bool, (x || false) = x := fun x => by simp
  cases o
  · refine AWP.runS (fun k => k == 52) tt_ok (fun _ h => nomatch h) (Nat.zero_le _) rfl ?_
    simp only [go_sem, hpW, bthB, canB, pltB, Bool.false_eq_true, if_false, if_true]
    refine ALoop.by (S := Nat) (fun i => [(11, .d (.int .i64 (b.str.lo + i))), (10, .ptr 1 0), (9, .ptr 2 0), (4, .ptr 0 0), (3, .d (.int .i64 hours)), (1, .d (.sl (before.map (.int .i64))))])
      (fun i => hpW b p false (strW b before p hours i)) (fun i => nS b - i) (fun i => i ≤ nS b) 0 (Nat.zero_le _) (fun _ h => nomatch h) (Nat.zero_le _) ?_ ?_
    · exact ForgetTo.same' (by simp [hpW]) (by simp [EWe, Env.look]) (by simp [hpW, bthB, canB, pltB, strW])
    rintro i hi hn
    refine AWP.run (fun k => k == 52) tt_ok (fun _ h => nomatch h) (Nat.zero_le _) rfl ?_
    simp only [go_sem, hpW, bthB, canB, pltB, Bool.false_eq_true, if_false, if_true]
    refine Br_split (fun hd => ?_) (fun hd => ?_) <;> simp only [go_sem, hd]
    · have hlt : i < nS b := by simp only [decide_eq_true_eq] at hd; omega
      have hwb := weakF_bnd hok before (b.str.lo + i) (by omega) (by omega)
      have hsx : IntKind.i64.wrap (b.str.lo + i + 1) = b.str.lo + ((i + 1 : Nat) : Int) := by rw [w64 (by omega) (by omega)]; omega
      have hss := strW_succ b before p hours i
      refine (c27 hok before (b.str.lo + i) (by omega) (by omega) hm).call rfl rfl rfl ?_
      generalize weakF b before (b.str.lo + i) = now at hwb hss
      generalize strW b before p hours i = c at hss
      simp only [go_sem]
      refine ALoop.by (S := Nat) (fun j => [(13, .d (.int .i64 (p.rust.lo + j))), (12, .d (.int .i64 now)), (11, .d (.int .i64 (b.str.lo + i))), (10, .ptr 1 0), (9, .ptr 2 0), (4, .ptr 0 0), (3, .d (.int .i64 hours)), (1, .d (.sl (before.map (.int .i64))))])
        (fun j => hpW b p false fun h => (c h || rowW p (now * hours) j h)) (fun j => nR p - j) (fun j => j ≤ nR p) 0 (Nat.zero_le _) (fun _ h => nomatch h) (Nat.zero_le _) ?_ ?_
      · exact ForgetTo.same' (by simp [hpW]) (by simp [EWe, Env.look]) (by simp [hpW, bthB, canB, pltB, rowW])
      rintro j hj hnj
      refine AWP.run (fun k => k == 52) tt_ok (fun _ h => nomatch h) (Nat.zero_le _) rfl ?_
      simp only [go_sem, hpW, bthB, canB, pltB, Bool.false_eq_true, if_false, if_true]
      refine Br_split (fun he => ?_) (fun he => ?_) <;> simp only [go_sem, he]
      · have hlt2 : j < nR p := by simp only [decide_eq_true_eq] at he; omega
        have hrx : IntKind.i64.wrap (p.rust.lo + j + 1) = p.rust.lo + ((j + 1 : Nat) : Int) := by rw [w64 (by omega) (by omega)]; omega
        have hrs := rowW_succ p (now * hours) j
        have hin := howP_in p (p.rust.lo + j) (now * hours)
        simp only [go_sem]
        refine (c80 p (p.rust.lo + j) now hours hpl (by omega) (by omega) (by omega)).call rfl rfl rfl ?_
        generalize rowW p (now * hours) j = r at hrs
        generalize howP p (p.rust.lo + j) (now * hours) = v at hrs hin
        rcases hin with rfl | rfl | rfl
        all_goals
          simp only [go_sem]
          refine ⟨j + 1, hlt2, by omega, ?_⟩
          exact ForgetTo.same' (Nat.zero_le _) (by simp [EWe, Env.look, hrx]) (by simp [hpW, bthB, canB, pltB, hrs])
      · have hje : j = nR p := by simp only [decide_eq_false_iff_not] at he; omega
        subst hje
        refine ⟨i + 1, hlt, by omega, ?_⟩
        exact ForgetTo.same' (Nat.zero_le _) (by simp [EWe, Env.look, hsx]) (by simp [hpW, bthB, canB, pltB, hss])
    · have hie : i = nS b := by simp only [decide_eq_false_iff_not] at hd; omega
      subst hie
      have hwr : waysR b before p hours = [1, 2, 3].filter fun h => strW b before p hours (nS b) h := rfl
      rw [hwr]
      generalize strW b before p hours (nS b) = c
      simp only [go_sem]
      refine ALoop.by (S := Nat) (fun i => [(15, .d (.int .i64 ((i : Int) + 1))), (14, .ref 3 (outW c i).length 0 (outW c i).length), (9, .ptr 2 0)])
        (fun i => hpW b p false c ++ [.arr 1 false ((outW c i).map (.int .i64))]) (fun i => 3 - i) (fun i => i ≤ 3) 0 (Nat.zero_le _) (fun _ h => nomatch h) (Nat.zero_le _) ?_ ?_
      · exact ForgetTo.same' (Nat.zero_le _) (by simp [EWe, Env.look, outW]) (by simp [hpW, bthB, canB, pltB, outW])
      rintro i hi3 hni
      refine AWP.run (fun k => k == 52) tt_ok (fun _ h => nomatch h) (Nat.zero_le _) rfl ?_
      simp only [go_sem, hpW, bthB, canB, pltB, Bool.false_eq_true, if_false, if_true]
      refine Br_split (fun he => ?_) (fun he => ?_) <;> simp only [go_sem, he]
      · have hlt2 : (i : Int) + 1 = 1 ∨ (i : Int) + 1 = 2 ∨ (i : Int) + 1 = 3 := by simp only [decide_eq_true_eq] at he; omega
        have hol := outW_len c i
        have hol2 : (outW c i).length + 1 ≤ 4294967296 := by omega
        have hos := outW_succ c i (by omega)
        rcases hlt2 with hz | hz | hz
        all_goals
          rw [hz] at hos
          simp only [go_sem, Int.reduceAdd, hz]
          refine Br_split (fun hg => ?_) (fun hg => ?_) <;> simp only [go_sem, Int.reduceAdd, hg, hol2, List.length_map, hz]
          · refine ⟨i + 1, by omega, by omega, ForgetTo.same' (Nat.zero_le _) ?_ ?_⟩
            · simp [EWe, Env.look, hos, hg, wrap_i2, wrap_i3, wrap_i4, hz]
            · simp [hpW, bthB, canB, pltB, hos, hg]
          · refine ⟨i + 1, by omega, by omega, ForgetTo.same' (Nat.zero_le _) ?_ ?_⟩
            · simp [EWe, Env.look, hos, hg, wrap_i2, wrap_i3, wrap_i4, hz]
            · simp [hpW, bthB, canB, pltB, hos, hg]
      · have hie : i = 3 := by simp only [decide_eq_false_iff_not] at he; omega
        subst hie
        have htk : ((outW c 3).map (D.int .i64)).take (outW c 3).length = (outW c 3).map (D.int .i64) := List.take_of_length_le (by simp)
        simp only [go_sem, htk, List.length_map]
        rfl

  · refine AWP.runS (fun k => k == 52) tt_ok (fun _ h => nomatch h) (Nat.zero_le _) rfl ?_
    simp only [go_sem, hpW, bthB, canB, pltB, Bool.false_eq_true, if_false, if_true]
    refine ALoop.by (S := Nat) (fun i => [(11, .d (.int .i64 (b.str.lo + i))), (10, .ptr 2 0), (9, .ptr 1 0), (4, .ptr 0 0), (3, .d (.int .i64 hours)), (1, .d (.sl (before.map (.int .i64))))])
      (fun i => hpW b p true (strW b before p hours i)) (fun i => nS b - i) (fun i => i ≤ nS b) 0 (Nat.zero_le _) (fun _ h => nomatch h) (Nat.zero_le _) ?_ ?_
    · exact ForgetTo.same' (by simp [hpW]) (by simp [EWe, Env.look]) (by simp [hpW, bthB, canB, pltB, strW])
    rintro i hi hn
    refine AWP.run (fun k => k == 52) tt_ok (fun _ h => nomatch h) (Nat.zero_le _) rfl ?_
    simp only [go_sem, hpW, bthB, canB, pltB, Bool.false_eq_true, if_false, if_true]
    refine Br_split (fun hd => ?_) (fun hd => ?_) <;> simp only [go_sem, hd]
    · have hlt : i < nS b := by simp only [decide_eq_true_eq] at hd; omega
      have hwb := weakF_bnd hok before (b.str.lo + i) (by omega) (by omega)
      have hsx : IntKind.i64.wrap (b.str.lo + i + 1) = b.str.lo + ((i + 1 : Nat) : Int) := by rw [w64 (by omega) (by omega)]; omega
      have hss := strW_succ b before p hours i
      refine (c27 hok before (b.str.lo + i) (by omega) (by omega) hm).call rfl rfl rfl ?_
      generalize weakF b before (b.str.lo + i) = now at hwb hss
      generalize strW b before p hours i = c at hss
      simp only [go_sem]
      refine ALoop.by (S := Nat) (fun j => [(13, .d (.int .i64 (p.rust.lo + j))), (12, .d (.int .i64 now)), (11, .d (.int .i64 (b.str.lo + i))), (10, .ptr 2 0), (9, .ptr 1 0), (4, .ptr 0 0), (3, .d (.int .i64 hours)), (1, .d (.sl (before.map (.int .i64))))])
        (fun j => hpW b p true fun h => (c h || rowW p (now * hours) j h)) (fun j => nR p - j) (fun j => j ≤ nR p) 0 (Nat.zero_le _) (fun _ h => nomatch h) (Nat.zero_le _) ?_ ?_
      · exact ForgetTo.same' (by simp [hpW]) (by simp [EWe, Env.look]) (by simp [hpW, bthB, canB, pltB, rowW])
      rintro j hj hnj
      refine AWP.run (fun k => k == 52) tt_ok (fun _ h => nomatch h) (Nat.zero_le _) rfl ?_
      simp only [go_sem, hpW, bthB, canB, pltB, Bool.false_eq_true, if_false, if_true]
      refine Br_split (fun he => ?_) (fun he => ?_) <;> simp only [go_sem, he]
      · have hlt2 : j < nR p := by simp only [decide_eq_true_eq] at he; omega
        have hrx : IntKind.i64.wrap (p.rust.lo + j + 1) = p.rust.lo + ((j + 1 : Nat) : Int) := by rw [w64 (by omega) (by omega)]; omega
        have hrs := rowW_succ p (now * hours) j
        have hin := howP_in p (p.rust.lo + j) (now * hours)
        simp only [go_sem]
        refine (c80 p (p.rust.lo + j) now hours hpl (by omega) (by omega) (by omega)).call rfl rfl rfl ?_
        generalize rowW p (now * hours) j = r at hrs
        generalize howP p (p.rust.lo + j) (now * hours) = v at hrs hin
        rcases hin with rfl | rfl | rfl
        all_goals
          simp only [go_sem]
          refine ⟨j + 1, hlt2, by omega, ?_⟩
          exact ForgetTo.same' (Nat.zero_le _) (by simp [EWe, Env.look, hrx]) (by simp [hpW, bthB, canB, pltB, hrs])
      · have hje : j = nR p := by simp only [decide_eq_false_iff_not] at he; omega
        subst hje
        refine ⟨i + 1, hlt, by omega, ?_⟩
        exact ForgetTo.same' (Nat.zero_le _) (by simp [EWe, Env.look, hsx]) (by simp [hpW, bthB, canB, pltB, hss])
    · have hie : i = nS b := by simp only [decide_eq_false_iff_not] at hd; omega
      subst hie
      have hwr : waysR b before p hours = [1, 2, 3].filter fun h => strW b before p hours (nS b) h := rfl
      rw [hwr]
      generalize strW b before p hours (nS b) = c
      simp only [go_sem]
      refine ALoop.by (S := Nat) (fun i => [(15, .d (.int .i64 ((i : Int) + 1))), (14, .ref 3 (outW c i).length 0 (outW c i).length), (9, .ptr 1 0)])
        (fun i => hpW b p true c ++ [.arr 1 false ((outW c i).map (.int .i64))]) (fun i => 3 - i) (fun i => i ≤ 3) 0 (Nat.zero_le _) (fun _ h => nomatch h) (Nat.zero_le _) ?_ ?_
      · exact ForgetTo.same' (Nat.zero_le _) (by simp [EWe, Env.look, outW]) (by simp [hpW, bthB, canB, pltB, outW])
      rintro i hi3 hni
      refine AWP.run (fun k => k == 52) tt_ok (fun _ h => nomatch h) (Nat.zero_le _) rfl ?_
      simp only [go_sem, hpW, bthB, canB, pltB, Bool.false_eq_true, if_false, if_true]
      refine Br_split (fun he => ?_) (fun he => ?_) <;> simp only [go_sem, he]
      · have hlt2 : (i : Int) + 1 = 1 ∨ (i : Int) + 1 = 2 ∨ (i : Int) + 1 = 3 := by simp only [decide_eq_true_eq] at he; omega
        have hol := outW_len c i
        have hol2 : (outW c i).length + 1 ≤ 4294967296 := by omega
        have hos := outW_succ c i (by omega)
        rcases hlt2 with hz | hz | hz
        all_goals
          rw [hz] at hos
          simp only [go_sem, Int.reduceAdd, hz]
          refine Br_split (fun hg => ?_) (fun hg => ?_) <;> simp only [go_sem, Int.reduceAdd, hg, hol2, List.length_map, hz]
          · refine ⟨i + 1, by omega, by omega, ForgetTo.same' (Nat.zero_le _) ?_ ?_⟩
            · simp [EWe, Env.look, hos, hg, wrap_i2, wrap_i3, wrap_i4, hz]
            · simp [hpW, bthB, canB, pltB, hos, hg]
          · refine ⟨i + 1, by omega, by omega, ForgetTo.same' (Nat.zero_le _) ?_ ?_⟩
            · simp [EWe, Env.look, hos, hg, wrap_i2, wrap_i3, wrap_i4, hz]
            · simp [hpW, bthB, canB, pltB, hos, hg]
      · have hie : i = 3 := by simp only [decide_eq_false_iff_not] at he; omega
        subst hie
        have htk : ((outW c 3).map (D.int .i64)).take (outW c 3).length = (outW c 3).map (D.int .i64) := List.take_of_length_le (by simp)
        simp only [go_sem, htk, List.length_map]
        rfl
end Go.Aw
end

section
set_option maxRecDepth 100000
namespace Go.Aw
open Go Go.Proofs.Try

theorem stepM_mem (p : Plate) (M : List Int) (loses h : Int) : h ∈ stepM p M loses ↔ h ∈ M ∨ h = howP p p.rust.lo loses ∨ h = howP p p.rust.hi loses ∨ (loses ≥ p.rust.lo ∧ loses ≤ p.rust.hi + p.thin ∧ h = 2) := by
  unfold stepM
  split
  · rename_i hc
    simp only [Bool.and_eq_true, decide_eq_true_eq] at hc
    rw [insM_mem, insM_mem, insM_mem]
    constructor
    · rintro (((h | h) | h) | h)
      · exact .inl h
      · exact .inr (.inl h)
      · exact .inr (.inr (.inl h))
      · exact .inr (.inr (.inr ⟨hc.1, hc.2, h⟩))
    · rintro (h | h | h | h)
      · exact .inl (.inl (.inl h))
      · exact .inl (.inl (.inr h))
      · exact .inl (.inr h)
      · exact .inr h.2.2
  · rename_i hc
    simp only [Bool.and_eq_true, decide_eq_true_eq] at hc
    rw [insM_mem, insM_mem]
    constructor
    · rintro ((h | h) | h)
      · exact .inl h
      · exact .inr (.inl h)
      · exact .inr (.inr (.inl h))
    · rintro (h | h | h | h)
      · exact .inl (.inl h)
      · exact .inl (.inr h)
      · exact .inr h
      · exact absurd ⟨h.1, h.2.1⟩ hc

theorem rowW_iff {p : Plate} (hp : p.Ok) (loses h : Int) : rowW p loses (nR p) h = true ↔ h = howP p p.rust.lo loses ∨ h = howP p p.rust.hi loses ∨ (loses ≥ p.rust.lo ∧ loses ≤ p.rust.hi + p.thin ∧ h = 2) := by
  simp only [Plate.Ok] at hp
  simp only [rowW, List.any_eq_true, List.mem_range, decide_eq_true_eq]
  have hnr : p.rust.lo + (nR p : Int) = p.rust.hi + 1 := by simp only [nR]; omega
  constructor
  · rintro ⟨j, hj, rfl⟩
    unfold howP
    repeat' split
    all_goals omega
  · have mk : ∀ r : Int, p.rust.lo ≤ r → r ≤ p.rust.hi → h = howP p r loses → ∃ j : Nat, j < nR p ∧ howP p (p.rust.lo + j) loses = h := fun r h1 h2 h3 =>
      ⟨(r - p.rust.lo).toNat, by omega, by rw [show p.rust.lo + ((r - p.rust.lo).toNat : Int) = r by omega, h3]⟩
    rintro (h1 | h1 | ⟨h1, h2, h3⟩)
    · exact mk p.rust.lo (by omega) (by omega) h1
    · exact mk p.rust.hi (by omega) (by omega) h1
    · refine mk (min p.rust.hi loses) (by omega) (by omega) ?_
      rw [h3]
      unfold howP
      repeat' split
      all_goals omega

theorem canM_mem (b : Bath) (x : Step) (fell h : Int) : ∀ n, h ∈ canM b x fell n ↔ ∃ i, i < n ∧ (h = howP (b.pl x.plate) (b.pl x.plate).rust.lo (losesAt b x fell i) ∨ h = howP (b.pl x.plate) (b.pl x.plate).rust.hi (losesAt b x fell i) ∨ (losesAt b x fell i ≥ (b.pl x.plate).rust.lo ∧ losesAt b x fell i ≤ (b.pl x.plate).rust.hi + (b.pl x.plate).thin ∧ h = 2))
  | 0 => by simp [canM]
  | n + 1 => by
    rw [canM_succ, stepM_mem, canM_mem b x fell h n]
    constructor
    · rintro (⟨i, hi, hh⟩ | hh)
      · exact ⟨i, by omega, hh⟩
      · exact ⟨n, by omega, hh⟩
    · rintro ⟨i, hi, hh⟩
      by_cases h2 : i = n
      · subst h2; exact .inr hh
      · exact .inl ⟨i, by omega, hh⟩

theorem ways_eq {b : Bath} (hok : b.Ok) (before : List Int) (x : Step) : waysL b x (fellF b before) = waysR b before (b.pl x.plate) x.hours := by
  have hn : nStr b = nS b := by simp only [nStr, nS]; congr 1; omega
  unfold waysL waysR
  congr 1
  funext h
  rw [hn, Bool.eq_iff_iff, List.contains_iff_mem, canM_mem]
  simp only [strW, List.any_eq_true, List.mem_range]
  have hb := hok.1
  constructor
  · rintro ⟨i, hi, hh⟩
    refine ⟨i, hi, ?_⟩
    rw [weak_aft hok before _ (by omega)]
    exact (rowW_iff (hok.pl x.plate) _ _).2 hh
  · rintro ⟨i, hi, hh⟩
    refine ⟨i, hi, ?_⟩
    rw [weak_aft hok before _ (by omega)] at hh
    exact (rowW_iff (hok.pl x.plate) _ _).1 hh
theorem c4 (b : Bath) (l : List Step) : PC prog 4 [.d b.d, .d (.sl (l.map Step.d))] (.d (.bool true)) := by
  refine PC.run (fun _ => false) tt_ok (fn := f4) (rs := [.tmp 4]) rfl rfl rfl rfl rfl rfl rfl ?_
  simp only [go_sem, Bath.d]
  refine Br_split (fun h1 => ?_) (fun h1 => ?_) <;> simp only [go_sem, h1]
  · refine c17.call rfl rfl rfl ?_
    simp only [go_sem, h1]
  refine Br_split (fun h2 => ?_) (fun h2 => ?_) <;> simp only [go_sem, h1, h2]
  · refine c17.call rfl rfl rfl ?_
    simp only [go_sem, h1, h2]
  have hb : b.plates.length ≤ 20 := by simp only [decide_eq_false_iff_not] at h1; omega
  have hl : l.length ≤ 20 := by simp only [decide_eq_false_iff_not] at h2; omega
  refine (c18 b (by omega)).call rfl rfl rfl ?_
  have hle : l.length ≤ 4294967296 := by omega
  have hsz := sized_steps l
  simp only [go_sem, h1, h2, Bath.d, hle, hsz, List.length_map, List.nil_append, Nat.zero_add]
  refine (c28 b l (by omega) (by omega)).call rfl rfl rfl ?_
  simp only [go_sem, h1, h2]
  refine (c22 b b (by omega) (by omega)).call rfl rfl rfl ?_
  have hd0 : ∀ {α : Type} [DecidableEq α] (l : α), decide (l = l) = true := fun l => by simp
  simp only [go_sem, h1, h2, hd0]
  refine (c29 l l (by omega) (by omega)).call rfl rfl rfl ?_
  simp only [go_sem, h1, h2, hd0]
  refine (c21 b (by omega)).call rfl rfl rfl ?_
  simp only [go_sem, h1, h2]
  refine Br_split (fun h0 => ?_) (fun h0 => ?_) <;> simp only [go_sem, h0]
  · have hc0 : checkP b = 0 := by simpa using h0
    have hok := checkP_iff.1 hc0
    refine (c25 b l (by omega) (by omega)).call rfl rfl rfl ?_
    simp only [go_sem, h0]
    refine Br_split (fun h3 => ?_) (fun h3 => ?_) <;> simp only [go_sem, h0, h3]
    · have h3' : ¬ stepsOk b.plates.length 0 l = true := by simpa using h3
      have hsp : outP b l = ([], 4) := by simp [outP, hc0, h3']
      simp only [go_sem, h0, h3, hsp, List.map_nil, List.length_nil]
      refine c17.call rfl rfl rfl ?_
      simp only [go_sem, h0, h3, hsp]
    · have h3' : stepsOk b.plates.length 0 l = true := by simpa using h3
      have hsp : outP b l = (outL b l l.length, 0) := by simp [outP, hc0, h3']
      have hmem := stepsOk_mem h3'
      simp only [go_sem, h0, h3, hc0, hsp, outL_len, hd0]
      refine ALoop.by (S := Nat) (fun i => [(10, .d (.int .i64 i)), (7, .d (.sl ((outL b l l.length).map intsD))), (2, .ptr 0 0), (1, .d (.sl (l.map Step.d)))])
        (fun i => [bthB b]) (fun i => l.length - i) (fun i => i ≤ l.length) 0 (by simp) (fun _ h => nomatch h) (Nat.zero_le _) ?_ ?_
      · refine ForgetTo.drop (H0 := [_]) (Y := [_]) (Nat.zero_le _) rfl (by simp [BBs, BB, VBs, VB, bthB]) ?_
        simp [EWp, Env.look, pubV]
      rintro i hi2 hn2
      refine AWP.run (fun _ => false) tt_ok (fun _ h => nomatch h) (by simp) rfl ?_
      simp only [go_sem, bthB]
      refine Br_split (fun he => ?_) (fun he => ?_) <;> simp only [go_sem, he]
      · have hlt : i < l.length := by simpa using he
        have hgx : l[i]? = some l[i] := List.getElem?_eq_getElem hlt
        have hgd : l.getD i ⟨0, 0⟩ = l[i] := by rw [List.getD_eq_getElem?_getD, hgx]; rfl
        have hix : idx? ((outL b l l.length).map intsD) (i : Int) = some (intsD (waysL b l[i] (fellF b ((platesOf l).take i)))) := by
          rw [idx_nat, List.getElem?_map, outL, List.getElem?_map, List.getElem?_range hlt]; simp only [Option.map_some, hgd]
        have hiy : idx? (l.map Step.d) (i : Int) = some (l[i]).d := by simp [idx?, List.getElem?_eq_getElem hlt]
        have hpt : platesOf (l.take i) = (platesOf l).take i := by simp [platesOf, List.map_take]
        have hwe := ways_eq hok ((platesOf l).take i) l[i]
        rw [hwe] at hix
        obtain ⟨m1, m2⟩ := hmem _ (List.getElem_mem hlt)
        have hmt : ∀ p ∈ (platesOf l).take i, 0 ≤ p ∧ p < b.plates.length := fun p hp => by
          obtain ⟨x, hx, rfl⟩ := List.mem_map.1 (List.mem_of_mem_take hp)
          exact (hmem x hx).1
        generalize l[i] = x at hix hiy m1 m2
        have hsz2 : sized 2 (l.map Step.d) = true := sized_steps l
        have hlen1 : (l.map Step.d).length = l.length := by simp
        have c1 : (0 : Int) ≤ (i : Int) := by omega
        have c0 : 0 ≤ i := Nat.zero_le _
        refine ADrw.treeG (fun _ => false) tt_ok (by kernel_rfl) (fun k => if k = 4 then some .L else some .S) (.ones [0, 1, 2, 3, 4, 5, 6, 7, 8, 9, 10, 11, 12, 13, 14, 15, 16, 17, 18, 19, 20, 21] .done) (by simp) (fun _ h => nomatch h) rfl rfl (by kernel_rfl) ?_
        simp only [go_sem, hix, hiy, intsD, Step.d, c1, c0, hi2, Int.toNat_natCast, hsz2, hlen1, if_true, Nat.zero_le, true_and, and_self, and_true, List.drop_zero]
        refine (c32 (l.take i) (by simp; omega)).callS (by simp [dz, List.map_take]) rfl rfl rfl rfl rfl ?_
        rw [hpt]
        simp only [go_sem, hix, hiy, intsD, Step.d, c1, c0]
        have hpl : (platesOf l).length = l.length := by simp [platesOf]
        refine (c31 hok ((platesOf l).take i) x.plate x.hours (by simp [hpl]; omega) hmt m1 m2).callS rfl rfl rfl rfl rfl rfl ?_
        simp only [go_sem, hix, hiy, intsD, Step.d, c1, c0]
        have hw3 : (waysR b ((platesOf l).take i) (b.pl x.plate) x.hours).length ≤ 3 := outW_len _ 3
        refine (c30 (waysR b ((platesOf l).take i) (b.pl x.plate) x.hours) (waysR b ((platesOf l).take i) (b.pl x.plate) x.hours) (by omega) (by omega)).callS rfl rfl rfl rfl rfl rfl ?_
        simp only [go_sem, hd0, hix, hiy, intsD, Step.d, c1, c0]
        refine ⟨i + 1, hlt, by omega, ?_⟩
        exact ForgetTo.same' (by simp) (by simp [EWe, Env.look, w64 (n := (i : Int) + 1) (by omega) (by omega)]) rfl
      · refine c17.call rfl rfl rfl ?_
        simp only [go_sem, he]
  · have hc0 : ¬ checkP b = 0 := by simpa using h0
    have hsp : outP b l = ([], checkP b) := by simp [outP, hc0]
    simp only [go_sem, h0, hsp, List.map_nil, List.length_nil, hd0]
    refine c17.call rfl rfl rfl ?_
    simp only [go_sem, h0, hsp]
end Go.Aw
end

section
set_option maxRecDepth 100000
namespace Go.Aw
open Go Go.Proofs.Try

def hourStep (P : Int → Bool) (s : Sp) (n : Nat) : Sp := if P ((n : Int) + 1) = true then (if s.lo = 0 then ⟨(n : Int) + 1, (n : Int) + 1⟩ else ⟨s.lo, (n : Int) + 1⟩) else s

def hourUp (P : Int → Bool) (n : Nat) : Sp := (List.range n).foldl (hourStep P) ⟨0, 0⟩

theorem hourUp_succ (P : Int → Bool) (n : Nat) : hourUp P (n + 1) = hourStep P (hourUp P n) n := by
  rw [hourUp, List.range_succ, List.foldl_append]; rfl

def isGood (b : Bath) (before : List Int) (p : Plate) (h : Int) : Bool := decide (waysR b before p h = [2])

def hoursR (b : Bath) (before : List Int) (p : Plate) : Sp := hourUp (isGood b before p) 24

theorem c36 {b : Bath} (hok : b.Ok) (before : List Int) (plate : Int) (hl : before.length ≤ 1000) (hm : ∀ p ∈ before, 0 ≤ p ∧ p < b.plates.length) (hp : 0 ≤ plate ∧ plate < b.plates.length) :
    PC prog 36 [.d b.d, .d (.sl (before.map (.int .i64))), .d (.int .i64 plate)] (.d (hoursR b before (b.pl plate)).d) := by
  refine PC.run (fun _ => false) tt_ok (fn := f36) (rs := [.cell 6 23]) rfl rfl rfl rfl rfl rfl rfl ?_
  simp only [go_sem, Bath.d]
  refine ALoop.by (S := Nat) (fun i => [(8, .d (.int .i64 ((i : Int) + 1))), (7, .ptr 2 0), (6, .ptr 1 0), (3, .ptr 0 0), (2, .d (.int .i64 plate)), (1, .d (.sl (before.map (.int .i64))))])
    (fun i => [bthB b, .cells [.d (.int .i64 0), .d (.int .i64 0)], .cells [.d (.int .i64 (hourUp (isGood b before (b.pl plate)) i).lo), .d (.int .i64 (hourUp (isGood b before (b.pl plate)) i).hi)]]) (fun i => 24 - i) (fun i => i ≤ 24) 0 (by simp) (fun _ h => nomatch h) (Nat.zero_le _) ?_ ?_
  · exact ForgetTo.same' (by simp) (by simp [EWe, Env.look]) (by simp [bthB, hourUp])
  rintro i hi hn
  refine AWP.run (fun _ => false) tt_ok (fun _ h => nomatch h) (by simp) rfl ?_
  simp only [go_sem, bthB]
  refine Br_split (fun hd => ?_) (fun hd => ?_) <;> simp only [go_sem, hd]
  · have hlt : i < 24 := by simp only [decide_eq_true_eq] at hd; omega
    have hst := hourUp_succ (isGood b before (b.pl plate)) i
    have hnx : IntKind.i64.wrap ((i : Int) + 1 + 1) = ((i + 1 : Nat) : Int) + 1 := by rw [w64 (by omega) (by omega)]; omega
    refine (c31 hok before plate ((i : Int) + 1) hl hm hp (by omega)).call rfl rfl rfl ?_
    have hg : isGood b before (b.pl plate) ((i : Int) + 1) = decide (waysR b before (b.pl plate) ((i : Int) + 1) = [2]) := rfl
    generalize waysR b before (b.pl plate) ((i : Int) + 1) = ws at hg
    simp only [hourStep, hg] at hst
    generalize hourUp (isGood b before (b.pl plate)) i = s at hst
    have skip : ws ≠ [2] → hourUp (isGood b before (b.pl plate)) (i + 1) = s := fun h => by rw [hst, if_neg (by simpa using h)]
    by_cases hw1 : ws.length = 1
    · obtain ⟨a, rfl⟩ := List.length_eq_one_iff.1 hw1
      simp only [go_sem, List.map_cons, List.map_nil, List.length_cons, List.length_nil]
      refine Br_split (fun h1 => ?_) (fun h1 => ?_) <;> simp only [go_sem, h1]
      · have ha : a = 2 := by simpa using h1
        rw [if_pos (by simp [ha])] at hst
        refine Br_split (fun h2 => ?_) (fun h2 => ?_) <;> simp only [go_sem, h2]
        · have h2' : s.lo = 0 := by simpa using h2
          rw [if_pos h2'] at hst
          refine ⟨i + 1, hlt, by omega, ?_⟩
          exact ForgetTo.same' (by simp) (by simp [EWe, Env.look, hnx]) (by rw [hst])
        · have h2' : ¬ s.lo = 0 := by simpa using h2
          rw [if_neg h2'] at hst
          refine ⟨i + 1, hlt, by omega, ?_⟩
          exact ForgetTo.same' (by simp) (by simp [EWe, Env.look, hnx]) (by rw [hst])
      · have ha : ¬ a = 2 := by simpa using h1
        have hsk := skip (by simp [ha])
        refine ⟨i + 1, hlt, by omega, ?_⟩
        exact ForgetTo.same' (by simp) (by simp [EWe, Env.look, hnx]) (by rw [hsk])
    · have hsk := skip (fun e => hw1 (by rw [e]; rfl))
      have hne : decide ((ws.length : Int) = 1) = false := by simp; omega
      simp only [go_sem, List.length_map, hne]
      refine ⟨i + 1, hlt, by omega, ?_⟩
      exact ForgetTo.same' (by simp) (by simp [EWe, Env.look, hnx]) (by rw [hsk])
  · have hie : i = 24 := by simp only [decide_eq_false_iff_not] at hd; omega
    subst hie
    simp [hoursR, Sp.d]

/-! ### The law -/

theorem hourUp_iv {P : Int → Bool} {L H : Int} (hL : 1 ≤ L) (hP : ∀ h : Int, 1 ≤ h → h ≤ 24 → (P h = true ↔ L ≤ h ∧ h ≤ H)) : ∀ n : Nat, n ≤ 24 → hourUp P n = if L ≤ min (n : Int) H then ⟨L, min (n : Int) H⟩ else ⟨0, 0⟩
  | 0, _ => by
    rw [if_neg (by omega)]
    rfl
  | n + 1, hn => by
    rw [hourUp_succ, hourUp_iv hL hP n (by omega), hourStep]
    have h1 := hP ((n : Int) + 1) (by omega) (by omega)
    by_cases hp : P ((n : Int) + 1) = true
    · rw [if_pos hp]
      obtain ⟨h2, h3⟩ := h1.1 hp
      have h6 : L ≤ min ((n + 1 : Nat) : Int) H := by omega
      rw [if_pos h6]
      by_cases h4 : L ≤ min (n : Int) H
      · simp only [if_pos h4]
        rw [if_neg (by omega)]
        simp; omega
      · simp only [if_neg h4, if_true]
        simp; omega
    · rw [if_neg hp]
      have h5 : ¬ (L ≤ (n : Int) + 1 ∧ (n : Int) + 1 ≤ H) := fun h => hp (h1.2 h)
      by_cases h4 : L ≤ min (n : Int) H
      · rw [if_pos h4, if_pos (by omega)]
        simp; omega
      · rw [if_neg h4, if_neg (by omega)]

theorem filter_two (c : Int → Bool) : [1, 2, 3].filter c = [2] ↔ c 1 = false ∧ c 2 = true ∧ c 3 = false := by
  cases h1 : c 1 <;> cases h2 : c 2 <;> cases h3 : c 3 <;> simp [List.filter_cons, h1, h2, h3]

theorem howP_two {p : Plate} {rust loses : Int} : howP p rust loses = 2 ↔ rust ≤ loses ∧ loses ≤ rust + p.thin := by
  unfold howP
  repeat' split
  all_goals omega

theorem good_iff {b : Bath} (hok : b.Ok) (before : List Int) (q : Int) {h : Int} (hh : 1 ≤ h) :
    isGood b before (b.pl q) h = true ↔ (b.pl q).rust.hi ≤ (aftS (fellF b before) b.str).lo * h ∧ (aftS (fellF b before) b.str).hi * h ≤ (b.pl q).rust.lo + (b.pl q).thin := by
  have hp := hok.pl q
  generalize b.pl q = p at hp
  have hp' := hp
  simp only [Plate.Ok] at hp'
  obtain ⟨s1, s2, s3, _, _⟩ := id hok
  have hns : b.str.lo + (nS b : Int) = b.str.hi + 1 := by simp only [nS]; omega
  have hfn := fellF_nn hok before
  simp only [isGood, decide_eq_true_eq, waysR, filter_two]
  have hW : ∀ x : Int, strW b before p h (nS b) x = true ↔ ∃ i : Nat, i < nS b ∧ (x = howP p p.rust.lo (aft (fellF b before) (b.str.lo + i) * h) ∨ x = howP p p.rust.hi (aft (fellF b before) (b.str.lo + i) * h) ∨ (aft (fellF b before) (b.str.lo + i) * h ≥ p.rust.lo ∧ aft (fellF b before) (b.str.lo + i) * h ≤ p.rust.hi + p.thin ∧ x = 2)) := fun x => by
    simp only [strW, List.any_eq_true, List.mem_range]
    constructor
    · rintro ⟨i, hi, hx⟩
      rw [weak_aft hok before _ (by omega)] at hx
      exact ⟨i, hi, (rowW_iff hp _ _).1 hx⟩
    · rintro ⟨i, hi, hx⟩
      refine ⟨i, hi, ?_⟩
      rw [weak_aft hok before _ (by omega)]
      exact (rowW_iff hp _ _).2 hx
  have hN : ∀ x : Int, strW b before p h (nS b) x = false ↔ ¬ (strW b before p h (nS b) x = true) := fun x => by simp
  rw [hN 1, hN 3, hW 1, hW 2, hW 3]
  simp only [aftS]
  generalize fellF b before = F at hfn
  have mono : ∀ i : Nat, i < nS b → aft F b.str.lo * h ≤ aft F (b.str.lo + i) * h ∧ aft F (b.str.lo + i) * h ≤ aft F b.str.hi * h := fun i hi =>
    ⟨Int.mul_le_mul_of_nonneg_right (by simp only [aft]; omega) (by omega), Int.mul_le_mul_of_nonneg_right (by simp only [aft]; omega) (by omega)⟩
  constructor
  · rintro ⟨n1, _, n3⟩
    have key : ∀ i : Nat, i < nS b → p.rust.hi ≤ aft F (b.str.lo + i) * h ∧ aft F (b.str.lo + i) * h ≤ p.rust.lo + p.thin := fun i hi => by
      have k1 := howP_in p p.rust.lo (aft F (b.str.lo + i) * h)
      have k2 := howP_in p p.rust.hi (aft F (b.str.lo + i) * h)
      have e1 : howP p p.rust.lo (aft F (b.str.lo + i) * h) = 2 := by
        rcases k1 with k | k | k
        · exact absurd ⟨i, hi, .inl k.symm⟩ n1
        · exact k
        · exact absurd ⟨i, hi, .inl k.symm⟩ n3
      have e2 : howP p p.rust.hi (aft F (b.str.lo + i) * h) = 2 := by
        rcases k2 with k | k | k
        · exact absurd ⟨i, hi, .inr (.inl k.symm)⟩ n1
        · exact k
        · exact absurd ⟨i, hi, .inr (.inl k.symm)⟩ n3
      exact ⟨(howP_two.1 e2).1, (howP_two.1 e1).2⟩
    have a0 := key 0 (by omega)
    have a1 := key (nS b - 1) (by omega)
    rw [show b.str.lo + ((0 : Nat) : Int) = b.str.lo by omega] at a0
    rw [show b.str.lo + ((nS b - 1 : Nat) : Int) = b.str.hi by omega] at a1
    exact ⟨a0.1, a1.2⟩
  · rintro ⟨g1, g2⟩
    have key : ∀ i : Nat, i < nS b → howP p p.rust.lo (aft F (b.str.lo + i) * h) = 2 ∧ howP p p.rust.hi (aft F (b.str.lo + i) * h) = 2 := fun i hi => by
      have := mono i hi
      exact ⟨howP_two.2 (by omega), howP_two.2 (by omega)⟩
    refine ⟨?_, ⟨0, by omega, .inl (key 0 (by omega)).1.symm⟩, ?_⟩
    · rintro ⟨i, hi, hx⟩
      obtain ⟨e1, e2⟩ := key i hi
      omega
    · rintro ⟨i, hi, hx⟩
      obtain ⟨e1, e2⟩ := key i hi
      omega

theorem hours_up {P : Int → Bool} {A B : Int} {p : Plate} (hp : p.Ok) (hA : 0 ≤ A ∧ A ≤ B) (hg : ∀ h : Int, 1 ≤ h → (P h = true ↔ p.rust.hi ≤ A * h ∧ B * h ≤ p.rust.lo + p.thin)) :
    hourUp P 24 = if A ≤ 0 ∧ 0 < p.rust.hi then ⟨0, 0⟩ else if (if 0 < A then max 1 ((p.rust.hi + A - 1).tdiv A) else 1) ≤ (if 0 < B then min 24 ((p.rust.lo + p.thin).tdiv B) else 24) then
      ⟨if 0 < A then max 1 ((p.rust.hi + A - 1).tdiv A) else 1, if 0 < B then min 24 ((p.rust.lo + p.thin).tdiv B) else 24⟩ else ⟨0, 0⟩ := by
  simp only [Plate.Ok] at hp
  by_cases h0 : A ≤ 0 ∧ 0 < p.rust.hi
  · rw [if_pos h0, hourUp_iv (L := 25) (H := 24) (by omega) (fun h hh _ => by
      rw [hg h hh, show A = 0 by omega]
      constructor
      · rintro ⟨k, _⟩; simp at k; omega
      · omega) 24 (Nat.le_refl _)]
    rfl
  · rw [if_neg h0]
    have hlo : ∀ h : Int, 1 ≤ h → (p.rust.hi ≤ A * h ↔ (if 0 < A then max 1 ((p.rust.hi + A - 1).tdiv A) else 1) ≤ h) := fun h hh => by
      by_cases hA0 : 0 < A
      · rw [if_pos hA0, Int.tdiv_eq_ediv_of_nonneg (by omega)]
        have := Int.ediv_lt_iff_lt_mul (a := p.rust.hi + A - 1) (b := h + 1) hA0
        rw [Int.add_mul, Int.mul_comm h A] at this
        omega
      · rw [if_neg hA0, show A = 0 by omega]
        simp; omega
    have hhi : ∀ h : Int, 1 ≤ h → h ≤ 24 → (B * h ≤ p.rust.lo + p.thin ↔ h ≤ (if 0 < B then min 24 ((p.rust.lo + p.thin).tdiv B) else 24)) := fun h hh h24 => by
      by_cases hB0 : 0 < B
      · rw [if_pos hB0, Int.tdiv_eq_ediv_of_nonneg (by omega)]
        have := Int.le_ediv_iff_mul_le (a := h) (b := p.rust.lo + p.thin) hB0
        rw [Int.mul_comm h B] at this
        omega
      · rw [if_neg hB0, show B = 0 by omega]
        simp; omega
    have hL1 : 1 ≤ (if 0 < A then max 1 ((p.rust.hi + A - 1).tdiv A) else 1) := by split <;> omega
    have hH24 : (if 0 < B then min 24 ((p.rust.lo + p.thin).tdiv B) else 24) ≤ 24 := by split <;> omega
    generalize (if 0 < A then max 1 ((p.rust.hi + A - 1).tdiv A) else 1) = L at hlo hL1
    generalize (if 0 < B then min 24 ((p.rust.lo + p.thin).tdiv B) else 24) = H at hhi hH24
    rw [hourUp_iv (L := L) (H := H) hL1 (fun h hh h24 => by rw [hg h hh, hlo h hh, hhi h hh h24]) 24 (Nat.le_refl _)]
    rw [show min ((24 : Nat) : Int) H = H by omega]

theorem hours_eq {b : Bath} (hok : b.Ok) (before : List Int) (q : Int) : hoursR b before (b.pl q) = if (hoursW b q (fellF b before)).2 = true then (hoursW b q (fellF b before)).1 else ⟨0, 0⟩ := by
  obtain ⟨s1, s2, s3, _, _⟩ := id hok
  have hA : 0 ≤ (aftS (fellF b before) b.str).lo ∧ (aftS (fellF b before) b.str).lo ≤ (aftS (fellF b before) b.str).hi := by simp only [aftS, aft]; omega
  rw [hoursR, hours_up (hok.pl q) hA (fun h hh => good_iff hok before q hh)]
  unfold hoursW hourLo hourHi
  split
  · simp
  · simp only [decide_eq_true_eq]
end Go.Aw
end

section
set_option maxRecDepth 100000
namespace Go.Aw
open Go Go.Proofs.Try

def doneF (d : Nat) (l : List Step) : Nat := l.foldl (fun d x => d ||| 2 ^ x.plate.toNat) d

theorem stepsOk_append (np : Nat) : ∀ (l r : List Step) (d : Nat), stepsOk np d (l ++ r) = (stepsOk np d l && stepsOk np (doneF d l) r)
  | [], r, d => by simp [stepsOk, doneF]
  | x :: l, r, d => by
    simp only [List.cons_append, stepsOk]
    split
    · simp
    · rw [stepsOk_append np l r]; rfl

theorem doneF_bit : ∀ (l : List Step) (d q : Nat), (doneF d l).testBit q = (d.testBit q || decide (q ∈ l.map fun x => x.plate.toNat))
  | [], d, q => by simp [doneF]
  | x :: l, d, q => by
    have : doneF d (x :: l) = doneF (d ||| 2 ^ x.plate.toNat) l := rfl
    rw [this, doneF_bit l, Nat.testBit_or, Nat.testBit_two_pow, Bool.eq_iff_iff]
    simp only [Bool.or_eq_true, decide_eq_true_eq, List.map_cons, List.mem_cons]
    have : x.plate.toNat = q ↔ q = x.plate.toNat := eq_comm
    rw [this, or_assoc]

theorem stepsOk_more {np : Nat} {l : List Step} (h : stepsOk np 0 l = true) (plate : Int) : stepsOk np 0 (l ++ [⟨plate, 1⟩]) = (within 0 ((np : Int) - 1) [plate] && !decide (plate ∈ platesOf l)) := by
  rw [stepsOk_append, h, Bool.true_and]
  simp only [stepsOk, stepBad, doneF_bit, Nat.zero_testBit, Bool.false_or]
  have h1 : within 1 24 [(1 : Int)] = true := by decide
  rw [h1]
  cases hw : within 0 ((np : Int) - 1) [plate] with
  | false => simp
  | true =>
    have hp := within_one.1 hw
    have : plate.toNat ∈ (l.map fun x => x.plate.toNat) ↔ plate ∈ platesOf l := by
      simp only [platesOf, List.mem_map]
      constructor
      · rintro ⟨x, hx, he⟩
        have := (stepsOk_mem h x hx).1
        exact ⟨x, hx, by omega⟩
      · rintro ⟨x, hx, he⟩
        exact ⟨x, hx, by rw [he]⟩
    rw [decide_eq_decide.2 this]
    cases decide (plate ∈ platesOf l) <;> simp

theorem c5 (b : Bath) (l : List Step) (plate : Int) : PC prog 5 [.d b.d, .d (.sl (l.map Step.d)), .d (.int .i64 plate)] (.d (.bool true)) := by
  refine PC.run (fun _ => false) tt_ok (fn := f5) (rs := [.tmp 6]) rfl rfl rfl rfl rfl rfl rfl ?_
  simp only [go_sem, Bath.d]
  refine Br_split (fun h1 => ?_) (fun h1 => ?_) <;> simp only [go_sem, h1]
  · refine c17.call rfl rfl rfl ?_
    simp only [go_sem, h1]
  refine Br_split (fun h2 => ?_) (fun h2 => ?_) <;> simp only [go_sem, h1, h2]
  · refine c17.call rfl rfl rfl ?_
    simp only [go_sem, h1, h2]
  have hb : b.plates.length ≤ 20 := by simp only [decide_eq_false_iff_not] at h1; omega
  have hl : l.length ≤ 20 := by simp only [decide_eq_false_iff_not] at h2; omega
  refine (c18 b (by omega)).call rfl rfl rfl ?_
  have hle : l.length ≤ 4294967296 := by omega
  have hsz := sized_steps l
  simp only [go_sem, h1, h2, Bath.d, hle, hsz, List.length_map, List.nil_append, Nat.zero_add]
  refine (c33 b l plate (by omega) (by omega)).call rfl rfl rfl ?_
  simp only [go_sem, h1, h2, Sp.d]
  refine (c22 b b (by omega) (by omega)).call rfl rfl rfl ?_
  have hd0 : ∀ {α : Type} [DecidableEq α] (l : α), decide (l = l) = true := fun l => by simp
  simp only [go_sem, h1, h2, hd0]
  refine (c29 l l (by omega) (by omega)).call rfl rfl rfl ?_
  simp only [go_sem, h1, h2, hd0]
  refine (c21 b (by omega)).call rfl rfl rfl ?_
  simp only [go_sem, h1, h2]
  refine Br_split (fun h0 => ?_) (fun h0 => ?_) <;> simp only [go_sem, h0]
  · have hc0 : checkP b = 0 := by simpa using h0
    have hok := checkP_iff.1 hc0
    refine (c25 b l (by omega) (by omega)).call rfl rfl rfl ?_
    simp only [go_sem, h0]
    refine Br_split (fun h3 => ?_) (fun h3 => ?_) <;> simp only [go_sem, h0, h3]
    · have h3' : ¬ stepsOk b.plates.length 0 l = true := by simpa using h3
      have hsp : hoursP b l plate = (⟨0, 0⟩, 4) := by simp [hoursP, hc0, h3']
      simp only [go_sem, h0, h3, hsp]
      refine ADrw.treeG (fun _ => false) tt_ok (by kernel_rfl) (fun k => if k = 4 then some .L else some .S) (.ones [0, 1, 2, 3, 4, 5, 6, 7, 8, 9, 10, 11] .done) (by simp) (fun _ h => nomatch h) rfl rfl (by kernel_rfl) ?_
      simp only [go_sem, hd0, h0, h3, hsp]
      refine (c26 0 0).callS rfl rfl rfl rfl rfl rfl ?_
      simp only [go_sem, hd0, Sp.d, h0, h3, hsp]
      refine c17.callS rfl rfl rfl rfl rfl rfl ?_
      simp only [go_sem, hd0, h0, h3, hsp]
    · have h3' : stepsOk b.plates.length 0 l = true := by simpa using h3
      have hsm := stepsOk_more h3' plate
      have hmem := stepsOk_mem h3'
      have hmp : ∀ p ∈ platesOf l, 0 ≤ p ∧ p < b.plates.length := fun p hp => by
        obtain ⟨x, hx, rfl⟩ := List.mem_map.1 hp
        exact (hmem x hx).1
      have hpl : (platesOf l).length = l.length := by simp [platesOf]
      have hp1 : IntKind.i64.wrap ((b.plates.length : Int) - 1) = (b.plates.length : Int) - 1 := w64 (by omega) (by omega)
      simp only [go_sem, h0, h3, hc0, hd0, hp1]
      refine (c34 plate 0 ((b.plates.length : Int) - 1)).call rfl rfl rfl ?_
      rw [in_iff]
      simp only [go_sem, h0, h3, hd0]
      refine Br_split (fun h4 => ?_) (fun h4 => ?_) <;> simp only [go_sem, h0, h3, h4, hd0]
      · have h4' : within 0 ((b.plates.length : Int) - 1) [plate] = false := by simpa using h4
        have hsp : hoursP b l plate = (⟨0, 0⟩, 7) := by simp [hoursP, hc0, h3', hsm, h4']
        simp only [go_sem, h0, h3, hsp]
        refine ADrw.treeG (fun _ => false) tt_ok (by kernel_rfl) (fun k => if k = 4 then some .L else some .S) (.ones [0, 1, 2, 3, 4, 5, 6, 7, 8, 9, 10, 11] .done) (by simp) (fun _ h => nomatch h) rfl rfl (by kernel_rfl) ?_
        simp only [go_sem, hd0, h0, h3, h4, hsp]
        refine (c26 0 0).callS rfl rfl rfl rfl rfl rfl ?_
        simp only [go_sem, hd0, Sp.d, h0, h3, h4, hsp]
        refine c17.callS rfl rfl rfl rfl rfl rfl ?_
        simp only [go_sem, hd0, h0, h3, h4, hsp]
      · have h4' : within 0 ((b.plates.length : Int) - 1) [plate] = true := by simpa using h4
        have hp0 : 0 ≤ plate ∧ plate < b.plates.length := by have := within_one.1 h4'; omega
        refine (c32 l (by omega)).call rfl rfl rfl ?_
        simp only [go_sem, h0, h3, h4, hd0]
        refine (c35 (platesOf l) plate (by omega)).call rfl rfl rfl ?_
        simp only [go_sem, h0, h3, h4, hd0]
        refine Br_split (fun h5 => ?_) (fun h5 => ?_) <;> simp only [go_sem, h0, h3, h4, h5, hd0]
        · have hsp : hoursP b l plate = (⟨0, 0⟩, 7) := by rw [h4', h5] at hsm; simp [hoursP, hc0, h3', hsm]
          simp only [go_sem, h0, h3, hsp]
          refine ADrw.treeG (fun _ => false) tt_ok (by kernel_rfl) (fun k => if k = 4 then some .L else some .S) (.ones [0, 1, 2, 3, 4, 5, 6, 7, 8, 9, 10, 11] .done) (by simp) (fun _ h => nomatch h) rfl rfl (by kernel_rfl) ?_
          simp only [go_sem, hd0, h0, h3, h4, h5, hsp]
          refine (c26 0 0).callS rfl rfl rfl rfl rfl rfl ?_
          simp only [go_sem, hd0, Sp.d, h0, h3, h4, h5, hsp]
          refine c17.callS rfl rfl rfl rfl rfl rfl ?_
          simp only [go_sem, hd0, h0, h3, h4, h5, hsp]
        · have hsp : hoursP b l plate = if (hoursW b plate (fellF b (platesOf l))).2 = true then ((hoursW b plate (fellF b (platesOf l))).1, 0) else (⟨0, 0⟩, 9) := by rw [h4', h5] at hsm; simp [hoursP, hc0, h3', hsm]
          have hhe := hours_eq hok (platesOf l) plate
          have hlo := fun h => (hoursW_lo (p := plate) (fell := fellF b (platesOf l)) hok h).1
          refine ADrw.treeG (fun _ => false) tt_ok (by kernel_rfl) (fun k => if k = 0 then some .L else if k = 6 then some .W else if k = 5 then some .A else some .S) (.ones [0, 1, 2, 3, 4, 5, 6] .done) (by simp) (fun _ h => nomatch h) rfl rfl (by kernel_rfl) ?_
          simp only [go_sem, h0, h3, h4, h5, hd0]
          refine (c32 l (by omega)).callS rfl rfl rfl rfl rfl rfl ?_
          simp only [go_sem, h0, h3, h4, h5, hd0]
          refine (c36 hok (platesOf l) plate (by omega) hmp hp0).callS rfl rfl rfl rfl rfl rfl ?_
          rw [hhe]
          by_cases hw : (hoursW b plate (fellF b (platesOf l))).2 = true
          · rw [if_pos hw] at hsp ⊢
            have hlo' := hlo hw
            rw [hsp]
            generalize (hoursW b plate (fellF b (platesOf l))).1 = due at hlo'
            have hlod : decide (0 < due.lo) = true := by simp; omega
            simp only [go_sem, h0, h3, h4, h5, hd0, Sp.d, hlod]
            refine c17.call rfl rfl rfl ?_
            simp only [go_sem, h0, h3, h4, h5, hd0, Sp.d, hlod]
          · rw [if_neg hw] at hsp ⊢
            simp only [go_sem, h0, h3, h4, h5, hd0, Sp.d, hsp]
            refine ADrw.treeG (fun _ => false) tt_ok (by kernel_rfl) (fun k => if k = 4 then some .L else some .S) (.ones [0, 1, 2, 3, 4, 5, 6, 7, 8, 9, 10, 11] .done) (by simp) (fun _ h => nomatch h) rfl rfl (by kernel_rfl) ?_
            simp only [go_sem, hd0, h0, h3, h4, h5, hsp]
            refine (c26 0 0).callS rfl rfl rfl rfl rfl rfl ?_
            simp only [go_sem, hd0, Sp.d, h0, h3, h4, h5, hsp]
            refine c17.callS rfl rfl rfl rfl rfl rfl ?_
            simp only [go_sem, hd0, h0, h3, h4, h5, hsp]
  · have hc0 : ¬ checkP b = 0 := by simpa using h0
    have hsp : hoursP b l plate = (⟨0, 0⟩, checkP b) := by simp [hoursP, hc0]
    simp only [go_sem, h0, hsp, hd0]
    refine ADrw.treeG (fun _ => false) tt_ok (by kernel_rfl) (fun k => if k = 4 then some .L else some .S) (.ones [0, 1, 2, 3, 4, 5, 6, 7, 8, 9, 10, 11] .done) (by simp) (fun _ h => nomatch h) rfl rfl (by kernel_rfl) ?_
    simp only [go_sem, hd0, h0, hsp]
    refine (c26 0 0).callS rfl rfl rfl rfl rfl rfl ?_
    simp only [go_sem, hd0, Sp.d, h0, hsp]
    refine c17.callS rfl rfl rfl rfl rfl rfl ?_
    simp only [go_sem, hd0, h0, hsp]
end Go.Aw
end

section
set_option maxRecDepth 100000
namespace Go.Aw
open Go Go.Proofs.Try

theorem c45 (l : List Acid) (hl : l.length ≤ 4294967296) : PC prog 45 [.d (.sl (l.map Acid.d))] (.d (.int .i64 (acidsP l))) := by
  refine PC.run (fun _ => false) tt_ok (fn := f45) (rs := [.tmp 2]) rfl rfl rfl rfl rfl rfl rfl ?_
  simp only [go_sem]
  refine Br_split (fun h1 => ?_) (fun h1 => ?_) <;> simp only [go_sem, h1]
  · have h1' : l.length > 5 := by simp only [decide_eq_true_eq] at h1; omega
    simp [acidsP, h1']
  have h1' : ¬ l.length > 5 := by simp only [decide_eq_false_iff_not] at h1; omega
  refine Br_split (fun h2 => ?_) (fun h2 => ?_) <;> simp only [go_sem, h1, h2]
  · have h2' : l.length = 0 := by simp at h2; simp [h2]
    simp [acidsP, h1', h2']
  have h2' : ¬ l.length = 0 := by simp at h2; simpa using h2
  have hap : acidsP l = if l.any badAcid = true then 2 else 0 := by simp only [acidsP, if_neg h1', if_neg h2']
  rw [hap]
  refine ALoop.by (S := Nat) (fun i => [(3, .d (.int .i64 i)), (0, .d (.sl (l.map Acid.d)))]) (fun i => []) (fun i => l.length - i) (fun i => i ≤ l.length ∧ (l.take i).any badAcid = false) 0 (by simp) (fun _ h => nomatch h) ⟨Nat.zero_le _, rfl⟩ ?_ ?_
  · exact ForgetTo.same' (by simp) (by simp [EWe, Env.look]) rfl
  rintro i ⟨hi, hx⟩ hn
  refine AWP.run (fun _ => false) tt_ok (fun _ h => nomatch h) (by simp) rfl ?_
  simp only [go_sem]
  refine Br_split (fun hd => ?_) (fun hd => ?_) <;> simp only [go_sem, hd]
  · have hlt : i < l.length := by simpa using hd
    have hix : idx? (l.map Acid.d) (i : Int) = some (l[i]).d := by simp [idx?, List.getElem?_eq_getElem hlt]
    have hst : (l.take (i + 1)).any badAcid = badAcid l[i] := by
      rw [List.take_add_one, List.getElem?_eq_getElem hlt, List.any_append, hx]; simp
    have hmem : badAcid l[i] = true → l.any badAcid = true := fun h => List.any_eq_true.2 ⟨_, List.getElem_mem hlt, h⟩
    generalize l[i] = a at hix hst hmem
    simp only [go_sem, hix, Acid.d]
    refine (c47 a.str 0 40).call rfl rfl rfl ?_
    rw [valid_iff]
    simp only [go_sem, hd, hix, Acid.d]
    refine Br_split (fun g1 => ?_) (fun g1 => ?_) <;> simp only [go_sem, hd, g1, hix, Acid.d]
    · rw [if_pos (hmem (by simp only [badAcid, g1, Bool.true_or]))]
    refine (c34 a.oz 1 200).call rfl rfl rfl ?_
    rw [in_iff]
    simp only [go_sem, hd, g1]
    refine Br_split (fun g2 => ?_) (fun g2 => ?_) <;> simp only [go_sem, hd, g1, g2]
    · rw [if_pos (hmem (by simp only [badAcid, g1, g2, Bool.or_true]))]
    · refine ⟨i + 1, ⟨hlt, by rw [hst]; simp only [badAcid, g1, g2, Bool.or_false]⟩, by omega, ?_⟩
      exact ForgetTo.same' (by simp) (by simp [EWe, Env.look, w64 (n := (i : Int) + 1) (by omega) (by omega)]) rfl
  · have hie : i = l.length := by simp at hd; omega
    subst hie
    rw [List.take_length] at hx
    simp [hx]

theorem c46 (l : List Acid) (w : Int) (hl : l.length ≤ 5) (hne : l.length ≠ 0) (hall : ∀ a ∈ l, a.Ok) (hw : 0 ≤ w ∧ w ≤ 1000) : PC prog 46 [.d (.sl (l.map Acid.d)), .d (.int .i64 w)] (.d ((mixAll l).with w).d) := by
  refine PC.run (fun _ => false) tt_ok (fn := f46) (rs := [.cell 4 23]) rfl rfl rfl rfl rfl rfl rfl ?_
  simp only [go_sem]
  refine ALoop.by (S := Nat) (fun i => [(8, .d (.int .i64 i)), (7, .d (.int .i64 (w + ((l.take i).foldl Mixed.add ⟨0, 0, 0⟩).oz))), (6, .d (.int .i64 ((l.take i).foldl Mixed.add ⟨0, 0, 0⟩).hi)), (5, .d (.int .i64 ((l.take i).foldl Mixed.add ⟨0, 0, 0⟩).lo)), (4, .ptr 0 0), (0, .d (.sl (l.map Acid.d)))])
    (fun i => [.cells [.d (.int .i64 0), .d (.int .i64 0)]]) (fun i => l.length - i) (fun i => i ≤ l.length) 0 (by simp) (fun _ h => nomatch h) (Nat.zero_le _) ?_ ?_
  · exact ForgetTo.same' (by simp) (by simp [EWe, Env.look]) rfl
  rintro i hi hn
  refine AWP.run (fun _ => false) tt_ok (fun _ h => nomatch h) (by simp) rfl ?_
  simp only [go_sem]
  refine Br_split (fun hf => ?_) (fun hf => ?_) <;> simp only [go_sem, hf]
  · have hlt : i < l.length := by simpa using hf
    have hix : idx? (l.map Acid.d) (i : Int) = some (l[i]).d := by simp [idx?, List.getElem?_eq_getElem hlt]
    have hst : (l.take (i + 1)).foldl Mixed.add ⟨0, 0, 0⟩ = ((l.take i).foldl Mixed.add ⟨0, 0, 0⟩).add l[i] := by
      rw [List.take_add_one, List.getElem?_eq_getElem hlt, List.foldl_append]; rfl
    obtain ⟨b1, b2, b3, b4, b5⟩ := mix_bnd (l.take i) ⟨0, 0, 0⟩ (fun a ha => hall a (List.mem_of_mem_take ha)) (by simp) (by simp) (by simp) (by simp)
    have hlen : (l.take i).length = i := by simp; omega
    rw [hlen] at b4 b5
    have ha := hall _ (List.getElem_mem hlt)
    generalize (l.take i).foldl Mixed.add ⟨0, 0, 0⟩ = m at hst b1 b2 b3 b4 b5
    generalize l[i] = a at hix hst ha
    obtain ⟨k1, k2, k3, k4, k5⟩ := ha
    have p1 : 0 ≤ a.str.lo * a.oz := Int.mul_nonneg k1 (by omega)
    have p2 : a.str.lo * a.oz ≤ a.str.hi * a.oz := Int.mul_le_mul_of_nonneg_right k2 (by omega)
    have p3 : a.str.hi * a.oz ≤ 40 * a.oz := Int.mul_le_mul_of_nonneg_right k3 (by omega)
    simp only at b4 b5
    refine ADrw.treeG (fun _ => false) tt_ok (by kernel_rfl) (fun _ => some .S) (.ones [0, 1, 2, 3, 4, 5, 6, 7, 8, 9, 10, 11, 12, 13, 14, 15, 16, 17, 18, 19, 20, 21, 22, 23, 24, 25, 26, 27, 28, 29, 30, 31, 32, 33, 34, 35, 36, 37] .done) (by simp) (fun _ h => nomatch h) rfl rfl (by kernel_rfl) ?_
    simp only [go_sem, hix, Acid.d]
    refine ⟨i + 1, hlt, by omega, ?_⟩
    refine ForgetTo.same' (by simp) ?_ rfl
    simp only [EWe, Env.look]
    simp [hst, Mixed.add, w64 (n := (i : Int) + 1) (by omega) (by omega), w64 (n := a.str.lo * a.oz) (by omega) (by omega), w64 (n := a.str.hi * a.oz) (by omega) (by omega), w64 (n := m.lo + a.str.lo * a.oz) (by omega) (by omega), w64 (n := m.hi + a.str.hi * a.oz) (by omega) (by omega), w64 (n := w + (m.oz + a.oz)) (by omega) (by omega), Int.add_assoc]
  · have hie : i = l.length := by simp at hf; omega
    subst hie
    rw [List.take_length]
    have hm := mix_bnd l ⟨0, 0, 0⟩ hall (by simp) (by simp) (by simp) (by simp)
    have hme : l.foldl Mixed.add ⟨0, 0, 0⟩ = mixAll l := rfl
    rw [hme] at hm ⊢
    generalize mixAll l = m at hm
    simp only at hm
    have hall1 : 1 ≤ w + m.oz ∧ w + m.oz ≤ 2000 := by omega
    have hcomm : m.oz + w = w + m.oz := Int.add_comm _ _
    simp only [Mixed.with, hcomm]
    generalize w + m.oz = all at hall1
    have hlo : 0 ≤ m.lo ∧ m.lo ≤ 40000 := by omega
    have hhi : 0 ≤ m.hi ∧ m.hi ≤ 40000 := by omega
    simp only [go_sem]
    refine ALoop.by (S := Nat) (fun k => [(9, .ptr 1 0), (7, .d (.int .i64 all)), (6, .d (.int .i64 m.hi)), (5, .d (.int .i64 m.lo)), (4, .ptr 0 0)])
      (fun k => [.cells [.d (.int .i64 0), .d (.int .i64 0)], .cells [.d (.int .i64 (k : Int)), .d (.int .i64 0)]]) (fun k => 40001 - k) (fun k => (k : Int) * all ≤ m.lo) 0 (by simp) (fun _ h => nomatch h) (by simp; omega) ?_ ?_
    · exact ForgetTo.same' (by simp) (by simp [EWe, Env.look]) (by simp)
    rintro k hk hn2
    have hk1 : ((k : Int) + 1) * all = k * all + all := by rw [Int.add_mul]; omega
    have hk2 : (k : Int) ≤ k * all := by have := Int.mul_le_mul_of_nonneg_left (a := (1 : Int)) (b := all) (c := (k : Int)) hall1.1 (by omega); omega
    have wk : IntKind.i64.wrap ((k : Int) + 1) = (k : Int) + 1 := w64 (by omega) (by omega)
    have wm : IntKind.i64.wrap (((k : Int) + 1) * all) = ((k : Int) + 1) * all := w64 (by omega) (by omega)
    refine AWP.run (fun _ => false) tt_ok (fun _ h => nomatch h) (by simp) rfl ?_
    simp only [go_sem, wk, wm]
    refine Br_split (fun hg => ?_) (fun hg => ?_) <;> simp only [go_sem, hg, wk]
    · have hg' : ((k : Int) + 1) * all ≤ m.lo := by simpa using hg
      refine ⟨k + 1, by rw [Int.natCast_add]; exact hg', by omega, ?_⟩
      exact ForgetTo.same' (by simp) (by simp [EWe, Env.look]) (by simp)
    · have hg' : ¬ ((k : Int) + 1) * all ≤ m.lo := by simpa using hg
      have hq : m.lo / all = (k : Int) := by
        have e1 := (Int.le_ediv_iff_mul_le (a := (k : Int)) (b := m.lo) (c := all) (by omega)).2 hk
        have e2 := (Int.ediv_lt_iff_lt_mul (a := m.lo) (b := (k : Int) + 1) (c := all) (by omega)).2 (by omega)
        omega
      rw [hq]
      refine ALoop.by (S := Nat) (fun j => [(9, .ptr 1 0), (7, .d (.int .i64 all)), (6, .d (.int .i64 m.hi)), (4, .ptr 0 0)])
        (fun j => [.cells [.d (.int .i64 0), .d (.int .i64 0)], .cells [.d (.int .i64 (k : Int)), .d (.int .i64 (j : Int))]]) (fun j => 50001 - j) (fun j => ((j : Int) - 1) * all < m.hi ∨ j = 0) 0 (by simp) (fun _ h => nomatch h) (.inr rfl) ?_ ?_
      · exact ForgetTo.same' (by simp) (by simp [EWe, Env.look]) (by simp)
      rintro j hj hn3
      have hj1 : ((j : Int) - 1) * all = j * all - all := by rw [Int.sub_mul]; omega
      have hj2 : (j : Int) ≤ j * all := by have := Int.mul_le_mul_of_nonneg_left (a := (1 : Int)) (b := all) (c := (j : Int)) hall1.1 (by omega); omega
      have hj3 : (j : Int) * all < m.hi + all := by
        rcases hj with hj | hj
        · omega
        · subst hj; simp; omega
      have wj : IntKind.i64.wrap ((j : Int) + 1) = (j : Int) + 1 := w64 (by omega) (by omega)
      have wn : IntKind.i64.wrap ((j : Int) * all) = (j : Int) * all := w64 (by omega) (by omega)
      refine AWP.run (fun _ => false) tt_ok (fun _ h => nomatch h) (by simp) rfl ?_
      simp only [go_sem, wn]
      refine Br_split (fun hg2 => ?_) (fun hg2 => ?_) <;> simp only [go_sem, hg2, wj]
      · have hg3 : (j : Int) * all < m.hi := by simpa using hg2
        refine ⟨j + 1, .inl (by rw [show ((j + 1 : Nat) : Int) - 1 = j by omega]; exact hg3), by omega, ?_⟩
        exact ForgetTo.same' (by simp) (by simp [EWe, Env.look]) (by simp)
      · have hg3 : ¬ (j : Int) * all < m.hi := by simpa using hg2
        have hq2 : (m.hi + all - 1) / all = (j : Int) := by
          have e1 := (Int.le_ediv_iff_mul_le (a := (j : Int)) (b := m.hi + all - 1) (c := all) (by omega)).2 (by omega)
          have hjj : ((j : Int) + 1) * all = j * all + all := by rw [Int.add_mul]; omega
          have e2 := (Int.ediv_lt_iff_lt_mul (a := m.hi + all - 1) (b := (j : Int) + 1) (c := all) (by omega)).2 (by omega)
          omega
        rw [hq2]
        simp [Sp.d]
end Go.Aw
end

section
set_option maxRecDepth 100000
namespace Go.Aw
open Go Go.Proofs.Try

def fitR (m : Mixed) (want : Sp) (n : Int) : Bool := decide ((m.with n).lo ≥ want.lo) && decide ((m.with n).hi ≤ want.hi)

def waterStepR (m : Mixed) (want : Sp) (s : Sp) (n : Nat) : Sp := if fitR m want n = true then ⟨min s.lo n, n⟩ else s

def waterR (m : Mixed) (want : Sp) (k : Nat) : Sp := (List.range k).foldl (waterStepR m want) ⟨501, -1⟩

theorem waterR_succ (m : Mixed) (want : Sp) (k : Nat) : waterR m want (k + 1) = waterStepR m want (waterR m want k) k := by
  rw [waterR, List.range_succ, List.foldl_append]; rfl

theorem c48 (l : List Acid) (want : Sp) (hl : l.length ≤ 5) (hne : l.length ≠ 0) (hall : ∀ a ∈ l, a.Ok) : PC prog 48 [.d (.sl (l.map Acid.d)), .d want.d] (.d (waterR (mixAll l) want 501).d) := by
  refine PC.run (fun _ => false) tt_ok (fn := f48) (rs := [.cell 4 23]) rfl rfl rfl rfl rfl rfl rfl ?_
  simp only [go_sem, Sp.d]
  refine ALoop.by (S := Nat) (fun i => [(6, .d (.int .i64 i)), (5, .ptr 2 0), (4, .ptr 1 0), (3, .ptr 0 0), (0, .d (.sl (l.map Acid.d)))])
    (fun i => [.cells [.d (.int .i64 want.lo), .d (.int .i64 want.hi)], .cells [.d (.int .i64 0), .d (.int .i64 0)], .cells [.d (.int .i64 (waterR (mixAll l) want i).lo), .d (.int .i64 (waterR (mixAll l) want i).hi)]]) (fun i => 501 - i) (fun i => i ≤ 501) 0 (by simp) (fun _ h => nomatch h) (Nat.zero_le _) ?_ ?_
  · exact ForgetTo.same' (by simp) (by simp [EWe, Env.look]) (by simp [waterR])
  rintro i hi hn
  refine AWP.run (fun _ => false) tt_ok (fun _ h => nomatch h) (by simp) rfl ?_
  simp only [go_sem]
  refine Br_split (fun hd => ?_) (fun hd => ?_) <;> simp only [go_sem, hd]
  · have hlt : i < 501 := by simp only [decide_eq_true_eq] at hd; omega
    have hnx : IntKind.i64.wrap ((i : Int) + 1) = ((i + 1 : Nat) : Int) := w64 (by omega) (by omega)
    have hst := waterR_succ (mixAll l) want i
    have hfr : fitR (mixAll l) want i = (decide (((mixAll l).with i).lo ≥ want.lo) && decide (((mixAll l).with i).hi ≤ want.hi)) := rfl
    refine (c46 l i hl hne hall (by omega)).call rfl rfl rfl ?_
    simp only [waterStepR] at hst
    generalize waterR (mixAll l) want i = s at hst
    generalize (mixAll l).with i = r at hfr
    rw [hfr] at hst
    simp only [go_sem, Sp.d]
    refine Br_split (fun h1 => ?_) (fun h1 => ?_) <;> simp only [go_sem, h1]
    · refine Br_split (fun h2 => ?_) (fun h2 => ?_) <;> simp only [go_sem, h1, h2]
      · rw [if_pos (by rw [show decide (r.lo ≥ want.lo) = true from h1, h2]; rfl)] at hst
        refine ⟨i + 1, hlt, by omega, ?_⟩
        refine ForgetTo.drop (H0 := [_, _, _]) (Y := [_]) (Nat.zero_le _) (by rw [hst]) (by simp [BBs, BB, VBs, VB]) ?_
        simp [EWp, Env.look, pubV, hnx]
      · rw [if_neg (by rw [h2]; simp)] at hst
        refine ⟨i + 1, hlt, by omega, ?_⟩
        refine ForgetTo.drop (H0 := [_, _, _]) (Y := [_]) (Nat.zero_le _) (by rw [hst]) (by simp [BBs, BB, VBs, VB]) ?_
        simp [EWp, Env.look, pubV, hnx]
    · rw [if_neg (by rw [show decide (r.lo ≥ want.lo) = false from h1]; simp)] at hst
      refine ⟨i + 1, hlt, by omega, ?_⟩
      refine ForgetTo.drop (H0 := [_, _, _]) (Y := [_]) (Nat.zero_le _) (by rw [hst]) (by simp [BBs, BB, VBs, VB]) ?_
      simp [EWp, Env.look, pubV, hnx]
  · have hie : i = 501 := by simp only [decide_eq_false_iff_not] at hd; omega
    subst hie
    simp

theorem fit_eq (m : Mixed) (want : Sp) (n : Int) : fitW m want n = fitR m want n := by
  rw [Bool.eq_iff_iff]
  simp [fitW, fitR]

theorem water_eq (m : Mixed) (want : Sp) : ∀ k : Nat, k ≤ 501 → (waterUp m want k = (sp0, 7) ∧ waterR m want k = ⟨501, -1⟩) ∨ ∃ a b : Int, waterUp m want k = (⟨a, b⟩, 0) ∧ waterR m want k = ⟨a, b⟩ ∧ 0 ≤ a ∧ a ≤ b ∧ b < k
  | 0, _ => .inl ⟨rfl, rfl⟩
  | k + 1, hk => by
    have h1 : waterUp m want (k + 1) = waterStep m want (waterUp m want k) k := by rw [waterUp, List.range_succ, List.foldl_append]; rfl
    rw [h1, waterR_succ]
    simp only [waterStep, waterStepR, fit_eq]
    rcases water_eq m want k (by omega) with ⟨e1, e2⟩ | ⟨a, b, e1, e2, e3, e4, e5⟩
    · rw [e1, e2]
      split
      · refine .inr ⟨k, k, ?_, ?_, by omega, by omega, by omega⟩
        · simp
        · simp; omega
      · exact .inl ⟨rfl, rfl⟩
    · rw [e1, e2]
      split
      · refine .inr ⟨a, k, ?_, ?_, by omega, by omega, by omega⟩
        · simp
        · simp; omega
      · exact .inr ⟨a, b, rfl, rfl, e3, e4, by omega⟩

theorem sized_acids (l : List Acid) : sized 3 (l.map Acid.d) = true := by
  simp [sized, Acid.d, dcells]

theorem c7 (l : List Acid) (want : Sp) : PC prog 7 [.d (.sl (l.map Acid.d)), .d want.d] (.d (.bool true)) := by
  refine PC.run (fun _ => false) tt_ok (fn := f7) (rs := [.tmp 4]) rfl rfl rfl rfl rfl rfl rfl ?_
  simp only [go_sem, Sp.d]
  refine Br_split (fun h1 => ?_) (fun h1 => ?_) <;> simp only [go_sem, h1]
  · refine c17.call rfl rfl rfl ?_
    simp only [go_sem, h1]
  have hl : l.length ≤ 20 := by simp only [decide_eq_false_iff_not] at h1; omega
  have hle : l.length ≤ 4294967296 := by omega
  have hsz := sized_acids l
  have hd0 : ∀ {α : Type} [DecidableEq α] (l : α), decide (l = l) = true := fun l => by simp
  simp only [go_sem, h1, hle, hsz, List.length_map, List.nil_append, Nat.zero_add]
  refine (c43 l (by omega)).call rfl rfl rfl ?_
  simp only [go_sem, h1, Sp.d]
  refine (c44 l want (by omega)).call rfl rfl rfl ?_
  simp only [go_sem, h1, Sp.d]
  refine ALoop.by (S := Nat) (fun i => [(10, .d (.int .i64 i)), (9, .d (.int .i64 (waterP l want).2)), (8, .ptr 2 0), (7, .d (.int .i64 (acidsP l))), (6, .ptr 1 0), (5, .d (.sl (l.map Acid.d))), (3, .ptr 0 0), (0, .d (.sl (l.map Acid.d)))])
    (fun i => [.cells [.d (.int .i64 want.lo), .d (.int .i64 want.hi)], .cells [.d (.int .i64 (mixV l).lo), .d (.int .i64 (mixV l).hi)], .cells [.d (.int .i64 (waterP l want).1.lo), .d (.int .i64 (waterP l want).1.hi)]]) (fun i => l.length - i) (fun i => i ≤ l.length) 0 (by simp) (fun _ h => nomatch h) (Nat.zero_le _) ?_ ?_
  · exact ForgetTo.same' (by simp) (by simp [EWe, Env.look]) (by simp)
  rintro i hi hn
  refine AWP.run (fun _ => false) tt_ok (fun _ h => nomatch h) (by simp) rfl ?_
  simp only [go_sem]
  refine Br_split (fun hd => ?_) (fun hd => ?_) <;> simp only [go_sem, hd]
  · have hlt : i < l.length := by simpa using hd
    have hix : idx? (l.map Acid.d) (i : Int) = some (l[i]).d := by simp [idx?, List.getElem?_eq_getElem hlt]
    generalize l[i] = a at hix
    refine ADrw.treeG (fun _ => false) tt_ok (by kernel_rfl) (fun _ => some .S) (.ones [0, 1, 2, 3, 4, 5, 6, 7, 8] .done) (by simp) (fun _ h => nomatch h) rfl rfl (by kernel_rfl) ?_
    simp only [go_sem, hix, Acid.d, hd0]
    refine ⟨i + 1, hlt, by omega, ?_⟩
    exact ForgetTo.same' (by simp) (by simp [EWe, Env.look, w64 (n := (i : Int) + 1) (by omega) (by omega)]) rfl
  have hie : i = l.length := by simp at hd; omega
  subst hie
  refine (c45 l (by omega)).call rfl rfl rfl ?_
  simp only [go_sem]
  refine ADrw.treeG (fun _ => false) tt_ok (by kernel_rfl) (fun k => if k = 7 ∨ k = 16 then some .L else some .S) (.ones [0, 1, 2, 3, 4, 5, 6, 7, 8, 9, 10, 11, 12, 13, 14, 15, 16, 17, 18, 19, 20, 21] .done) (by simp) (fun _ h => nomatch h) rfl rfl (by kernel_rfl) ?_
  by_cases h0 : acidsP l = 0
  · obtain ⟨k1, k2, k3⟩ := acids_ok h0
    have hmv : mixV l = (mixAll l).with 0 := by simp only [mixV, if_pos h0]
    simp only [go_sem, h0, hd0]
    refine (c46 l 0 k1 k2 k3 (by omega)).callS rfl rfl rfl rfl rfl rfl ?_
    rw [hmv]
    simp only [go_sem, h0, hd0, Sp.d]
    refine (c47 want 0 40).call rfl rfl rfl ?_
    rw [valid_iff]
    simp only [go_sem, h0, hd0, Sp.d]
    refine Br_split (fun g1 => ?_) (fun g1 => ?_) <;> simp only [go_sem, h0, hd0, g1]
    · have g2 : ¬ (within 0 40 [want.lo, want.hi] && decide (want.lo ≤ want.hi)) = true := by rw [Bool.not_eq_true]; simpa only [Bool.not_eq_true'] using g1
      have hwp : waterP l want = (sp0, 3) := by simp only [waterP, h0, if_true, if_neg g2]
      simp only [hwp]
      refine ADrw.treeG (fun _ => false) tt_ok (by kernel_rfl) (fun k => if k = 4 then some .L else some .S) (.ones [0, 1, 2, 3, 4, 5, 6, 7, 8, 9, 10, 11] .done) (by simp) (fun _ h => nomatch h) rfl rfl (by kernel_rfl) ?_
      simp only [go_sem, hd0, h0, g1, hwp]
      refine (c26 0 0).callS rfl rfl rfl rfl rfl rfl ?_
      simp only [go_sem, hd0, Sp.d, sp0, h0, g1, hwp]
      refine c17.callS rfl rfl rfl rfl rfl rfl ?_
      simp only [go_sem, hd0, h0, g1, hwp]
    · have g2 : (within 0 40 [want.lo, want.hi] && decide (want.lo ≤ want.hi)) = true := by simpa only [Bool.not_eq_false'] using g1
      have hwp : waterP l want = waterUp (mixAll l) want 501 := by simp only [waterP, h0, if_true, if_pos g2]
      refine (c48 l want k1 k2 k3).call rfl rfl rfl ?_
      rw [hwp]
      rcases water_eq (mixAll l) want 501 (Nat.le_refl _) with ⟨e1, e2⟩ | ⟨a, b, e1, e2, e3, e4, e5⟩
      · rw [e1, e2]
        have hneg : decide ((0 : Int) ≤ -1) = false := by decide
        simp only [go_sem, h0, hd0, g1, Sp.d, hneg]
        refine ADrw.treeG (fun _ => false) tt_ok (by kernel_rfl) (fun k => if k = 4 then some .L else some .S) (.ones [0, 1, 2, 3, 4, 5, 6, 7, 8, 9, 10, 11] .done) (by simp) (fun _ h => nomatch h) rfl rfl (by kernel_rfl) ?_
        simp only [go_sem, hd0, h0, g1]
        refine (c26 0 0).callS rfl rfl rfl rfl rfl rfl ?_
        simp only [go_sem, hd0, Sp.d, sp0, h0, g1]
        refine c17.callS rfl rfl rfl rfl rfl rfl ?_
        simp only [go_sem, hd0, h0, g1]
      · rw [e1, e2]
        have hb0 : decide ((0 : Int) ≤ b) = true := by simp; omega
        simp only [go_sem, h0, hd0, g1, Sp.d, hb0]
        refine c17.call rfl rfl rfl ?_
        simp only [go_sem, h0, hd0, g1, Sp.d, hb0]
  · have hmv : mixV l = sp0 := by simp only [mixV, if_neg h0]
    have hwp : waterP l want = (sp0, acidsP l) := by simp only [waterP, if_neg h0]
    have h0' : decide (acidsP l = 0) = false := by simpa using h0
    simp only [go_sem, h0', hd0]
    refine (c26 0 0).callS rfl rfl rfl rfl rfl rfl ?_
    simp only [hmv, hwp]
    simp only [go_sem, h0', hd0, Sp.d, sp0]
    refine ADrw.treeG (fun _ => false) tt_ok (by kernel_rfl) (fun k => if k = 4 then some .L else some .S) (.ones [0, 1, 2, 3, 4, 5, 6, 7, 8, 9, 10, 11] .done) (by simp) (fun _ h => nomatch h) rfl rfl (by kernel_rfl) ?_
    simp only [go_sem, hd0, h0', hwp]
    refine (c26 0 0).callS rfl rfl rfl rfl rfl rfl ?_
    simp only [go_sem, hd0, Sp.d, sp0, h0', hwp]
    refine c17.callS rfl rfl rfl rfl rfl rfl ?_
    simp only [go_sem, hd0, h0', hwp]
end Go.Aw
end

section
set_option maxRecDepth 100000
namespace Go.Aw
open Go Go.Proofs.Try

def Byte (n : Int) : Prop := 0 ≤ n ∧ n < 256

/-- Three bytes; four bytes. -/
structure B3 where
  a : Int
  b : Int
  c : Int
deriving DecidableEq

structure B4 where
  a : Int
  b : Int
  c : Int
  e : Int
deriving DecidableEq

def B3.d (s : B3) : D := .agg [.int .u8 s.a, .int .u8 s.b, .int .u8 s.c]
def B4.d (s : B4) : D := .agg [.int .u8 s.a, .int .u8 s.b, .int .u8 s.c, .int .u8 s.e]

structure B3.Ok (s : B3) : Prop where
  a : Byte s.a
  b : Byte s.b
  c : Byte s.c

structure B4.Ok (s : B4) : Prop where
  a : Byte s.a
  b : Byte s.b
  c : Byte s.c
  e : Byte s.e

theorem byte_conv {n : Int} (h : Byte n) : wr n = n := by simp only [Byte] at h; exact w64 (by omega) (by omega)

theorem c62 (n : Int) (s : Sp) : PC prog 62 [.d (.int .i64 n), .d s.d] (.d (.bool (decide (n ≥ s.lo) && decide (n ≤ s.hi)))) := by
  refine PC.run (fun _ => false) tt_ok (fn := f62) (rs := [.tmp 4]) rfl rfl rfl rfl rfl rfl rfl ?_
  simp only [go_sem, Sp.d]
  refine Br_split (fun h => ?_) (fun h => ?_) <;> simp only [go_sem, h]

theorem c69 (a b : Sp) : PC prog 69 [.d a.d, .d b.d] (.d (.bool (decide (a.lo ≥ b.lo) && decide (a.hi ≤ b.hi) && decide (a.lo ≤ a.hi)))) := by
  refine PC.run (fun _ => false) tt_ok (fn := f69) (rs := [.tmp 4]) rfl rfl rfl rfl rfl rfl rfl ?_
  simp only [go_sem, Sp.d]
  refine Br_split (fun h => ?_) (fun h => ?_) <;> simp only [go_sem, h]
  refine Br_split (fun h2 => ?_) (fun h2 => ?_) <;> simp only [go_sem, h, h2]

/-- What is known of what was used. -/
def usedS (x : B3) : Sp := ⟨max 0 (x.a - x.b % 20), x.a + x.c % 20⟩

def sumA (l : List B3) : Int := (l.map B3.a).sum

theorem sumA_bnd : ∀ l : List B3, (∀ x ∈ l, x.Ok) → 0 ≤ sumA l ∧ sumA l ≤ 255 * l.length
  | [], _ => by simp [sumA]
  | x :: r, h => by
    have h1 := (h x List.mem_cons_self).a
    have h2 := sumA_bnd r (fun y hy => h y (List.mem_cons_of_mem _ hy))
    simp only [Byte] at h1
    simp only [sumA, List.map_cons, List.sum_cons, List.length_cons] at h2 ⊢
    omega

theorem miss_sum : ∀ (l : List Sp) (m : Sp), l.foldl missStep m = ⟨m.lo - (l.map Sp.hi).sum, m.hi - (l.map Sp.lo).sum⟩
  | [], m => by simp
  | s :: r, m => by
    rw [List.foldl_cons, miss_sum r]
    simp only [missStep, List.map_cons, List.sum_cons, Sp.mk.injEq]
    omega

theorem used_sum : ∀ l : List B3, (∀ x ∈ l, x.Ok) → sumA l ≤ ((l.map usedS).map Sp.hi).sum ∧ ((l.map usedS).map Sp.lo).sum ≤ sumA l
  | [], _ => by simp [sumA]
  | x :: r, h => by
    have h0 := h x List.mem_cons_self
    have h1 := h0.a
    have h2 := h0.b
    have h3 := h0.c
    have h4 := used_sum r (fun y hy => h y (List.mem_cons_of_mem _ hy))
    simp only [Byte] at h1 h2 h3
    simp only [sumA, List.map_cons, List.sum_cons, usedS] at h4 ⊢
    omega

def aS (full c : Int) : Sp := ⟨max 0 (full - c % 30), full + c / 30⟩
def bS (left e : Int) : Sp := ⟨max 0 (left - e % 16), left + e / 16⟩
def wider (s : Sp) : Sp := ⟨max 0 (s.lo - 5), s.hi + 5⟩

theorem carboy_ok {full left : Sp} {used : List Sp} (h1 : used.length ≤ 10) (h2 : badCarboy full = false) (h3 : badCarboy left = false) (h4 : ∀ s ∈ used, badCarboy s = false) : carboyP full used left = 0 := by
  have : used.any badCarboy = false := by
    rw [List.any_eq_false]
    intro s hs
    rw [h4 s hs]; simp
  simp only [carboyP, if_neg (show ¬ used.length > 10 by omega), h2, h3, this]
  rfl

theorem missed_law {L : List B3} {v : B4} (hL : ∀ x ∈ L, x.Ok) (hl : L.length ≤ 10) (hv : v.Ok) : ∃ s t : Sp, missP (aS (sumA L + v.a + v.b) v.c) (L.map usedS) (bS v.a v.e) = (s, 0) ∧ missP (wider (aS (sumA L + v.a + v.b) v.c)) (L.map usedS) (wider (bS v.a v.e)) = (t, 0) ∧
    (v.b ≥ s.lo ∧ v.b ≤ s.hi) ∧ 0 ≤ s.lo ∧ s.lo ≥ t.lo ∧ s.hi ≤ t.hi ∧ s.lo ≤ s.hi := by
  have hb := sumA_bnd L hL
  have hs := used_sum L hL
  have h1 := hv.a
  have h2 := hv.b
  have h3 := hv.c
  have h4 := hv.e
  simp only [Byte] at h1 h2 h3 h4
  have hlen : (L.map usedS).length ≤ 10 := by simpa using hl
  have hu : ∀ s ∈ L.map usedS, badCarboy s = false := fun s hs => by
    obtain ⟨x, hx, rfl⟩ := List.mem_map.1 hs
    have k1 := (hL x hx).a
    have k2 := (hL x hx).b
    have k3 := (hL x hx).c
    simp only [Byte] at k1 k2 k3
    rw [badCarboy_iff]
    simp only [usedS]
    omega
  generalize sumA L = S at hb hs
  have c0 : carboyP (aS (S + v.a + v.b) v.c) (L.map usedS) (bS v.a v.e) = 0 := carboy_ok hlen (by rw [badCarboy_iff]; simp only [aS]; omega) (by rw [badCarboy_iff]; simp only [bS]; omega) hu
  have c1 : carboyP (wider (aS (S + v.a + v.b) v.c)) (L.map usedS) (wider (bS v.a v.e)) = 0 := carboy_ok hlen (by rw [badCarboy_iff]; simp only [aS, wider]; omega) (by rw [badCarboy_iff]; simp only [bS, wider]; omega) hu
  have m : ∀ f l : Sp, missAll f (L.map usedS) l = ⟨f.lo - ((L.map usedS).map Sp.hi).sum - l.hi, f.hi - ((L.map usedS).map Sp.lo).sum - l.lo⟩ := fun f l => by
    simp only [missAll, List.foldl_append, List.foldl_cons, List.foldl_nil, missStep]
    rw [miss_sum]
  generalize ((L.map usedS).map Sp.hi).sum = P at hs m
  generalize ((L.map usedS).map Sp.lo).sum = Q at hs m
  have n0 : ¬ (missAll (aS (S + v.a + v.b) v.c) (L.map usedS) (bS v.a v.e)).hi < 0 := by rw [m]; simp only [aS, bS]; omega
  have n1 : ¬ (missAll (wider (aS (S + v.a + v.b) v.c)) (L.map usedS) (wider (bS v.a v.e))).hi < 0 := by rw [m]; simp only [aS, bS, wider]; omega
  refine ⟨_, _, by rw [missP, if_pos c0, if_neg n0], by rw [missP, if_pos c1, if_neg n1], ?_⟩
  simp only [m, aS, bS, wider]
  omega

theorem c16 (used : List B3) (v : B4) (hu : ∀ x ∈ used, x.Ok) (hv : v.Ok) : PC prog 16 [.d (.sl (used.map B3.d)), .d v.d] (.d (.bool true)) := by
  refine PC.run (fun k => k == 18) tt_ok (fn := f16) (rs := [.tmp 4]) rfl rfl rfl rfl rfl rfl rfl ?_
  have hv1 := hv.a
  have hv2 := hv.b
  have hv3 := hv.c
  have hv4 := hv.e
  have hv0 := hv
  have ea := byte_conv hv1
  have eb := byte_conv hv2
  have ec := byte_conv hv3
  have ee := byte_conv hv4
  have hc0 := hv3.1
  have he0 := hv4.1
  have mc : v.c.tmod 30 = v.c % 30 := Int.tmod_eq_emod_of_nonneg hc0
  have me : v.e.tmod 16 = v.e % 16 := Int.tmod_eq_emod_of_nonneg he0
  have qc : v.c.tdiv 30 = v.c / 30 := Int.tdiv_eq_ediv_of_nonneg hc0
  have qe : v.e.tdiv 16 = v.e / 16 := Int.tdiv_eq_ediv_of_nonneg he0
  have z20 : (20 : Int) ≠ 0 := by omega
  have z30 : (30 : Int) ≠ 0 := by omega
  have z16 : (16 : Int) ≠ 0 := by omega
  simp only [go_sem, B4.d]
  refine ALoop.by (S := Nat) (fun i => [(8, .d (.int .i64 i)), (7, .ref 1 i 0 i), (6, .d (.int .i64 (sumA (used.take i)))), (3, .ptr 0 0), (0, .d (.sl (used.map B3.d)))])
    (fun i => [.cells [.d (.int .u8 v.a), .d (.int .u8 v.b), .d (.int .u8 v.c), .d (.int .u8 v.e)], .arr 2 false (((used.take i).map usedS).map Sp.d)]) (fun i => 10 - i) (fun i => i ≤ used.length ∧ i ≤ 10) 0 (by simp) (fun _ h => nomatch h) ⟨Nat.zero_le _, by omega⟩ ?_ ?_
  · exact ForgetTo.same' (by simp) (by simp [EWe, Env.look, sumA]) (by simp)
  rintro i ⟨hi, hi10⟩ hn
  have hub := sumA_bnd (used.take i) (fun x hx => hu x (List.mem_of_mem_take hx))
  have hlen : (used.take i).length = i := by simp; omega
  rw [hlen] at hub
  refine AWP.run (fun k => k == 18) tt_ok (fun _ h => nomatch h) (by simp) rfl ?_
  simp only [go_sem]
  refine Br_split (fun hd => ?_) (fun hd => ?_) <;> simp only [go_sem, hd]
  · have hlt : i < used.length := by simpa using hd
    refine Br_split (fun hd2 => ?_) (fun hd2 => ?_) <;> simp only [go_sem, hd, hd2]
    · have hlt2 : i < 10 := by simp only [decide_eq_true_eq] at hd2; omega
      have hx := hu _ (List.getElem_mem hlt)
      have hix : idx? (used.map B3.d) (i : Int) = some (used[i]).d := by simp [idx?, List.getElem?_eq_getElem hlt]
      have hst : (used.take (i + 1)) = used.take i ++ [used[i]] := List.take_succ_eq_append_getElem hlt
      generalize used[i] = x at hx hix hst
      have hx1 := hx.a
      have hx2 := hx.b
      have hx3 := hx.c
      have e1 := byte_conv hx1
      have e2 := byte_conv hx2
      have e3 := byte_conv hx3
      simp only [Byte] at hx1 hx2 hx3
      have m2 : x.b.tmod 20 = x.b % 20 := Int.tmod_eq_emod_of_nonneg hx2.1
      have m3 : x.c.tmod 20 = x.c % 20 := Int.tmod_eq_emod_of_nonneg hx3.1
      have w1 : IntKind.i64.wrap (sumA (used.take i) + x.a) = sumA (used.take i) + x.a := w64 (by omega) (by omega)
      have w2 : IntKind.i64.wrap (x.a - x.b % 20) = x.a - x.b % 20 := w64 (by omega) (by omega)
      have w3 : IntKind.i64.wrap (x.a + x.c % 20) = x.a + x.c % 20 := w64 (by omega) (by omega)
      simp only [go_sem, hix, B3.d, e1, w1]
      refine ADrw.treeG (fun k => k == 18) tt_ok (by kernel_rfl) (fun k => if k = 22 then some .W else some .S) (.ones [0, 1, 2, 3, 4, 5, 6, 7, 8, 9, 10, 11, 12, 13, 14, 15, 16, 17, 18, 19, 20, 21, 22, 23] .done) (by simp) (fun _ h => nomatch h) rfl rfl (by kernel_rfl) ?_
      simp only [go_sem, hix, B3.d, e2, e3, m2, m3, w2, w3, remO_ne z20]
      refine (c26 (max 0 (x.a - x.b % 20)) (x.a + x.c % 20)).callS rfl rfl rfl rfl rfl rfl ?_
      have hln : (((used.take i).map usedS).map Sp.d).length = i := by simp; omega
      have hi1 : i + 1 ≤ 4294967296 := by omega
      simp only [go_sem, hln, hlen, hi1, Sp.d, List.length_map]
      refine ⟨i + 1, ⟨hlt, hlt2⟩, by omega, ?_⟩
      exact ForgetTo.same' (by simp) (by simp [EWe, Env.look, hst, sumA, w64 (n := (i : Int) + 1) (by omega) (by omega)]) (by rw [hst]; simp [usedS, Sp.d])
    · 
      have hL : ∀ x ∈ used.take i, x.Ok := fun x hx => hu x (List.mem_of_mem_take hx)
      generalize used.take i = L at hub hlen hL
      have htk : ((L.map usedS).map Sp.d).take i = (L.map usedS).map Sp.d := List.take_of_length_le (by simp [hlen])
      have hsz := sized_sps (L.map usedS)
      have hle : i ≤ 4294967296 := by omega
      obtain ⟨s, t, k1, k2, k3, k4, k5, k6, k7⟩ := missed_law hL (by omega) hv0
      have b1 := hv1
      have b2 := hv2
      have b3 := hv3
      have b4 := hv4
      simp only [Byte] at b1 b2 b3 b4
      refine ADrw.treeG (fun k => k == 18) tt_ok (by kernel_rfl) (fun k => if k = 1 ∨ k = 4 then some .L else some .S) (.ones [0, 1, 2, 3, 4, 5, 6, 7] .done) (by simp) (fun _ h => nomatch h) rfl rfl (by kernel_rfl) ?_
      have w1 : IntKind.i64.wrap (sumA L + v.a) = sumA L + v.a := w64 (by omega) (by omega)
      have w2 : IntKind.i64.wrap (sumA L + v.a + v.b) = sumA L + v.a + v.b := w64 (by omega) (by omega)
      simp only [go_sem, ea, eb, w1, w2]
      generalize hful : sumA L + v.a + v.b = full at k1 k2
      have hf : 0 ≤ full ∧ full ≤ 4000 := by omega
      have w3 : IntKind.i64.wrap (full - v.c % 30) = full - v.c % 30 := w64 (by omega) (by omega)
      have w4 : IntKind.i64.wrap (full + v.c / 30) = full + v.c / 30 := w64 (by omega) (by omega)
      have w5 : IntKind.i64.wrap (v.a - v.e % 16) = v.a - v.e % 16 := w64 (by omega) (by omega)
      have w6 : IntKind.i64.wrap (v.a + v.e / 16) = v.a + v.e / 16 := w64 (by omega) (by omega)
      have q1 : IntKind.i64.wrap (v.c / 30) = v.c / 30 := w64 (by omega) (by omega)
      have q2 : IntKind.i64.wrap (v.e / 16) = v.e / 16 := w64 (by omega) (by omega)
      refine ADrw.treeG (fun k => k == 18) tt_ok (by kernel_rfl) (fun k => if k = 2 ∨ k = 9 ∨ k = 16 ∨ k = 23 then some .L else if k = 30 ∨ k = 31 then some .W else if k = 28 ∨ k = 29 then some .A else some .S) (.ones [0, 1, 2, 3, 4, 5, 6, 7, 8, 9, 10, 11, 12, 13, 14, 15, 16, 17, 18, 19, 20, 21, 22, 23, 24, 25, 26, 27] (.two 28 (.ones [29, 30, 31] .done) 29 (.ones [28, 30, 31] .done))) (by simp) (fun _ h => nomatch h) rfl rfl (by kernel_rfl) ?_
      simp only [go_sem, ec, ee, mc, me, qc, qe, q1, q2, w3, w4, w5, w6, remO_ne z30, remO_ne z16, quoO_ne z30, quoO_ne z16]
      have cA : PC prog 26 [.d (.int .i64 (max 0 (full - v.c % 30))), .d (.int .i64 (full + v.c / 30))] (.d (aS full v.c).d) := c26 _ _
      have cB : PC prog 26 [.d (.int .i64 (max 0 (v.a - v.e % 16))), .d (.int .i64 (v.a + v.e / 16))] (.d (bS v.a v.e).d) := c26 _ _
      refine cA.callS rfl rfl rfl rfl rfl rfl ?_
      simp only [go_sem, ec, ee, mc, me, qc, qe, q1, q2, w3, w4, w5, w6, remO_ne z30, remO_ne z16, quoO_ne z30, quoO_ne z16, Sp.d]
      refine cB.callS rfl rfl rfl rfl rfl rfl ?_
      have wa1 : IntKind.i64.wrap ((aS full v.c).lo - 5) = (aS full v.c).lo - 5 := w64 (by simp only [aS]; omega) (by simp only [aS]; omega)
      have wa2 : IntKind.i64.wrap ((aS full v.c).hi + 5) = (aS full v.c).hi + 5 := w64 (by simp only [aS]; omega) (by simp only [aS]; omega)
      have wb1 : IntKind.i64.wrap ((bS v.a v.e).lo - 5) = (bS v.a v.e).lo - 5 := w64 (by simp only [bS]; omega) (by simp only [bS]; omega)
      have wb2 : IntKind.i64.wrap ((bS v.a v.e).hi + 5) = (bS v.a v.e).hi + 5 := w64 (by simp only [bS]; omega) (by simp only [bS]; omega)
      generalize aS full v.c = A at k1 k2 wa1 wa2
      generalize bS v.a v.e = B at k1 k2 wb1 wb2
      simp only [go_sem, Sp.d]
      refine ⟨?_, ?_⟩
      all_goals
        refine ADrw.treeG (fun k => k == 18) tt_ok (by kernel_rfl) (fun k => if k = 0 ∨ k = 3 ∨ k = 4 then some .L else if k = 10 then some .W else if k = 9 then some .A else some .S) (.ones [0, 1, 2, 3, 4, 5, 6, 7, 8, 9, 10, 11] .done) (Nat.zero_le _) (fun _ h => nomatch h) rfl rfl (by kernel_rfl) ?_
        simp only [go_sem, hlen, hle, hsz, htk, List.length_map, List.nil_append, Nat.zero_add]
        refine (c55 A (L.map usedS) B (by simp; omega)).callS rfl rfl rfl rfl rfl rfl ?_
        rw [k1]
        simp only [go_sem, Sp.d]
        refine ADrw.treeG (fun k => k == 18) tt_ok (by kernel_rfl) (fun k => if k = 1 ∨ k = 5 ∨ k = 10 ∨ k = 12 ∨ k = 16 then some .L else if k = 24 then some .W else if k = 23 then some .A else some .S) (.ones [0, 1, 2, 3, 4, 5, 6, 7, 8, 9, 10, 11, 12, 13, 14, 15, 16, 17, 18, 19, 20, 21, 22, 23, 24, 25] .done) (Nat.zero_le _) (fun _ h => nomatch h) rfl rfl (by kernel_rfl) ?_
        simp only [go_sem, wa1, wa2]
        refine (c26 (max 0 (A.lo - 5)) (A.hi + 5)).callS rfl rfl rfl rfl rfl rfl ?_
        simp only [go_sem, hlen, hle, hsz, htk, List.length_map, List.nil_append, Nat.zero_add, wb1, wb2, Sp.d]
        refine (c26 (max 0 (B.lo - 5)) (B.hi + 5)).callS rfl rfl rfl rfl rfl rfl ?_
        simp only [go_sem, Sp.d]
        refine (c55 (wider A) (L.map usedS) (wider B) (by simp; omega)).callS rfl rfl rfl rfl rfl rfl ?_
        rw [k2]
        simp only [go_sem, Sp.d]
        refine (c62 v.b s).call rfl rfl rfl ?_
        have d1 : (decide (v.b ≥ s.lo) && decide (v.b ≤ s.hi)) = true := by simp; omega
        have d2 : decide (0 ≤ s.lo) = true := by simp; omega
        have d3 : (decide (s.lo ≥ t.lo) && decide (s.hi ≤ t.hi) && decide (s.lo ≤ s.hi)) = true := by simp; omega
        rw [d1]
        simp only [go_sem, Sp.d, d2]
        refine (c69 s t).call rfl rfl rfl ?_
        rw [d3]
        simp only [go_sem, Sp.d, d2]
        refine c17.call rfl rfl rfl ?_
        simp only [go_sem, Sp.d, d2]
  · 
    have hL : ∀ x ∈ used.take i, x.Ok := fun x hx => hu x (List.mem_of_mem_take hx)
    generalize used.take i = L at hub hlen hL
    have htk : ((L.map usedS).map Sp.d).take i = (L.map usedS).map Sp.d := List.take_of_length_le (by simp [hlen])
    have hsz := sized_sps (L.map usedS)
    have hle : i ≤ 4294967296 := by omega
    obtain ⟨s, t, k1, k2, k3, k4, k5, k6, k7⟩ := missed_law hL (by omega) hv0
    have b1 := hv1
    have b2 := hv2
    have b3 := hv3
    have b4 := hv4
    simp only [Byte] at b1 b2 b3 b4
    refine ADrw.treeG (fun k => k == 18) tt_ok (by kernel_rfl) (fun k => if k = 1 ∨ k = 4 then some .L else some .S) (.ones [0, 1, 2, 3, 4, 5, 6, 7] .done) (by simp) (fun _ h => nomatch h) rfl rfl (by kernel_rfl) ?_
    have w1 : IntKind.i64.wrap (sumA L + v.a) = sumA L + v.a := w64 (by omega) (by omega)
    have w2 : IntKind.i64.wrap (sumA L + v.a + v.b) = sumA L + v.a + v.b := w64 (by omega) (by omega)
    simp only [go_sem, ea, eb, w1, w2]
    generalize hful : sumA L + v.a + v.b = full at k1 k2
    have hf : 0 ≤ full ∧ full ≤ 4000 := by omega
    have w3 : IntKind.i64.wrap (full - v.c % 30) = full - v.c % 30 := w64 (by omega) (by omega)
    have w4 : IntKind.i64.wrap (full + v.c / 30) = full + v.c / 30 := w64 (by omega) (by omega)
    have w5 : IntKind.i64.wrap (v.a - v.e % 16) = v.a - v.e % 16 := w64 (by omega) (by omega)
    have w6 : IntKind.i64.wrap (v.a + v.e / 16) = v.a + v.e / 16 := w64 (by omega) (by omega)
    have q1 : IntKind.i64.wrap (v.c / 30) = v.c / 30 := w64 (by omega) (by omega)
    have q2 : IntKind.i64.wrap (v.e / 16) = v.e / 16 := w64 (by omega) (by omega)
    refine ADrw.treeG (fun k => k == 18) tt_ok (by kernel_rfl) (fun k => if k = 2 ∨ k = 9 ∨ k = 16 ∨ k = 23 then some .L else if k = 30 ∨ k = 31 then some .W else if k = 28 ∨ k = 29 then some .A else some .S) (.ones [0, 1, 2, 3, 4, 5, 6, 7, 8, 9, 10, 11, 12, 13, 14, 15, 16, 17, 18, 19, 20, 21, 22, 23, 24, 25, 26, 27] (.two 28 (.ones [29, 30, 31] .done) 29 (.ones [28, 30, 31] .done))) (by simp) (fun _ h => nomatch h) rfl rfl (by kernel_rfl) ?_
    simp only [go_sem, ec, ee, mc, me, qc, qe, q1, q2, w3, w4, w5, w6, remO_ne z30, remO_ne z16, quoO_ne z30, quoO_ne z16]
    have cA : PC prog 26 [.d (.int .i64 (max 0 (full - v.c % 30))), .d (.int .i64 (full + v.c / 30))] (.d (aS full v.c).d) := c26 _ _
    have cB : PC prog 26 [.d (.int .i64 (max 0 (v.a - v.e % 16))), .d (.int .i64 (v.a + v.e / 16))] (.d (bS v.a v.e).d) := c26 _ _
    refine cA.callS rfl rfl rfl rfl rfl rfl ?_
    simp only [go_sem, ec, ee, mc, me, qc, qe, q1, q2, w3, w4, w5, w6, remO_ne z30, remO_ne z16, quoO_ne z30, quoO_ne z16, Sp.d]
    refine cB.callS rfl rfl rfl rfl rfl rfl ?_
    have wa1 : IntKind.i64.wrap ((aS full v.c).lo - 5) = (aS full v.c).lo - 5 := w64 (by simp only [aS]; omega) (by simp only [aS]; omega)
    have wa2 : IntKind.i64.wrap ((aS full v.c).hi + 5) = (aS full v.c).hi + 5 := w64 (by simp only [aS]; omega) (by simp only [aS]; omega)
    have wb1 : IntKind.i64.wrap ((bS v.a v.e).lo - 5) = (bS v.a v.e).lo - 5 := w64 (by simp only [bS]; omega) (by simp only [bS]; omega)
    have wb2 : IntKind.i64.wrap ((bS v.a v.e).hi + 5) = (bS v.a v.e).hi + 5 := w64 (by simp only [bS]; omega) (by simp only [bS]; omega)
    generalize aS full v.c = A at k1 k2 wa1 wa2
    generalize bS v.a v.e = B at k1 k2 wb1 wb2
    simp only [go_sem, Sp.d]
    refine ⟨?_, ?_⟩
    all_goals
      refine ADrw.treeG (fun k => k == 18) tt_ok (by kernel_rfl) (fun k => if k = 0 ∨ k = 3 ∨ k = 4 then some .L else if k = 10 then some .W else if k = 9 then some .A else some .S) (.ones [0, 1, 2, 3, 4, 5, 6, 7, 8, 9, 10, 11] .done) (Nat.zero_le _) (fun _ h => nomatch h) rfl rfl (by kernel_rfl) ?_
      simp only [go_sem, hlen, hle, hsz, htk, List.length_map, List.nil_append, Nat.zero_add]
      refine (c55 A (L.map usedS) B (by simp; omega)).callS rfl rfl rfl rfl rfl rfl ?_
      rw [k1]
      simp only [go_sem, Sp.d]
      refine ADrw.treeG (fun k => k == 18) tt_ok (by kernel_rfl) (fun k => if k = 1 ∨ k = 5 ∨ k = 10 ∨ k = 12 ∨ k = 16 then some .L else if k = 24 then some .W else if k = 23 then some .A else some .S) (.ones [0, 1, 2, 3, 4, 5, 6, 7, 8, 9, 10, 11, 12, 13, 14, 15, 16, 17, 18, 19, 20, 21, 22, 23, 24, 25] .done) (Nat.zero_le _) (fun _ h => nomatch h) rfl rfl (by kernel_rfl) ?_
      simp only [go_sem, wa1, wa2]
      refine (c26 (max 0 (A.lo - 5)) (A.hi + 5)).callS rfl rfl rfl rfl rfl rfl ?_
      simp only [go_sem, hlen, hle, hsz, htk, List.length_map, List.nil_append, Nat.zero_add, wb1, wb2, Sp.d]
      refine (c26 (max 0 (B.lo - 5)) (B.hi + 5)).callS rfl rfl rfl rfl rfl rfl ?_
      simp only [go_sem, Sp.d]
      refine (c55 (wider A) (L.map usedS) (wider B) (by simp; omega)).callS rfl rfl rfl rfl rfl rfl ?_
      rw [k2]
      simp only [go_sem, Sp.d]
      refine (c62 v.b s).call rfl rfl rfl ?_
      have d1 : (decide (v.b ≥ s.lo) && decide (v.b ≤ s.hi)) = true := by simp; omega
      have d2 : decide (0 ≤ s.lo) = true := by simp; omega
      have d3 : (decide (s.lo ≥ t.lo) && decide (s.hi ≤ t.hi) && decide (s.lo ≤ s.hi)) = true := by simp; omega
      rw [d1]
      simp only [go_sem, Sp.d, d2]
      refine (c69 s t).call rfl rfl rfl ?_
      rw [d3]
      simp only [go_sem, Sp.d, d2]
      refine c17.call rfl rfl rfl ?_
      simp only [go_sem, Sp.d, d2]
end Go.Aw
end

section
set_option maxRecDepth 100000
namespace Go.Aw
open Go Go.Proofs

theorem has_u8 {f : Nat} {y : D} (h : HasT Try.prog (f + 1) 5 y) : ∃ n, y = .int .u8 n ∧ Byte n := by
  unfold HasT at h
  rw [Try.underlying5] at h
  obtain ⟨n, rfl, h⟩ := h
  refine ⟨n, rfl, ?_⟩
  simp [Lit.wf, IntKind.min, IntKind.max, IntKind.bits, IntKind.signed] at h
  simp only [Byte]; omega

theorem has_b3 {f : Nat} {y : D} (h : HasT Try.prog (f + 3) 97 y) : ∃ s : B3, y = s.d ∧ s.Ok := by
  unfold HasT at h
  rw [Try.underlying97] at h
  obtain ⟨l, rfl, h⟩ := h
  simp only [HasN] at h
  obtain ⟨y1, r1, rfl, h1, y2, r2, rfl, h2, y3, r3, rfl, h3, rfl⟩ := h
  obtain ⟨n1, rfl, b1⟩ := has_u8 h1
  obtain ⟨n2, rfl, b2⟩ := has_u8 h2
  obtain ⟨n3, rfl, b3⟩ := has_u8 h3
  exact ⟨⟨n1, n2, n3⟩, rfl, ⟨b1, b2, b3⟩⟩

theorem has_b3s {f : Nat} {y : D} (h : HasT Try.prog (f + 4) 124 y) : ∃ l : List B3, y = .sl (l.map B3.d) ∧ ∀ p ∈ l, p.Ok := by
  unfold HasT at h
  rw [Try.underlying124] at h
  obtain ⟨l, rfl, _, hl⟩ := h
  obtain ⟨ss, rfl⟩ := has_list (enc := fun n : {n : B3 // n.Ok} => n.1.d) (fun y hy => by obtain ⟨n, rfl, hn⟩ := has_b3 hy; exact ⟨⟨n, hn⟩, rfl⟩) l hl
  refine ⟨ss.map Subtype.val, by simp, fun n hn => ?_⟩
  obtain ⟨x, _, rfl⟩ := List.mem_map.1 hn
  exact x.2

theorem has_b4 {f : Nat} {y : D} (h : HasT Try.prog (f + 3) 114 y) : ∃ s : B4, y = s.d ∧ s.Ok := by
  unfold HasT at h
  rw [Try.underlying114] at h
  obtain ⟨l, rfl, h⟩ := h
  simp only [HasN] at h
  obtain ⟨y1, r1, rfl, h1, y2, r2, rfl, h2, y3, r3, rfl, h3, y4, r4, rfl, h4, rfl⟩ := h
  obtain ⟨n1, rfl, b1⟩ := has_u8 h1
  obtain ⟨n2, rfl, b2⟩ := has_u8 h2
  obtain ⟨n3, rfl, b3⟩ := has_u8 h3
  obtain ⟨n4, rfl, b4⟩ := has_u8 h4
  exact ⟨⟨n1, n2, n3, n4⟩, rfl, ⟨b1, b2, b3, b4⟩⟩
end Go.Aw
end

section
set_option maxRecDepth 100000
namespace Go.Aw
open Go Go.Proofs.Try

structure Vat where
  s : B3
  plates : List B4

def Vat.d (x : Vat) : D := .agg [.int .u8 x.s.a, .int .u8 x.s.b, .int .u8 x.s.c, .sl (x.plates.map B4.d)]

structure Vat.Ok (x : Vat) : Prop where
  s : x.s.Ok
  p : ∀ v ∈ x.plates, v.Ok

def plateOf (v : B4) : Plate := ⟨⟨max 0 (v.a - v.b % 16), v.a + v.b / 16⟩, v.c % 4, v.e⟩

def Vat.low (x : Vat) : Int := 3 + x.s.a % 25
def Vat.bath (x : Vat) : Bath := ⟨⟨x.low, x.low + x.s.b % 6⟩, (x.plates.take 4).map plateOf⟩
def Vat.str (x : Vat) : Int := x.low + x.s.c % (x.s.b % 6 + 1)
def Vat.rusts (x : Vat) : List Int := (x.plates.take 4).map B4.a

theorem Vat.bathOk {x : Vat} (hx : x.Ok) : x.bath.Ok := by
  have h1 := hx.s.a
  have h2 := hx.s.b
  simp only [Byte] at h1 h2
  refine ⟨by simp only [Vat.bath, Vat.low]; omega, by simp only [Vat.bath]; omega, by simp only [Vat.bath, Vat.low]; omega, by simp [Vat.bath]; omega, fun p hp => ?_⟩
  obtain ⟨v, hv, rfl⟩ := List.mem_map.1 hp
  have k := hx.p v (List.mem_of_mem_take hv)
  have k1 := k.a
  have k2 := k.b
  have k3 := k.c
  have k4 := k.e
  simp only [Byte] at k1 k2 k3 k4
  simp only [Plate.Ok, plateOf]
  omega

theorem c58 {x : Vat} (hx : x.Ok) : PC prog 58 [.d x.d] (.tup [.d x.bath.d, .d (.int .i64 x.str), .d (.sl (x.rusts.map (.int .i64)))]) := by
  refine PC.run (fun k => k == 27 || k == 41) tt_ok (fn := f58) (rs := [.cell 2 26, .tmp 3, .tmp 4]) rfl rfl rfl rfl rfl rfl rfl ?_
  have h1 := hx.s.a
  have h2 := hx.s.b
  have h3 := hx.s.c
  have e1 := byte_conv h1
  have e2 := byte_conv h2
  have e3 := byte_conv h3
  simp only [Byte] at h1 h2 h3
  have m1 : x.s.a.tmod 25 = x.s.a % 25 := Int.tmod_eq_emod_of_nonneg h1.1
  have m2 : x.s.b.tmod 6 = x.s.b % 6 := Int.tmod_eq_emod_of_nonneg h2.1
  have z25 : (25 : Int) ≠ 0 := by omega
  have z6 : (6 : Int) ≠ 0 := by omega
  have w1 : IntKind.i64.wrap (3 + x.s.a % 25) = x.low := w64 (by omega) (by omega)
  have hlow : x.low = 3 + x.s.a % 25 := rfl
  have w2 : IntKind.i64.wrap (x.low + x.s.b % 6) = x.low + x.s.b % 6 := w64 (by omega) (by omega)
  simp only [go_sem, Vat.d, e1, e2, e3, m1, m2, remO_ne z25, remO_ne z6, w1, w2]
  refine (c26 x.low (x.low + x.s.b % 6)).call rfl rfl rfl ?_
  have w3 : IntKind.i64.wrap (x.low + x.s.b % 6 - x.low) = x.s.b % 6 := by rw [w64 (by omega) (by omega)]; omega
  have w4 : IntKind.i64.wrap (x.s.b % 6 + 1) = x.s.b % 6 + 1 := w64 (by omega) (by omega)
  have zb : x.s.b % 6 + 1 ≠ 0 := by omega
  have m3 : x.s.c.tmod (x.s.b % 6 + 1) = x.s.c % (x.s.b % 6 + 1) := Int.tmod_eq_emod_of_nonneg h3.1
  have hm := Int.emod_lt_of_pos x.s.c (show 0 < x.s.b % 6 + 1 by omega)
  have hm0 := Int.emod_nonneg x.s.c zb
  have w5 : IntKind.i64.wrap (x.low + x.s.c % (x.s.b % 6 + 1)) = x.str := w64 (by omega) (by omega)
  simp only [go_sem, Vat.d, e1, e2, e3, m1, m2, m3, remO_ne z25, remO_ne z6, remO_ne zb, w1, w2, w3, w4, w5, Sp.d]
  change AWP _ _ _ _ _ _ _ _
  refine AWP.nilrow 2 2 4 rfl rfl (Nat.zero_le _) ?_
  refine ALoop.by (S := Nat) (fun i => [(9, .d (.int .i64 i)), (8, .ref 3 i 0 i), (7, .d (.int .i64 x.str)), (6, .ptr 2 0), (2, .ptr 1 0), (1, .ptr 0 0)])
    (fun i => [.cells [.d (.int .u8 x.s.a), .d (.int .u8 x.s.b), .d (.int .u8 x.s.c), .d (.sl (x.plates.map B4.d))], .cells [.d (.int .i64 0), .d (.int .i64 0), .d (.sl [])],
      .cells [.d (.int .i64 x.low), .d (.int .i64 (x.low + x.s.b % 6)), .ref 4 i 0 i], .arr 1 false (((x.plates.take i).map B4.a).map (.int .i64)), .arr 4 (decide (i = 0)) (((x.plates.take i).map plateOf).map Plate.d)])
    (fun i => 4 - i) (fun i => i ≤ x.plates.length ∧ i ≤ 4) 0 (Nat.zero_le _) (fun _ h => nomatch h) ⟨Nat.zero_le _, by omega⟩ ?_ ?_
  · exact ForgetTo.same' (Nat.zero_le _) (by simp [EWe, Env.look]) (by simp)
  rintro i ⟨hi, hi4⟩ hn
  have hlen : (x.plates.take i).length = i := by simp; omega
  have FIN : (x.plates.take i) = x.plates.take 4 → (Vat.bath x).plates = (x.plates.take i).map plateOf ∧ x.rusts = (x.plates.take i).map B4.a := fun h => by rw [h]; exact ⟨rfl, rfl⟩
  refine AWP.run (fun k => k == 27 || k == 41) tt_ok (fun _ h => nomatch h) (Nat.zero_le _) rfl ?_
  simp only [go_sem]
  refine Br_split (fun hd => ?_) (fun hd => ?_) <;> simp only [go_sem, hd]
  · have hlt : i < x.plates.length := by simpa using hd
    refine Br_split (fun hd2 => ?_) (fun hd2 => ?_) <;> simp only [go_sem, hd, hd2]
    · have hlt2 : i < 4 := by simp only [decide_eq_true_eq] at hd2; omega
      have hv := hx.p _ (List.getElem_mem hlt)
      have hix : idx? (x.plates.map B4.d) (i : Int) = some (x.plates[i]).d := by simp [idx?, List.getElem?_eq_getElem hlt]
      have hst : (x.plates.take (i + 1)) = x.plates.take i ++ [x.plates[i]] := List.take_succ_eq_append_getElem hlt
      generalize x.plates[i] = v at hv hix hst
      have b1 := hv.a
      have b2 := hv.b
      have b3 := hv.c
      have b4 := hv.e
      have f1 := byte_conv b1
      have f2 := byte_conv b2
      have f3 := byte_conv b3
      have f4 := byte_conv b4
      simp only [Byte] at b1 b2 b3 b4
      have z16 : (16 : Int) ≠ 0 := by omega
      have z4 : (4 : Int) ≠ 0 := by omega
      have n1 : v.b.tmod 16 = v.b % 16 := Int.tmod_eq_emod_of_nonneg b2.1
      have n2 : v.b.tdiv 16 = v.b / 16 := Int.tdiv_eq_ediv_of_nonneg b2.1
      have n3 : v.c.tmod 4 = v.c % 4 := Int.tmod_eq_emod_of_nonneg b3.1
      have v1 : IntKind.i64.wrap (v.a - v.b % 16) = v.a - v.b % 16 := w64 (by omega) (by omega)
      have v2 : IntKind.i64.wrap (v.b / 16) = v.b / 16 := w64 (by omega) (by omega)
      have v3 : IntKind.i64.wrap (v.a + v.b / 16) = v.a + v.b / 16 := w64 (by omega) (by omega)
      have l1 : (((x.plates.take i).map B4.a).map (D.int .i64)).length = i := by simp; omega
      have l2 : (((x.plates.take i).map plateOf).map Plate.d).length = i := by simp; omega
      have hi1 : i + 1 ≤ 4294967296 := by omega
      simp only [go_sem, hix, B4.d, f1, l1, hlen, List.length_map, hi1]
      refine ADrw.treeG (fun k => k == 27 || k == 41) tt_ok (by kernel_rfl) (fun k => if k = 1 ∨ k = 4 ∨ k = 11 ∨ k = 17 ∨ k = 21 then some .L else if k = 25 ∨ k = 27 then some .W else some .S) (.ones [0, 1, 2, 3, 4, 5, 6, 7, 8, 9, 10, 11, 12, 13, 14, 15, 16, 17, 18, 19, 20, 21, 22, 23, 24, 25, 26, 27] .done) (Nat.zero_le _) (fun _ h => nomatch h) rfl rfl (by kernel_rfl) ?_
      simp only [go_sem, f1, f2, f3, f4, n1, n2, n3, v1, v2, v3, remO_ne z16, quoO_ne z16, remO_ne z4]
      refine (c26 (max 0 (v.a - v.b % 16)) (v.a + v.b / 16)).callS rfl rfl rfl rfl rfl rfl ?_
      simp only [go_sem, f1, f2, f3, f4, n1, n2, n3, v1, v2, v3, remO_ne z16, quoO_ne z16, remO_ne z4, Sp.d, l2, hlen, List.length_map, hi1]
      refine ⟨i + 1, ⟨hlt, hlt2⟩, by omega, ?_⟩
      refine ForgetTo.drop (H0 := [_, _, _, _, _]) (Y := [_]) (Nat.zero_le _) ?_ (by simp [BBs, BB, VBs, VB]) ?_
      · rw [hst]; simp [plateOf, Plate.d]
      · simp [EWp, Env.look, pubV, w64 (n := (i : Int) + 1) (by omega) (by omega)]
    · have hie : i = 4 := by simp only [decide_eq_false_iff_not] at hd2; omega
      obtain ⟨p1, p2⟩ := FIN (by rw [hie])
      generalize x.plates.take i = L at hlen p1 p2
      have t1 : (((L.map plateOf).map Plate.d)).take i = (L.map plateOf).map Plate.d := List.take_of_length_le (by simp [hlen])
      have t2 : (((L.map B4.a).map (D.int .i64))).take i = (L.map B4.a).map (D.int .i64) := List.take_of_length_le (by simp [hlen])
      have hbd : x.bath.d = .agg [.int .i64 x.low, .int .i64 (x.low + x.s.b % 6), .sl ((L.map plateOf).map Plate.d)] := by rw [← p1]; rfl
      rw [hbd, p2]
      simp only [go_sem, hlen, t1, t2, List.length_map]
  · have hie : i = x.plates.length := by simp at hd; omega
    obtain ⟨p1, p2⟩ := FIN (by rw [hie, List.take_length, List.take_of_length_le (by omega)])
    generalize x.plates.take i = L at hlen p1 p2
    have t1 : (((L.map plateOf).map Plate.d)).take i = (L.map plateOf).map Plate.d := List.take_of_length_le (by simp [hlen])
    have t2 : (((L.map B4.a).map (D.int .i64))).take i = (L.map B4.a).map (D.int .i64) := List.take_of_length_le (by simp [hlen])
    have hbd : x.bath.d = .agg [.int .i64 x.low, .int .i64 (x.low + x.s.b % 6), .sl ((L.map plateOf).map Plate.d)] := by rw [← p1]; rfl
    rw [hbd, p2]
    simp only [go_sem, hlen, t1, t2, List.length_map]
end Go.Aw
end

section
set_option maxRecDepth 100000
namespace Go.Aw
open Go Go.Proofs.Try

theorem c60 (b : Bath) (hb : b.plates.length ≤ 4294967295) : PC prog 60 [.d b.d] (.d b.d) := by
  refine PC.run (fun _ => false) tt_ok (fn := f60) (rs := [.cell 2 26]) rfl rfl rfl rfl rfl rfl rfl ?_
  have hsz := sized_plates b.plates
  have hle : b.plates.length ≤ 4294967296 := by omega
  simp only [go_sem, Bath.d, hsz, hle, List.length_map, List.nil_append, Nat.zero_add]

theorem c63 (l : List Int) (n : Int) (hl : l.length ≤ 4294967296) : PC prog 63 [.d (.sl (l.map (.int .i64))), .d (.int .i64 n)] (.d (.bool (decide (n ∈ l)))) := by
  refine PC.run (fun _ => false) tt_ok (fn := f63) (rs := [.tmp 4]) rfl rfl rfl rfl rfl rfl rfl ?_
  simp only [go_sem]
  refine ALoop.by (S := Nat) (fun i => [(5, .d (.int .i64 i)), (1, .d (.int .i64 n)), (0, .d (.sl (l.map (.int .i64))))]) (fun i => []) (fun i => l.length - i) (fun i => i ≤ l.length ∧ n ∉ l.take i) 0 (by simp) (fun _ h => nomatch h) ⟨Nat.zero_le _, by simp⟩ ?_ ?_
  · exact ForgetTo.same' (by simp) (by simp [EWe, Env.look]) rfl
  rintro i ⟨hi, hx⟩ hn
  refine AWP.run (fun _ => false) tt_ok (fun _ h => nomatch h) (by simp) rfl ?_
  simp only [go_sem]
  refine Br_split (fun hd => ?_) (fun hd => ?_) <;> simp only [go_sem, hd]
  · have hlt : i < l.length := by simpa using hd
    simp only [go_sem, idx_nat, List.getElem?_map, List.getElem?_eq_getElem hlt]
    have hin := List.getElem_mem hlt
    have hst : l.take (i + 1) = l.take i ++ [l[i]] := List.take_succ_eq_append_getElem hlt
    generalize l[i] = x at hin hst
    refine Br_split (fun he => ?_) (fun he => ?_) <;> simp only [go_sem, he]
    · have : x = n := by simpa using he
      subst this
      simp [hin]
    · have hne : ¬ n = x := fun e => by subst e; simp at he
      refine ⟨i + 1, ⟨hlt, by rw [hst]; simp [hx, hne]⟩, by omega, ?_⟩
      exact ForgetTo.same' (by simp) (by simp [EWe, Env.look, w64 (n := (i : Int) + 1) (by omega) (by omega)]) rfl
  · have hie : i = l.length := by simp at hd; omega
    subst hie
    rw [List.take_length] at hx
    simp [hx]

/-- How a plate truly comes out. -/
def trueHow (b : Bath) (rusts : List Int) (str : Int) (s : Step) : Int :=
  howP ⟨⟨0, 0⟩, 0, (b.pl s.plate).thin⟩ (rusts.getD s.plate.toNat 0) (str * s.hours)

/-- How plates truly come out, and how strong the acid is in the end. -/
def comesR (b : Bath) (rusts : List Int) : List Step → Int → List Int × Int
  | [], str => ([], str)
  | s :: r, str => (trueHow b rusts str s :: (comesR b rusts r (max 0 (str - (b.pl s.plate).takes))).1, (comesR b rusts r (max 0 (str - (b.pl s.plate).takes))).2)

theorem comesR_len (b : Bath) (rusts : List Int) : ∀ (l : List Step) (str : Int), (comesR b rusts l str).1.length = l.length
  | [], _ => rfl
  | s :: r, str => by simp [comesR, comesR_len b rusts r]

theorem comesR_weak (b : Bath) (rusts : List Int) : ∀ (l : List Step) (str : Int), (comesR b rusts l str).2 = weakF b (platesOf l) str
  | [], _ => rfl
  | s :: r, str => by
    simp only [comesR, platesOf, List.map_cons]
    rw [comesR_weak b rusts r]
    rfl

theorem comesR_append (b : Bath) (rusts : List Int) : ∀ (l : List Step) (s : Step) (str : Int), comesR b rusts (l ++ [s]) str = ((comesR b rusts l str).1 ++ [trueHow b rusts (comesR b rusts l str).2 s], max 0 ((comesR b rusts l str).2 - (b.pl s.plate).takes))
  | [], s, str => rfl
  | x :: r, s, str => by
    simp only [List.cons_append, comesR]
    rw [comesR_append b rusts r]

theorem c61 {b : Bath} (hok : b.Ok) (l : List Step) (str : Int) (rusts : List Int) (hl : l.length ≤ 1000) (hs : 0 ≤ str ∧ str ≤ 40) (hr : rusts.length = b.plates.length) (hrb : ∀ r ∈ rusts, 0 ≤ r ∧ r ≤ 600)
    (hm : ∀ x ∈ l, (0 ≤ x.plate ∧ x.plate < b.plates.length) ∧ 1 ≤ x.hours ∧ x.hours ≤ 24) :
    PC prog 61 [.d b.d, .d (.sl (l.map Step.d)), .d (.int .i64 str), .d (.sl (rusts.map (.int .i64)))] (.tup [.d (.sl ((comesR b rusts l str).1.map (.int .i64))), .d (.int .i64 (comesR b rusts l str).2)]) := by
  refine PC.run (fun k => k == 15) tt_ok (fn := f61) (rs := [.tmp 8, .tmp 9]) rfl rfl rfl rfl rfl rfl rfl ?_
  simp only [go_sem, Bath.d]
  refine ALoop.by (S := Nat) (fun i => [(11, .d (.int .i64 i)), (10, .ref 1 i 0 i), (4, .ptr 0 0), (3, .d (.sl (rusts.map (.int .i64)))), (2, .d (.int .i64 (comesR b rusts (l.take i) str).2)), (1, .d (.sl (l.map Step.d)))])
    (fun i => [bthB b, .arr 1 false ((comesR b rusts (l.take i) str).1.map (.int .i64))]) (fun i => l.length - i) (fun i => i ≤ l.length) 0 (by simp) (fun _ h => nomatch h) (Nat.zero_le _) ?_ ?_
  · exact ForgetTo.same' (by simp) (by simp [EWe, Env.look, comesR]) (by simp [bthB, comesR])
  rintro i hi hn
  have hcl := comesR_len b rusts (l.take i) str
  have hlen : (l.take i).length = i := by simp; omega
  rw [hlen] at hcl
  refine AWP.run (fun k => k == 15) tt_ok (fun _ h => nomatch h) (by simp) rfl ?_
  simp only [go_sem, bthB]
  refine Br_split (fun hd => ?_) (fun hd => ?_) <;> simp only [go_sem, hd]
  · have hlt : i < l.length := by simpa using hd
    obtain ⟨m1, m2⟩ := hm _ (List.getElem_mem hlt)
    have hix : idx? (l.map Step.d) (i : Int) = some (l[i]).d := by simp [idx?, List.getElem?_eq_getElem hlt]
    have hst : comesR b rusts (l.take (i + 1)) str = ((comesR b rusts (l.take i) str).1 ++ [trueHow b rusts (comesR b rusts (l.take i) str).2 l[i]], max 0 ((comesR b rusts (l.take i) str).2 - (b.pl l[i].plate).takes)) := by
      rw [List.take_succ_eq_append_getElem hlt, comesR_append]
    have hwk := comesR_weak b rusts (l.take i) str
    have hwb := weakF_bnd hok (platesOf (l.take i)) str hs.1 hs.2
    rw [← hwk] at hwb
    generalize l[i] = s at m1 m2 hix hst
    have hat := Bath.at (b := b) m1
    have hpl := hok.pl s.plate
    simp only [Plate.Ok] at hpl
    obtain ⟨q, hq⟩ : ∃ q : Nat, s.plate = q := ⟨s.plate.toNat, by omega⟩
    have hqr : q < rusts.length := by omega
    have hrx : idx? (rusts.map (D.int .i64)) s.plate = some (.int .i64 (rusts.getD s.plate.toNat 0)) := by
      rw [hq, idx_nat, List.getElem?_map, List.getElem?_eq_getElem hqr, Int.toNat_natCast, List.getD_eq_getElem?_getD, List.getElem?_eq_getElem hqr]; rfl
    have hrb2 : 0 ≤ rusts.getD s.plate.toNat 0 ∧ rusts.getD s.plate.toNat 0 ≤ 600 := by
      rw [hq, Int.toNat_natCast, List.getD_eq_getElem?_getD, List.getElem?_eq_getElem hqr]
      exact hrb _ (List.getElem_mem hqr)
    simp only [trueHow] at hst
    generalize rusts.getD s.plate.toNat 0 = ru at hst hrx hrb2
    generalize (comesR b rusts (l.take i) str).2 = st at hst hwb
    generalize b.pl s.plate = p at hat hpl hst
    have hmul : 0 ≤ st * s.hours ∧ st * s.hours ≤ 960 := by
      refine ⟨Int.mul_nonneg hwb.1 (by omega), ?_⟩
      have := Int.mul_le_mul hwb.2 m2.2 (by omega) (by omega : (0 : Int) ≤ 40)
      omega
    have hwm : IntKind.i64.wrap (st * s.hours) = st * s.hours := w64 (by omega) (by omega)
    have hwt : IntKind.i64.wrap (ru + p.thin) = ru + p.thin := w64 (by omega) (by omega)
    have hws : IntKind.i64.wrap (st - p.takes) = st - p.takes := w64 (by omega) (by omega)
    have hnx : IntKind.i64.wrap ((i : Int) + 1) = ((i + 1 : Nat) : Int) := w64 (by omega) (by omega)
    have hi1 : i + 1 ≤ 4294967296 := by omega
    simp only [go_sem, hix, Step.d, hwm, hrx]
    generalize st * s.hours = loses at hst
    have hcl1 : ((comesR b rusts (l.take i) str).1.map (D.int .i64)).length = i := by simp [hcl]
    refine Br_split (fun h1 => ?_) (fun h1 => ?_) <;> simp only [go_sem, h1]
    all_goals
      refine ADrw.treeG (fun k => k == 15) tt_ok (by kernel_rfl) (fun k => if k = 6 then some .L else some .S) (.ones [0, 1, 2, 3, 4, 5, 6, 7, 8, 9, 10, 11, 12] .done) (by simp) (fun _ h => nomatch h) rfl rfl (by kernel_rfl) ?_
      simp only [go_sem, hrx, hat, Plate.d, hwt]
      refine Br_split (fun h2 => ?_) (fun h2 => ?_) <;> simp only [go_sem, h1, h2]
    all_goals
      simp only [decide_eq_true_eq, decide_eq_false_iff_not] at h1 h2
      refine ADrw.treeG (fun k => k == 15) tt_ok (by kernel_rfl) (fun k => if k = 6 then some .L else if k = 3 then some .W else some .S) (.ones [0, 1, 2, 4, 5, 7] (.two 3 (.ones [6, 8, 9, 10, 11, 12, 13, 14] .done) 6 (.ones [3, 8, 9, 10, 11, 12, 13, 14] .done))) (by simp) (fun _ h => nomatch h) rfl rfl (by kernel_rfl) ?_
      simp only [go_sem, hat, Plate.d, hws, hcl1, hcl, hi1, List.length_map]
      repeat' refine And.intro ?_ ?_
      all_goals
        first
        | (exfalso; omega)
        | (refine ⟨i + 1, hlt, by omega, ?_⟩
           refine ForgetTo.same' (by simp) (by simp [EWe, Env.look, hst, hnx]) ?_
           rw [hst]
           simp [bthB, howP, h1, h2]
           done)
  · have hie : i = l.length := by simp at hd; omega
    subst hie
    rw [List.take_length] at hcl ⊢
    have t1 : ((comesR b rusts l str).1.map (D.int .i64)).take l.length = (comesR b rusts l str).1.map (D.int .i64) := List.take_of_length_le (by simp [hcl])
    simp only [go_sem, hcl, t1, List.length_map]
end Go.Aw
end
