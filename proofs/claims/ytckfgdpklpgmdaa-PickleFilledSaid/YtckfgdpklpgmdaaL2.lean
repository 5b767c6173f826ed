/- The strengths with which a bath can have been filled. What was. All sets of so many numbers. What is wrong. What is missing. The reference: lists compared. The reference: baths; the law's helpers. The bath of the document's examples. The document's examples. What the document's examples say is so. Arguments of the program's types. The reference: all ways in which a plate comes out. Bytes as arguments; the law of what is missing, without the reference. Bytes as arguments of the law. A bath of bytes, with a truth. Steps of bytes; how plates truly come out. Steps of bytes. Vats and pairs of bytes as arguments. What rusts can have been: the program's and the reference's way. The law of what was. What was, without the reference: the plain law. What was seen wrong: the law's last part. What was seen: the law, without the reference, joined. The order with the fewest hours: the plain law. The order with the fewest hours: what the law asks. A smaller list of plates; how the order comes out. The order with the fewest hours: no other order has fewer. Fillings: the plain law. Fillings: the plates of each, by themselves. Fillings: what the law asks. Fillings: the law, without the reference. Fillings: the law's last part. -/
import Derived.Test.YtckfgdpklpgmdaaL1
set_option linter.unusedSimpArgs false
set_option linter.unusedVariables false

section
set_option maxRecDepth 100000
namespace Go.Aw
open Go Go.Proofs.Try

abbrev ItemU := List V × Option (Nat × Blk)

theorem BBs_upd {n : Nat} {u : Option (Nat × Blk)} {H : Heap} (hu : uOk u H) (hb : BBs n H) : BBs n (upd u H) := by
  cases u with
  | none => exact hb
  | some p =>
    obtain ⟨i, x⟩ := p
    cases x with
    | arr sz nl els => exact BBs_set hb trivial
    | _ => exact hu.elim

theorem yield_frameU {yv : V} {n : Nat} {I : List ItemU → Heap → Prop} {Q : V → Heap → Prop} (hyv : VB n yv = true) (hI : ∀ l H, I l H → H.length = n ∧ BBs n H)
    (hy : ∀ a r H, I (a :: r) H → uOk a.2 H ∧ ACallV prog yv a.1 (upd a.2 H) (fun v H' => (v = .d (.bool true) ∧ I r H') ∨ (v = .d (.bool false) ∧ H'.length = n ∧ BBs n H' ∧ Q (.tup []) H')))
    {a : ItemU} {r : List ItemU} {H : Heap} (X : Heap) (ha : VBs n a.1 = true) (h : I (a :: r) H) :
    ACallV prog yv a.1 (upd a.2 H ++ X) (fun v H' => ∃ H1, H' = H1 ++ X ∧ H1.length = n ∧ BBs n H1 ∧ ((v = .d (.bool true) ∧ I r H1) ∨ (v = .d (.bool false) ∧ Q (.tup []) H1))) := by
  obtain ⟨hl, hb⟩ := hI _ _ h
  obtain ⟨hu, hc⟩ := hy _ _ _ h
  have hbu := BBs_upd hu hb
  have hlu : (upd a.2 H).length = n := by rw [upd_len, hl]
  refine (ACallV.frame (fun id x hx => BB_le (by omega) (BBs_get hbu id x hx)) (by rw [hlu]; exact hyv) (by rw [hlu]; exact ha) (fun v H' hv => ?_) hc).mono ?_
  · rcases hv with ⟨_, k⟩ | ⟨_, k, _⟩
    · rw [(hI _ _ k).1, hlu]
    · rw [k, hlu]
  · rintro v H' ⟨H1, rfl, ⟨k1, k2⟩ | ⟨k1, k2, k3, k4⟩⟩
    · exact ⟨H1, rfl, (hI _ _ k2).1, (hI _ _ k2).2, .inl ⟨k1, k2⟩⟩
    · exact ⟨H1, rfl, k2, k3, .inr ⟨k1, k4⟩⟩

/-- How many strengths there are. -/
def Log.N (x : Log) : Nat := (x.bath.str.hi + 1 - x.bath.str.lo).toNat

def itemAt (x : Log) (v : Nat → List Sp → V) (u : Nat → List Sp → Option (Nat × Blk)) (i : Nat) : Option ItemU :=
  (rustsP x (x.bath.str.lo + i)).map fun l => ([.d (.int .i64 (x.bath.str.lo + i)), v i l], u i l)

def itemsF (x : Log) (v : Nat → List Sp → V) (u : Nat → List Sp → Option (Nat × Blk)) : List ItemU := (List.range x.N).filterMap (itemAt x v u)

theorem c93 {x : Log} (hok : x.Ok) (v : Nat → List Sp → V) (u : Nat → List Sp → Option (Nat × Blk)) (hv : ∀ i l H, i < x.N → rustsP x (x.bath.str.lo + i) = some l → uOk (u i l) H → VB H.length (v i l) = true)
    (hcall : ∀ i l H Q, i < x.N → rustsP x (x.bath.str.lo + i) = some l → uOk (u i l) H → Q (.tup [v i l, .d (.bool true)]) (upd (u i l) H) → ACallV prog (.fn (.func 115) [] []) [.d x.d, .d (.int .i64 (x.bath.str.lo + i))] H Q) :
    IterU prog (.fn (.func 93) [.d x.d] []) (itemsF x v u) := by
  intro yv n I Q hf hyv hI hy hend H hH
  have hHl := (hI _ _ hH).1
  have hHb := (hI _ _ hH).2
  obtain ⟨f, y1, y2, rfl⟩ := hf
  have hok' := hok
  obtain ⟨hb, _, _, _⟩ := hok'
  obtain ⟨s1, s2, s3, hb5, _⟩ := hb
  have hN : (x.N : Int) = x.bath.str.hi + 1 - x.bath.str.lo := by simp only [Log.N]; omega
  refine ACallV.of rfl ?_
  refine ACalls.run (fun _ => false) tt_ok (fn := f93) (rs := []) rfl rfl rfl rfl rfl rfl rfl ?_
  simp only [go_sem, hHl, hy0 hHl, Log.d]
  refine ALoop.by (S := Nat × Heap) (fun s => [(4, .d (.int .i64 (x.bath.str.lo + s.1))), (2, .ptr n 0), (1, .fn f y1 y2)])
    (fun s => s.2 ++ [boxX x]) (fun s => x.N - s.1)
    (fun s => s.1 ≤ x.N ∧ I (((List.range x.N).drop s.1).filterMap (itemAt x v u)) s.2) (0, H) (by simp) (fun _ h => nomatch h) ⟨Nat.zero_le _, hH⟩ ?_ ?_
  · exact ForgetTo.same' (by simp) (by simp [EWe, Env.look]) (by simp [boxX])
  rintro ⟨i, Hc⟩ ⟨hi, hI0⟩ hn'
  simp only at hi hI0 hn' ⊢
  have hcl := (hI _ _ hI0).1
  have hcb := (hI _ _ hI0).2
  refine AWP.run (fun _ => false) tt_ok (fun _ h => nomatch h) (by simp; omega) rfl ?_
  simp only [go_sem, hy0 hcl, boxX]
  refine Br_split (fun hd => ?_) (fun hd => ?_) <;> simp only [go_sem, hd]
  · have hlt : i < x.N := by simp at hd; omega
    have hstr : 0 ≤ x.bath.str.lo + i ∧ x.bath.str.lo + i ≤ 40 := by omega
    have hnx : IntKind.i64.wrap (x.bath.str.lo + i + 1) = x.bath.str.lo + ((i + 1 : Nat) : Int) := by rw [w64 (by omega) (by omega)]; omega
    simp only [go_sem, hy0 hcl, boxX]
    have hdr : (List.range x.N).drop i = i :: (List.range x.N).drop (i + 1) := by rw [List.drop_eq_getElem_cons (by simpa using hlt), List.getElem_range]
    rw [hdr] at hI0
    cases h : rustsP x (x.bath.str.lo + i) with
    | none =>
      have hit : itemAt x v u i = none := by simp only [itemAt, h]; rfl
      rw [List.filterMap_cons_none hit] at hI0
      refine (c115 hok hstr).call rfl rfl (by simp only [rustsV, h]; rfl) ?_
      simp only [rustsV, h, go_sem, hy0 hcl, boxX]
      refine ⟨(i + 1, Hc), ⟨hlt, hI0⟩, by simp only; omega, ?_⟩
      exact ForgetTo.same' (by simp; omega) (by simp [EWe, Env.look, hnx]) (by simp [boxX])
    | some l =>
      have hit : itemAt x v u i = some ([.d (.int .i64 (x.bath.str.lo + i)), v i l], u i l) := by simp only [itemAt, h]; rfl
      rw [List.filterMap_cons_some hit] at hI0
      have hu : uOk (u i l) Hc := (hy _ _ _ hI0).1
      refine hcall i l _ _ hlt h (uOk_append _ hu) ?_
      have hul : (upd (u i l) Hc).length = n := by rw [upd_len, hcl]
      rw [upd_append _ hu]
      simp only [go_sem, hy0 hul, boxX]
      have hvb := hv i l Hc hlt h hu
      rw [hcl] at hvb
      refine (yield_frameU hyv hI hy [.cells [.d (.int .i64 x.bath.str.lo), .d (.int .i64 x.bath.str.hi), .d (.sl (x.bath.plates.map Plate.d)), .d (.sl (x.seen.map Seen.d)), .d (.int .i64 x.without)]] (by simp [VBs, VB, hvb]) hI0).mono ?_
      rintro w H' ⟨H1, rfl, k1, k2, k3⟩
      rcases k3 with ⟨rfl, k3⟩ | ⟨rfl, k3⟩
      · simp only [go_sem, hy0 k1]
        refine ⟨(i + 1, H1), ⟨hlt, k3⟩, by simp only; omega, ?_⟩
        exact ForgetTo.same' (by simp; omega) (by simp [EWe, Env.look, hnx]) (by simp [boxX])
      · simp only [go_sem, hHl, htk k1]
        exact ⟨.inr k2, k3⟩
  · have hie : i = x.N := by simp at hd; omega
    rw [List.drop_eq_nil_of_le (by simp; omega)] at hI0
    simp only [go_sem, hHl, htk hcl]
    exact ⟨.inr hcb, hend _ hI0⟩
end Go.Aw
end

section
set_option maxRecDepth 100000
namespace Go.Aw
open Go Go.Proofs.Try

def both (a b : Sp) : Sp := ⟨min a.lo b.lo, max a.hi b.hi⟩

theorem both_self (a : Sp) : both a a = a := by simp [both]

theorem c94 (a b : Sp) : PC prog 94 [.d a.d, .d b.d] (.d (both a b).d) := by
  refine PC.run (fun _ => false) tt_ok (fn := f94) (rs := [.cell 4 23]) rfl rfl rfl rfl rfl rfl rfl ?_
  simp only [go_sem, Sp.d, both]

/-- What can have been, in order. -/
def canL (x : Log) : List (Nat × List Sp) := (List.range x.N).filterMap fun i : Nat => (rustsP x (x.bath.str.lo + i)).map fun l => ((i : Nat), l)

def mixR (r l : List Sp) (p : Nat) : List Sp := (List.zipWith both r l).take p ++ r.drop p

theorem mixR_zero (r l : List Sp) : mixR r l 0 = r := by simp [mixR]
theorem mixR_len {r l : List Sp} (h : l.length = r.length) {p : Nat} (hp : p ≤ r.length) : (mixR r l p).length = r.length := by
  simp [mixR, h]; omega
theorem mixR_get {r l : List Sp} (h : l.length = r.length) {p : Nat} (hp : p < r.length) : (mixR r l p)[p]? = some r[p] := by
  have : ((List.zipWith both r l).take p).length = p := by simp [h]; omega
  rw [mixR, List.getElem?_append_right (by omega), this, Nat.sub_self, List.getElem?_drop, Nat.add_zero, List.getElem?_eq_getElem hp]
theorem mixR_set {r l : List Sp} (h : l.length = r.length) {p : Nat} (hp : p < r.length) : (mixR r l p).set p (both r[p] l[p]) = mixR r l (p + 1) := by
  have h1 : ((List.zipWith both r l).take p).length = p := by simp [h]; omega
  rw [mixR, List.set_append_right _ _ (by omega), h1, Nat.sub_self, List.drop_eq_getElem_cons hp, List.set_cons_zero, mixR, List.take_succ_eq_append_getElem (by simp [h]; omega), List.append_assoc]
  simp
theorem mixR_end {r l : List Sp} (h : l.length = r.length) : mixR r l r.length = List.zipWith both r l := by
  rw [mixR, List.drop_length, List.append_nil, List.take_of_length_le (by simp [h])]

/-- What was: where its row is, the least and the greatest strength, all rusts. -/
def wasS : Option (Nat × Nat × List Sp) → Nat × List Sp → Option (Nat × Nat × List Sp)
  | none, (i, l) => some (i, i, l)
  | some (k, _, r), (i, l) => some (k, i, List.zipWith both r l)

def wasO (x : Log) : Option (Nat × Nat × List Sp) := (canL x).foldl wasS none

def wasV (b : Bath) (l : List Seen) : V :=
  if logE b l = 0 then (match wasO ⟨b, l, 0⟩ with | none => .tup [.d sp0.d, .slx (some true) [], .d (.int .i64 9)] | some (k, h, r) => .tup [.d (Sp.mk (b.str.lo + k) (b.str.lo + h)).d, .d (.sl (r.map Sp.d)), .d (.int .i64 0)]) else .tup [.d sp0.d, .slx (some true) [], .d (.int .i64 (logE b l))]

theorem logP_ok {b : Bath} {l : List Seen} (hl : l.length ≤ 62) (h : logE b l = 0) : b.Ok ∧ (∀ w, w < 2 ^ 62 → (Log.mk b l w).Ok) := by
  unfold logE at h
  split at h
  · rename_i h0
    split at h
    · cases h
    · split at h
      · rename_i h2
        refine ⟨checkP_iff.1 h0, fun w hw => ⟨checkP_iff.1 h0, hl, hw, fun s hs => stepsOk_mem h2 s.step (List.mem_map.2 ⟨s, hs, rfl⟩)⟩⟩
      · cases h
  · rename_i h0; exact absurd h h0

def isArr : Blk → Bool
  | .arr _ _ _ => true
  | _ => false

theorem BBs_arr {n : Nat} : ∀ {l : List Blk}, (∀ x ∈ l, isArr x = true) → BBs n l
  | [], _ => trivial
  | .arr _ _ _ :: _, h => ⟨trivial, BBs_arr fun x hx => h x (List.mem_cons_of_mem _ hx)⟩
  | .cells c :: _, h => by have := h (.cells c) List.mem_cons_self; cases this
  | .loop a b c d e f :: _, h => by have := h (.loop a b c d e f) List.mem_cons_self; cases this
  | .obj o :: _, h => by have := h (.obj o) List.mem_cons_self; cases this

def rowV (n i : Nat) : V := if n = 0 then .d (.sl []) else .ref (i + 5) n 0 n

def rowU (n i : Nat) (l : List Sp) : Option (Nat × Blk) := if n = 0 then none else some (i + 5, .arr 2 false (l.map Sp.d))

def itemI (b : Bath) (p : Nat × List Sp) : ItemU := ([.d (.int .i64 (b.str.lo + p.1)), rowV b.plates.length p.1], rowU b.plates.length p.1 p.2)

/-- The heap of Was. -/
def hW (b : Bath) (l : List Seen) (lo hi : Int) (rv : V) (e : Int) (rows : Heap) : Heap :=
  .cells [.d (.int .i64 b.str.lo), .d (.int .i64 b.str.hi), .d (.sl (b.plates.map Plate.d))] :: .cells [.d (.int .i64 lo), .d (.int .i64 hi)] :: .cells [rv] :: .cells [.d (.int .i64 e)] ::
    .cells [.d (.int .i64 b.str.lo), .d (.int .i64 b.str.hi), .d (.sl (b.plates.map Plate.d)), .d (.sl (l.map Seen.d)), .d (.int .i64 0)] :: rows

def hS (b : Bath) (l : List Seen) : Option (Nat × Nat × List Sp) → Heap → Heap
  | none, rows => hW b l 0 0 (.slx (some true) []) 9 rows
  | some (k, h, _), rows => hW b l (b.str.lo + k) (b.str.lo + h) (rowV b.plates.length k) 0 rows

/-- What holds of Was's rows. -/
structure JW (b : Bath) (m : Nat) (q : List (Nat × List Sp)) (st : Option (Nat × Nat × List Sp)) (rows : Heap) : Prop where
  len : rows.length = m
  arr : ∀ x ∈ rows, isArr x = true
  due : ∀ p ∈ q, p.1 < m ∧ p.2.length = b.plates.length ∧ (b.plates.length ≠ 0 → rows[p.1]? = some (.arr 2 true []))
  pw : q.Pairwise (fun a c => a.1 ≠ c.1)
  cur : ∀ k h r, st = some (k, h, r) → k < m ∧ r.length = b.plates.length ∧ (∀ p ∈ q, p.1 ≠ k) ∧ (b.plates.length ≠ 0 → rows[k]? = some (.arr 2 false (r.map Sp.d)))

theorem JW.next {b : Bath} {m i : Nat} {now : List Sp} {q' : List (Nat × List Sp)} {st : Option (Nat × Nat × List Sp)} {rows : Heap} (hJ : JW b m ((i, now) :: q') st rows) {k h : Nat} {r : List Sp} {rows2 : Heap} (hl : rows2.length = m) (ha : ∀ x ∈ rows2, isArr x = true) (hk : k < m)
    (hr : r.length = b.plates.length) (hq : ∀ p ∈ q', p.1 ≠ k) (hrow : b.plates.length ≠ 0 → rows2[k]? = some (.arr 2 false (r.map Sp.d))) (ho : ∀ j, j ≠ i → j ≠ k → rows2[j]? = rows[j]?) : JW b m q' (some (k, h, r)) rows2 where
  len := hl
  arr := ha
  due := fun p hp => by
    obtain ⟨h1, h2, h3⟩ := hJ.due p (List.mem_cons_of_mem _ hp)
    refine ⟨h1, h2, fun hn => ?_⟩
    rw [ho p.1 (fun e => (List.pairwise_cons.1 hJ.pw).1 p hp e.symm) (hq p hp)]
    exact h3 hn
  pw := (List.pairwise_cons.1 hJ.pw).2
  cur := fun k' h' r' e => by
    cases e
    exact ⟨hk, hr, hq, hrow⟩

theorem canL_pw (x : Log) : (canL x).Pairwise (fun a c => a.1 ≠ c.1) := by
  refine List.Pairwise.filterMap _ (R := fun a c : Nat => a ≠ c) ?_ List.nodup_range
  intro a c hac p hp p' hp' he
  simp only [Option.map_eq_some_iff] at hp hp'
  obtain ⟨l, _, rfl⟩ := hp
  obtain ⟨l', _, rfl⟩ := hp'
  exact hac he

theorem canL_mem {x : Log} {p : Nat × List Sp} (h : p ∈ canL x) : p.1 < x.N ∧ p.2.length = x.bath.plates.length := by
  simp only [canL, List.mem_filterMap, Option.map_eq_some_iff] at h
  obtain ⟨i, hi, l, hl, rfl⟩ := h
  exact ⟨by simpa using hi, rustsP_len hl⟩

theorem items_can (x : Log) : itemsF x (fun i _ => rowV x.bath.plates.length i) (rowU x.bath.plates.length) = (canL x).map (itemI x.bath) := by
  simp only [itemsF, canL, List.map_filterMap]
  congr 1
  funext i
  simp only [itemAt, Option.map_map]
  rfl

theorem c49 (b : Bath) (l : List Seen) (hb : b.plates.length ≤ 4294967296) (hl : l.length ≤ 62) : PC prog 49 [.d b.d, .d (.sl (l.map Seen.d))] (wasV b l) := by
  refine PC.run (fun _ => false) tt_ok (fn := f49) (rs := [.cell 4 23, .cell 5 32, .cell 6 30]) rfl rfl rfl rfl rfl rfl rfl ?_
  simp only [go_sem, Bath.d]
  refine (c92 b l hb (by omega)).call rfl rfl rfl ?_
  simp only [go_sem, Bath.d, Log.d]
  refine Br_split (fun hc => ?_) (fun hc => ?_) <;> simp only [go_sem, hc]
  · have h0 : ¬ logE b l = 0 := by simpa using hc
    refine ADrw.treeG (fun _ => false) tt_ok (by kernel_rfl) (fun k => if k = 0 ∨ k = 1 then some .L else if k = 2 ∨ k = 3 ∨ k = 4 then some .W else some .S) (.ones [0] (.two 1 (.ones [2, 3, 4] .done) 2 (.two 1 (.ones [3, 4] .done) 3 (.ones [1, 4] .done)))) (by simp) (fun _ h => nomatch h) rfl rfl (by kernel_rfl) ?_
    simp only [go_sem]
    simp [wasV, h0, sp0, Sp.d]
  have h0 : logE b l = 0 := by simpa using hc
  have hlp : logP b l = ⟨b, l, 0⟩ := by rw [logP, if_pos h0]
  rw [hlp]
  obtain ⟨hbo, hxo⟩ := logP_ok hl h0
  have hok := hxo 0 (by omega)
  simp only [go_sem]
  refine (AWP.newrows 2 (Log.mk b l 0).N (Nat.zero_le _) ?_ : AWP _ _ _ _ _ _ _ _)
  change AWP _ _ _ _ _ _ (hS b l none (List.replicate (Log.mk b l 0).N (.arr 2 true []))) _
  have hm5 : ∀ st rows, rows.length = (Log.mk b l 0).N → (hS b l st rows).length = (Log.mk b l 0).N + 5 := fun st rows h => by cases st <;> simp [hS, hW, h]
  have hlen0 : (hS b l none (List.replicate (Log.mk b l 0).N (.arr 2 true []))).length = (Log.mk b l 0).N + 5 := hm5 _ _ (by simp)
  refine ARng.iterU (items := (canL ⟨b, l, 0⟩).map (itemI b)) (J := fun rest Hc => ∃ q st rows, rest = q.map (itemI b) ∧ Hc = hS b l st rows ∧ JW b (Log.mk b l 0).N q st rows ∧ q.foldl wasS st = wasO ⟨b, l, 0⟩)
    (Nat.zero_le _) (fun _ h => nomatch h) rfl ?_ rfl (by rw [hlen0]; simp [VBs, VB]) ?_ ?_ ?_ ?_ ?_ ?_
  · refine cast (congrArg _ (items_can ⟨b, l, 0⟩)) (c93 hok _ _ ?_ ?_)
    · intro i r H hi hr hu
      simp only [rowV]
      split
      · rfl
      · rename_i hn
        simp only [rowU, if_neg hn] at hu
        simpa [VB] using uOk_lt hu
    · intro i r H Q hi hr hu hq
      have hstr : 0 ≤ b.str.lo + i ∧ b.str.lo + i ≤ 40 := by
        obtain ⟨s1, s2, s3, _, _⟩ := hbo
        simp only [Log.N] at hi
        omega
      have hrl := rustsP_len hr
      by_cases hn : b.plates.length = 0
      · have hr0 : r = [] := List.length_eq_zero_iff.1 (by rw [hrl]; exact hn)
        simp only [rowV, rowU, if_pos hn, upd] at hq
        refine (c115 hok hstr).call rfl rfl (by simp only [rustsV, hr]; rfl) ?_
        simp only [rustsV, hr, hr0, List.map_nil]
        exact hq
      · simp only [rowV, rowU, if_neg hn, upd] at hq hu
        have hr1 := r115 hok hstr
        have hB : rB ⟨b, l, 0⟩ (b.str.lo + i) = [boxX ⟨b, l, 0⟩] ++ [.arr 2 false (r.map Sp.d)] := by simp only [rB, hr, hn, decide_false]; rfl
        have hV : rV ⟨b, l, 0⟩ (b.str.lo + i) = .tup [.ref 1 b.plates.length 0 b.plates.length, .d (.bool true)] := by simp only [rV, hr]
        rw [hB, hV] at hr1
        exact PCr.into hr1 hu.1 hu.2 rfl rfl rfl hq
  · rintro rest Hc ⟨q, st, rows, rfl, rfl, hJ, _⟩
    refine ⟨?_, ?_⟩
    · rw [hm5 _ _ hJ.len, hlen0]
    · rw [hlen0]
      have hba : ∀ k, BBs k rows := fun k => BBs_arr hJ.arr
      cases st with
      | none => simp [hS, hW, BBs, BB, VBs, VB, hba]
      | some p =>
        obtain ⟨k, h, r⟩ := p
        have hk := (hJ.cur k h r rfl).1
        have hv : VB ((Log.mk b l 0).N + 5) (rowV b.plates.length k) = true := by
          simp only [rowV]
          split
          · rfl
          · simp [VB, hk]
        simp [hS, hW, BBs, BB, VBs, VB, hba, hv]
  · refine ⟨canL ⟨b, l, 0⟩, none, List.replicate (Log.mk b l 0).N (.arr 2 true []), rfl, rfl, ⟨by simp, fun x hx => by rw [List.eq_of_mem_replicate hx]; rfl, fun p hp => ?_, canL_pw _, fun k h r he => by cases he⟩, rfl⟩
    obtain ⟨h1, h2⟩ := canL_mem hp
    exact ⟨h1, h2, fun _ => by rw [List.getElem?_replicate, if_pos h1]⟩
  · rintro Hc ⟨q, st, rows, hq, rfl, hJ, hfo⟩
    obtain rfl : q = [] := by simpa using hq.symm
    simp only [List.foldl_nil] at hfo
    subst hfo
    simp only [go_sem]
    refine ADrw.treeG (fun _ => false) tt_ok (by kernel_rfl) (fun k => if k = 0 ∨ k = 1 ∨ k = 2 then some .L else if k = 3 ∨ k = 4 ∨ k = 5 then some .W else some .S)
      (.ones [0] (.three 1 (.two 2 (.ones [3, 4, 5] .done) 3 (.two 2 (.ones [4, 5] .done) 4 (.ones [2, 5] .done))) 2 (.two 1 (.ones [3, 4, 5] .done) 3 (.ones [1, 4, 5] .done)) 3 (.two 1 (.two 2 (.ones [4, 5] .done) 4 (.ones [2, 5] .done)) 2 (.ones [1, 4, 5] .done)))) (Nat.zero_le _) (fun _ h => nomatch h) rfl rfl (by kernel_rfl) ?_
    cases hw : wasO ⟨b, l, 0⟩ with
    | none =>
      simp only [go_sem, hS, hW]
      simp [wasV, h0, hw, sp0, Sp.d]
    | some p =>
      obtain ⟨k, h, r⟩ := p
      obtain ⟨k1, k2, k3, k4⟩ := hJ.cur k h r hw
      by_cases hn : b.plates.length = 0
      · have hr0 : r = [] := List.length_eq_zero_iff.1 (by omega)
        simp only [go_sem, hS, hW, rowV, if_pos hn]
        simp [wasV, h0, hw, hr0, Sp.d]
      · have hk4 := k4 hn
        have htk : (r.map Sp.d).take b.plates.length = r.map Sp.d := List.take_of_length_le (by simp [k2])
        simp only [go_sem, hS, hW, rowV, if_neg hn, hk4, k2, htk, List.length_map, Nat.not_lt_zero]
        simp [wasV, h0, hw, Sp.d]
  · intro xs has
    obtain ⟨p, _, rfl⟩ := List.mem_map.1 has
    rfl
  · rintro xs rest Hc has ⟨q, st, rows, hq, rfl, hJ, hfo⟩
    obtain ⟨p, q', rfl⟩ : ∃ p q', q = p :: q' := by cases q with
      | nil => cases hq
      | cons p r => exact ⟨p, r, rfl⟩
    obtain ⟨rfl, rfl⟩ : xs = itemI b p ∧ rest = q'.map (itemI b) := by simpa using hq
    obtain ⟨k1, k2, k3⟩ := hJ.due p List.mem_cons_self
    simp only [itemI, rowU]
    split
    · trivial
    · rename_i hn
      refine ⟨?_, fun e => hn (by rw [← k2]; simpa using e)⟩
      have := k3 hn
      cases st <;> simpa [hS, hW] using this
  · rintro L L' xs rest Hc has ⟨q, st, rows, hq, rfl, hJ, hfo⟩
    obtain ⟨p, q', rfl⟩ : ∃ p q', q = p :: q' := by cases q with
      | nil => cases hq
      | cons p r => exact ⟨p, r, rfl⟩
    obtain ⟨rfl, rfl⟩ : xs = itemI b p ∧ rest = q'.map (itemI b) := by simpa using hq
    obtain ⟨i, now⟩ := p
    obtain ⟨k1, k2, k3⟩ := hJ.due (i, now) List.mem_cons_self
    simp only at k1 k2 k3
    rw [hlen0]
    refine AWP.run (fun _ => false) tt_ok (fun _ h => by cases h; exact Nat.lt_succ_self _) ?_ rfl ?_
    · simp only [itemI, List.length_append, upd_len, hm5 st rows hJ.len, List.length_singleton]
      exact Nat.le_refl _
    -- the row that was filled
    obtain ⟨rows1, hr1, hr1l, hr1a, hr1i, hr1o⟩ : ∃ rows1, upd (itemI b (i, now)).2 (hS b l st rows) = hS b l st rows1 ∧ rows1.length = (Log.mk b l 0).N ∧ (∀ x ∈ rows1, isArr x = true) ∧ (b.plates.length ≠ 0 → rows1[i]? = some (.arr 2 false (now.map Sp.d))) ∧ (∀ j, j ≠ i → rows1[j]? = rows[j]?) := by
      by_cases hn : b.plates.length = 0
      · exact ⟨rows, by simp only [itemI, rowU, if_pos hn, upd], hJ.len, hJ.arr, fun h => absurd hn h, fun _ _ => rfl⟩
      · refine ⟨rows.set i (.arr 2 false (now.map Sp.d)), ?_, by simp [hJ.len], fun x hx => ?_, fun _ => ?_, fun j hj => ?_⟩
        · simp only [itemI, rowU, if_neg hn, upd]
          cases st <;> rfl
        · rcases List.mem_or_eq_of_mem_set hx with hx | rfl
          · exact hJ.arr x hx
          · rfl
        · rw [List.getElem?_set_self (by rw [hJ.len]; exact k1)]
        · rw [List.getElem?_set_ne (fun e => hj e.symm)]
    rw [hr1]
    simp only [go_sem, itemI]
    have hL : (hS b l st rows1 ++ [L])[(Log.mk b l 0).N + 5]? = some L := by rw [List.getElem?_append_right (by rw [hm5 _ _ hr1l]; exact Nat.le_refl _), hm5 _ _ hr1l, Nat.sub_self]; rfl
    refine ⟨hL, ?_⟩
    have hset : (hS b l st rows1 ++ [L]).set ((Log.mk b l 0).N + 5) L' = hS b l st rows1 ++ [L'] := by rw [List.set_append_right _ _ (by rw [hm5 _ _ hr1l]; exact Nat.le_refl _), hm5 _ _ hr1l, Nat.sub_self]; rfl
    rw [hset]
    generalize (Log.mk b l 0).N = m at *
    have hnB : b.plates.length ≤ 5 := hbo.2.2.2.1
    refine AWP.run (fun _ => false) tt_ok (fun _ h => by cases h; omega) (by rw [List.length_append, hm5 _ _ hr1l]; exact Nat.le_refl _) rfl ?_
    simp only [List.foldl_cons] at hfo
    have hpw' := hJ.pw
    rw [List.pairwise_cons] at hpw'
    have hnx : ∀ p : Nat, p < 10 → IntKind.i64.wrap ((p : Int) + 1) = ((p + 1 : Nat) : Int) := fun p hp => w64 (by omega) (by omega)
    have hgm : ∀ rows2 : Heap, rows2.length = m → (rows2 ++ [L'])[m]? = some L' := fun rows2 h => by rw [List.getElem?_append_right (by omega), h, Nat.sub_self]; rfl
    have hgr : ∀ (rows2 : Heap) (j : Nat), rows2.length = m → j < m → (rows2 ++ [L'])[j]? = rows2[j]? := fun rows2 j h hj => List.getElem?_append_left (by omega)
    have hsr : ∀ (rows2 : Heap) (j : Nat) (X : Blk), rows2.length = m → j < m → (rows2 ++ [L']).set j X = rows2.set j X ++ [L'] := fun rows2 j X h hj => List.set_append_left _ _ (by omega)
    have htk : ∀ rows2 : Heap, rows2.length = m → (rows2 ++ [L']).take m = rows2 := fun rows2 h => by rw [← h]; simp
    cases st with
    | none =>
      by_cases hn : b.plates.length = 0
      · have hnow : now = [] := List.length_eq_zero_iff.1 (by omega)
        simp only [go_sem, hS, hW, rowV, if_pos hn]
        refine ALoop.by (S := Nat) (fun p => [(35, .d (.int .i64 p)), (34, .d (.int .i64 0)), (6, .ptr 3 0), (5, .ptr 2 0), (4, .ptr 1 0)])
          (fun _ => hW b l (b.str.lo + i) (b.str.lo + i) (.d (.sl [])) 0 (rows1 ++ [L'])) (fun p => 0) (fun p => True) 0 (by simp [hr1l]) (fun _ h => by cases h; omega) trivial ?_ ?_
        · exact ForgetTo.same' (by simp [hr1l]) (by simp [EWe, Env.look]) (by simp [hW])
        rintro p hp hn2
        refine AWP.run (fun _ => false) tt_ok (fun _ h => by cases h; omega) hn2 rfl ?_
        have hd : decide ((p : Int) < 0) = false := by simp
        simp only [go_sem, hd, hW, hgm _ hr1l, htk _ hr1l]
        refine ⟨BBs_arr hr1a, q', some (i, i, now), rows1, rfl, rfl, hJ.next hr1l hr1a k1 k2 (fun p hp e => hpw'.1 p hp e.symm) hr1i (fun j h1 _ => hr1o j h1), hfo⟩
      · have hgi : (rows1 ++ [L'])[i]? = some (.arr 2 false (now.map Sp.d)) := by rw [hgr _ _ hr1l k1]; exact hr1i hn
        simp only [go_sem, hS, hW, rowV, if_neg hn, hgi, List.length_map, k2]
        refine ALoop.by (S := Nat) (fun p => [(35, .d (.int .i64 p)), (34, .d (.int .i64 b.plates.length)), (9, .ref (i + 5) b.plates.length 0 b.plates.length), (6, .ptr 3 0), (5, .ptr 2 0), (4, .ptr 1 0)])
          (fun _ => hW b l (b.str.lo + i) (b.str.lo + i) (.ref (i + 5) b.plates.length 0 b.plates.length) 0 (rows1 ++ [L'])) (fun p => b.plates.length - p) (fun p => p ≤ b.plates.length) 0 (by simp [hr1l]) (fun _ h => by cases h; omega) (Nat.zero_le _) ?_ ?_
        · exact ForgetTo.same' (by simp [hr1l]) (by simp [EWe, Env.look]) (by simp [hW])
        rintro p hp hn2
        refine AWP.run (fun _ => false) tt_ok (fun _ h => by cases h; omega) hn2 rfl ?_
        simp only [go_sem]
        refine Br_split (fun hd => ?_) (fun hd => ?_) <;> simp only [go_sem, hd]
        · have hlt : p < b.plates.length := by simpa using hd
          have hge : (now.map Sp.d)[p]? = some (now[p]).d := by rw [List.getElem?_map, List.getElem?_eq_getElem (by omega)]; rfl
          have hse : (now.map Sp.d).set p (now[p]).d = now.map Sp.d := by
            rw [← List.map_set]; congr 1; exact List.set_getElem_self _
          have hsb : (rows1 ++ [L']).set i (.arr 2 false (now.map Sp.d)) = rows1 ++ [L'] := set_same hgi
          generalize now[p] = a at hge hse
          have c1 : (0 : Int) ≤ (p : Int) := by omega
          have c2 : (p : Int) < (b.plates.length : Int) := by omega
          simp only [go_sem, hW]
          refine ADrw.treeG (fun _ => false) tt_ok (by kernel_rfl) (fun k => if k = 0 ∨ k = 2 ∨ k = 4 ∨ k = 5 ∨ k = 8 ∨ k = 9 ∨ k = 11 then some .L else if k = 12 then some .W else some .S) (.ones [0, 1, 2, 3, 4, 5, 6, 7, 8, 9, 10, 11, 12] .done) (by simp [hr1l]) (fun _ h => by cases h; omega) rfl rfl (by kernel_rfl) ?_
          simp only [go_sem, hgi, hge, List.length_map, k2, c1, c2, Int.toNat_natCast, Sp.d]
          refine (c94 a a).callS rfl rfl rfl rfl rfl rfl ?_
          rw [both_self]
          have hse' : (now.map Sp.d).set p (.agg [.int .i64 a.lo, .int .i64 a.hi]) = now.map Sp.d := hse
          simp only [go_sem, hgi, hge, List.length_map, k2, c1, c2, Int.toNat_natCast, Sp.d, hsb, hse']
          refine ⟨p + 1, hlt, by omega, ?_⟩
          exact ForgetTo.same' (by simp [hr1l]) (by simp [EWe, Env.look, hnx p (by omega)]) (by simp [hW, hsb])
        · have hpe : p = b.plates.length := by simp at hd; omega
          simp only [go_sem, hW, hgm _ hr1l, htk _ hr1l]
          refine ⟨⟨by omega, BBs_arr hr1a⟩, q', some (i, i, now), rows1, rfl, rfl, hJ.next hr1l hr1a k1 k2 (fun p hp e => hpw'.1 p hp e.symm) hr1i (fun j h1 _ => hr1o j h1), hfo⟩
    | some st0 =>
      obtain ⟨k, h, r⟩ := st0
      obtain ⟨j1, j2, j3, j4⟩ := hJ.cur k h r rfl
      have hik : i ≠ k := j3 (i, now) List.mem_cons_self
      by_cases hn : b.plates.length = 0
      · have hnow : now = [] := List.length_eq_zero_iff.1 (by omega)
        have hr : r = [] := List.length_eq_zero_iff.1 (by omega)
        subst hnow
        subst hr
        simp only [go_sem, hS, hW, rowV, if_pos hn]
        refine ALoop.by (S := Nat) (fun p => [(35, .d (.int .i64 p)), (34, .d (.int .i64 0)), (6, .ptr 3 0), (5, .ptr 2 0), (4, .ptr 1 0)])
          (fun _ => hW b l (b.str.lo + k) (b.str.lo + i) (.d (.sl [])) 0 (rows1 ++ [L'])) (fun p => 0) (fun p => True) 0 (by simp [hr1l]) (fun _ h => by cases h; omega) trivial ?_ ?_
        · exact ForgetTo.same' (by simp [hr1l]) (by simp [EWe, Env.look]) (by simp [hW])
        rintro p hp hn2
        refine AWP.run (fun _ => false) tt_ok (fun _ h => by cases h; omega) hn2 rfl ?_
        have hd : decide ((p : Int) < 0) = false := by simp
        simp only [go_sem, hd, hW, hgm _ hr1l, htk _ hr1l]
        refine ⟨BBs_arr hr1a, q', some (k, i, []), rows1, rfl, by simp only [hS, hW, rowV, if_pos hn], hJ.next hr1l hr1a j1 j2 (fun p hp => j3 p (List.mem_cons_of_mem _ hp)) (fun h => absurd hn h) (fun j h1 _ => hr1o j h1), hfo⟩
      · have hrk : rows1[k]? = some (.arr 2 false (r.map Sp.d)) := by rw [hr1o k (fun e => hik e.symm)]; exact j4 hn
        have hlr : now.length = r.length := by omega
        have hgi : (rows1 ++ [L'])[i]? = some (.arr 2 false (now.map Sp.d)) := by rw [hgr _ _ hr1l k1]; exact hr1i hn
        simp only [go_sem, hS, hW, rowV, if_neg hn, hgi, List.length_map, k2]
        refine ALoop.by (S := Nat) (fun p => [(35, .d (.int .i64 p)), (34, .d (.int .i64 b.plates.length)), (9, .ref (i + 5) b.plates.length 0 b.plates.length), (6, .ptr 3 0), (5, .ptr 2 0), (4, .ptr 1 0)])
          (fun p => hW b l (b.str.lo + k) (b.str.lo + i) (.ref (k + 5) b.plates.length 0 b.plates.length) 0 (rows1.set k (.arr 2 false ((mixR r now p).map Sp.d)) ++ [L'])) (fun p => b.plates.length - p) (fun p => p ≤ b.plates.length) 0 (by simp [hr1l]) (fun _ h => by cases h; omega) (Nat.zero_le _) ?_ ?_
        · exact ForgetTo.same' (by simp [hr1l]) (by simp [EWe, Env.look]) (by rw [mixR_zero, set_same hrk]; simp [hW])
        rintro p hp hn2
        have hrpl : (rows1.set k (.arr 2 false ((mixR r now p).map Sp.d))).length = m := by simp [hr1l]
        refine AWP.run (fun _ => false) tt_ok (fun _ h => by cases h; omega) hn2 rfl ?_
        simp only [go_sem]
        refine Br_split (fun hd => ?_) (fun hd => ?_) <;> simp only [go_sem, hd]
        · have hlt : p < b.plates.length := by simpa using hd
          have hgk : (rows1.set k (.arr 2 false ((mixR r now p).map Sp.d)) ++ [L'])[k]? = some (.arr 2 false ((mixR r now p).map Sp.d)) := by rw [hgr _ _ hrpl j1, List.getElem?_set_self (by omega)]
          have hgi2 : (rows1.set k (.arr 2 false ((mixR r now p).map Sp.d)) ++ [L'])[i]? = some (.arr 2 false (now.map Sp.d)) := by rw [hgr _ _ hrpl k1, List.getElem?_set_ne (fun e => hik e.symm)]; exact hr1i hn
          have hge : (now.map Sp.d)[p]? = some (now[p]).d := by rw [List.getElem?_map, List.getElem?_eq_getElem (by omega)]; rfl
          have hgf : ((mixR r now p).map Sp.d)[p]? = some (r[p]).d := by rw [List.getElem?_map, mixR_get hlr (by omega)]; rfl
          have hml : (mixR r now p).length = b.plates.length := by rw [mixR_len hlr (by omega)]; exact j2
          have hse : ((mixR r now p).map Sp.d).set p (both r[p] now[p]).d = (mixR r now (p + 1)).map Sp.d := by rw [← List.map_set, mixR_set hlr (by omega)]
          have hsb : ∀ X : Blk, (rows1.set k (.arr 2 false ((mixR r now p).map Sp.d)) ++ [L']).set k X = rows1.set k X ++ [L'] := fun X => by rw [hsr _ _ _ hrpl j1, List.set_set]
          generalize now[p] = a at hge hse
          generalize r[p] = a2 at hgf hse
          have c1 : (0 : Int) ≤ (p : Int) := by omega
          have c2 : (p : Int) < (b.plates.length : Int) := by omega
          simp only [go_sem, hW]
          refine ADrw.treeG (fun _ => false) tt_ok (by kernel_rfl) (fun k => if k = 0 ∨ k = 2 ∨ k = 4 ∨ k = 5 ∨ k = 8 ∨ k = 9 ∨ k = 11 then some .L else if k = 12 then some .W else some .S) (.ones [0, 1, 2, 3, 4, 5, 6, 7, 8, 9, 10, 11, 12] .done) (by simp [hr1l]) (fun _ h => by cases h; omega) rfl rfl (by kernel_rfl) ?_
          simp only [go_sem, hgi2, hgk, hge, hgf, hml, List.length_map, k2, c1, c2, Int.toNat_natCast, Sp.d]
          refine (c94 a2 a).callS rfl rfl rfl rfl rfl rfl ?_
          have hse' : ((mixR r now p).map Sp.d).set p (.agg [.int .i64 (both a2 a).lo, .int .i64 (both a2 a).hi]) = (mixR r now (p + 1)).map Sp.d := hse
          simp only [go_sem, hgi2, hgk, hge, hgf, hml, List.length_map, k2, c1, c2, Int.toNat_natCast, Sp.d, hsb, hse']
          refine ⟨p + 1, hlt, by omega, ?_⟩
          exact ForgetTo.same' (by simp [hr1l]) (by simp [EWe, Env.look, hnx p (by omega)]) (by simp [hW, hsb])
        · have hpe : p = b.plates.length := by simp at hd; omega
          have hme : mixR r now p = List.zipWith both r now := by rw [hpe, ← j2, mixR_end hlr]
          have hzl : (List.zipWith both r now).length = b.plates.length := by simp [hlr, j2]
          rw [hme] at hrpl ⊢
          simp only [go_sem, hW, hgm _ hrpl, htk _ hrpl]
          refine ⟨⟨by omega, BBs_arr (fun x hx => ?_)⟩, q', some (k, i, List.zipWith both r now), _, rfl, by simp only [hS, hW, rowV, if_neg hn], hJ.next hrpl (fun x hx => ?_) j1 hzl (fun p hp => j3 p (List.mem_cons_of_mem _ hp)) (fun _ => List.getElem?_set_self (by omega)) (fun j h1 h2 => ?_), hfo⟩
          · rcases List.mem_or_eq_of_mem_set hx with hx | rfl
            · exact hr1a x hx
            · rfl
          · rcases List.mem_or_eq_of_mem_set hx with hx | rfl
            · exact hr1a x hx
            · rfl
          · rw [List.getElem?_set_ne (fun e => h2 e.symm)]; exact hr1o j h1
end Go.Aw
end

section
set_option maxRecDepth 100000
namespace Go.Aw
open Go Go.Proofs.Try

/-- All sets of so many numbers, from some of them on: the next k numbers from n on may be in it. -/
def subsF (many : Nat) : Nat → List Nat → Nat → Nat → List (List Nat × Nat)
  | 0, _, _, _ => []
  | k + 1, l, set, n => (if (l ++ [n]).length = many then [(l ++ [n], set ||| 2 ^ n)] else subsF many k (l ++ [n]) (set ||| 2 ^ n) (n + 1)) ++ subsF many k l set (n + 1)

def onF' (many k : Nat) (l : List Nat) (set n : Nat) : List (List Nat × Nat) := if l.length = many then [(l, set)] else subsF many k l set n

theorem subsF_succ (many k : Nat) (l : List Nat) (set n : Nat) : subsF many (k + 1) l set n = onF' many k (l ++ [n]) (set ||| 2 ^ n) (n + 1) ++ subsF many k l set (n + 1) := rfl

def setsP (below many : Nat) : List (List Nat × Nat) := onF' many below [] 0 0

def setI (p : List Nat × Nat) : List V := [.d (.sl (natsD p.1)), .d (.int .i64 p.2)]

def setV (below many : Nat) : V := .fn (.func 116) [] [.pp [.int .i64 many], .pp [.int .i64 below]]

theorem c95 (below many : Nat) : PC prog 95 [.d (.int .i64 below), .d (.int .i64 many)] (setV below many) := by
  refine PC.run (fun _ => false) tt_ok (fn := f95) (rs := [.tmp 4]) rfl rfl rfl rfl rfl rfl rfl ?_
  simp only [go_sem, setV]

section
variable {yv : V} {n : Nat} {I : List (List V) → Heap → Prop} {Q : V → Heap → Prop} {below many : Nat}

def onW (n below many : Nat) : V := .fn (.func 117) [] [.pp [.int .i64 many], .ptr n 0, .pp [.int .i64 below], .ptr (n + 1) 0]

def SPost (yv : V) (n below many : Nat) (I : List (List V) → Heap → Prop) (Q : V → Heap → Prop) (rest : List (List V)) (v : V) (H' : Heap) : Prop :=
  ∃ H1, H' = H1 ++ [.cells [yv], .cells [onW n below many]] ∧ H1.length = n ∧ BBs n H1 ∧ ((v = .d (.bool true) ∧ I rest H1) ∨ (v = .d (.bool false) ∧ Q (.tup []) H1))

theorem c117 (hb : below ≤ 60) (hf : ∃ f x y, yv = .fn f x y) (hyv : VB n yv = true) (hI : ∀ l H, I l H → H.length = n ∧ BBs n H)
    (hy : ∀ a r H, I (a :: r) H → ACallV prog yv a H (fun v H' => (v = .d (.bool true) ∧ I r H') ∨ (v = .d (.bool false) ∧ H'.length = n ∧ BBs n H' ∧ Q (.tup []) H'))) :
    ∀ (k : Nat) (l : List Nat) (set first : Nat) (rest : List (List V)) (H : Heap), first + k = below → l.length ≤ first → set < 2 ^ first → I ((onF' many k l set first).map setI ++ rest) H →
      ACalls prog 117 [.d (.sl (natsD l)), .d (.int .i64 set), .d (.int .i64 first), .pp [.int .i64 many], .ptr n 0, .pp [.int .i64 below], .ptr (n + 1) 0] (H ++ [.cells [yv], .cells [onW n below many]]) (SPost yv n below many I Q rest) := by
  obtain ⟨f, x, y, rfl⟩ := hf
  intro k
  induction k using Nat.strongRecOn with
  | ind k ih =>
    intro l set first rest H hk hlf hset hi
    have hHl := (hI _ _ hi).1
    have hHb := (hI _ _ hi).2
    have hyn : ∀ H1 : Heap, H1.length = n → BBs n H1 → BBs (n + 2) (H1 ++ [.cells [.fn f x y], .cells [onW n below many]]) := fun H1 h1 h2 =>
      BBs_append (BBs_le (by omega) h2) ⟨by simp only [BB, VBs, Bool.and_true]; exact VB_le (by omega) _ hyv, by simp [BB, VBs, VB, onW], trivial⟩
    have hl62 : l.length ≤ 60 := by omega
    have hs62 : set < 2 ^ 62 := Nat.lt_of_lt_of_le hset (Nat.pow_le_pow_right (by omega) (by omega))
    refine ACalls.run (fun _ => false) tt_ok (fn := f117) (rs := [.tmp 10]) rfl rfl rfl rfl rfl rfl rfl ?_
    have hHn : (H ++ [Blk.cells [.fn f x y], Blk.cells [onW n below many]]).length = n + 2 := by simp [hHl]
    simp only [go_sem, hyl hHl, natsD_len]
    rw [hHn]
    refine Br_split (fun hc => ?_) (fun hc => ?_) <;> simp only [go_sem, hyl hHl, hc, hy0 hHl]
    · have hlm : l.length = many := by simp only [decide_eq_true_eq] at hc; omega
      rw [onF', if_pos hlm] at hi
      refine (yield_frame hyv hI hy (r := rest) [.cells [.fn f x y], .cells [onW n below many]] rfl hi).mono ?_
      rintro v H' ⟨H1, rfl, k1, k2, k3⟩
      have ht : (H1 ++ [Blk.cells [V.fn f x y], Blk.cells [onW n below many]]).take (n + 2) = H1 ++ [Blk.cells [V.fn f x y], Blk.cells [onW n below many]] := List.take_of_length_le (by simp [k1])
      rcases k3 with ⟨rfl, k3⟩ | ⟨rfl, k3⟩
      · simp only [go_sem, ht, hHl]
        exact ⟨.inr (hyn H1 k1 k2), H1, rfl, k1, k2, .inl ⟨rfl, k3⟩⟩
      · simp only [go_sem, ht, hHl]
        exact ⟨.inr (hyn H1 k1 k2), H1, rfl, k1, k2, .inr ⟨rfl, k3⟩⟩
    · have hlm : ¬ l.length = many := by simp only [decide_eq_false_iff_not] at hc; omega
      rw [onF', if_neg hlm] at hi
      refine ALoop.by (S := Nat × Heap) (fun s => [(11, .d (.int .i64 (first + s.1 : Nat))), (6, .ptr (n + 1) 0), (5, .pp [.int .i64 below]), (4, .ptr n 0), (3, .pp [.int .i64 many]), (1, .d (.int .i64 set)), (0, .d (.sl (natsD l)))])
        (fun s => s.2 ++ [.cells [.fn f x y], .cells [onW n below many]]) (fun s => k - s.1) (fun s => s.1 ≤ k ∧ I ((subsF many (k - s.1) l set (first + s.1)).map setI ++ rest) s.2) (0, H) (by simp [hHl]) (fun _ h => nomatch h) ⟨Nat.zero_le _, hi⟩ ?_ ?_
      · exact ForgetTo.same' (by simp [hHl]) (by simp [EWe, Env.look]) (by simp)
      rintro ⟨j, Hc⟩ ⟨hj, hI0⟩ hn2
      simp only at hj hI0 hn2 ⊢
      have hcl := (hI _ _ hI0).1
      have hcb := (hI _ _ hI0).2
      refine AWP.run (fun _ => false) tt_ok (fun _ h => nomatch h) (by simp [hcl]) rfl ?_
      simp only [go_sem]
      refine Br_split (fun hd => ?_) (fun hd => ?_) <;> simp only [go_sem, hd]
      · have hlt : j < k := by simp only [decide_eq_true_eq] at hd; omega
        obtain ⟨k', hk'⟩ : ∃ k', k - j = k' + 1 := ⟨k - j - 1, by omega⟩
        rw [hk', subsF_succ, List.map_append, List.append_assoc] at hI0
        have hpw : 2 ^ (first + j) < 2 ^ 62 := Nat.pow_lt_pow_right (by omega) (by omega)
        have hor : orI .i64 (set : Nat) ((2 ^ (first + j) : Nat) : Int) = ((set ||| 2 ^ (first + j) : Nat) : Int) := orN (by omega) (by omega)
        have hnx : IntKind.i64.wrap (((first + j : Nat) : Int) + 1) = ((first + j + 1 : Nat) : Int) := by rw [w64 (by omega) (by omega)]; omega
        have hset2 : set ||| 2 ^ (first + j) < 2 ^ (first + j + 1) := bit_lt (Nat.lt_of_lt_of_le hset (Nat.pow_le_pow_right (by omega) (by omega)))
        have hsz := sized_nats l
        have hle : l.length + 1 ≤ 4294967296 := by omega
        refine ADrw.treeG (fun _ => false) tt_ok (by kernel_rfl) (fun k => if k = 0 then some .L else if k = 12 then none else some .S) (.ones [0, 1, 2, 3, 4, 5, 6, 7, 8, 9, 10, 11] (.only 12 (.one 13 .done))) (by simp [hcl]) (fun _ h => nomatch h) rfl rfl (by kernel_rfl) ?_
        simp only [go_sem, hy1 hcl, onW]
        refine (c111 (natsD l) (sized_nats l)).callS rfl rfl rfl rfl rfl rfl ?_
        simp only [go_sem, hy1 hcl, onW, hsz, hle, natsD_len, shlN (show first + j < 63 by omega), hor, hnx]
        have happ : natsD l ++ [.int .i64 ((first + j : Nat) : Int)] = natsD (l ++ [first + j]) := by simp [natsD]
        rw [happ]
        have hc2 := ih k' (by omega) (l ++ [first + j]) (set ||| 2 ^ (first + j)) (first + j + 1) _ Hc (by omega) (by simp; omega) hset2 hI0
        refine ACallV.of rfl (ACalls.mono hc2 ?_)
        rintro v H' ⟨H1, rfl, k1, k2, k3⟩
        have ht : (H1 ++ [Blk.cells [V.fn f x y], Blk.cells [onW n below many]]).take (n + 2) = H1 ++ [Blk.cells [V.fn f x y], Blk.cells [onW n below many]] := List.take_of_length_le (by simp [k1])
        rcases k3 with ⟨rfl, k3⟩ | ⟨rfl, k3⟩
        · simp only [go_sem]
          refine ⟨(j + 1, H1), ⟨hlt, ?_⟩, by simp only; omega, ?_⟩
          · rw [show k - (j + 1) = k' by omega]; exact k3
          · exact ForgetTo.same' (by simp [k1]) (by simp [EWe, Env.look]; rw [w64 (by omega) (by omega)]; omega) rfl
        · simp only [go_sem, ht]
          exact ⟨.inr (hyn H1 k1 k2), H1, rfl, k1, k2, .inr ⟨rfl, k3⟩⟩
      · have hje : j = k := by simp only [decide_eq_false_iff_not] at hd; omega
        subst hje
        rw [Nat.sub_self] at hI0
        simp only [subsF, List.map_nil, List.nil_append] at hI0
        have ht : (Hc ++ [Blk.cells [V.fn f x y], Blk.cells [onW n below many]]).take (n + 2) = Hc ++ [Blk.cells [V.fn f x y], Blk.cells [onW n below many]] := List.take_of_length_le (by simp [hcl])
        rw [ht]
        exact ⟨.inr (hyn Hc hcl hcb), Hc, rfl, hcl, hcb, .inl ⟨rfl, hI0⟩⟩
end

theorem c116 {below many : Nat} (hb : below ≤ 60) : Iter prog (setV below many) ((setsP below many).map setI) := by
  intro yv n I Q hf hyv hI hy hend H hH
  have hHl := (hI _ _ hH).1
  have hHb := (hI _ _ hH).2
  have hf' := hf
  obtain ⟨f, x, y, rfl⟩ := hf'
  refine ACallV.of rfl ?_
  refine ACalls.run (fun _ => false) tt_ok (fn := f116) (rs := []) rfl rfl rfl rfl rfl rfl rfl ?_
  simp only [go_sem, hyl hHl, hy0 hHl, hy1 hHl, hs1 hHl, List.append_assoc]
  rw [hHl]
  have hc := c117 (below := below) (many := many) hb hf hyv hI hy below [] 0 0 [] H (by omega) (Nat.le_refl _) (by simp) (by rw [List.append_nil]; exact hH)
  refine ACallV.of rfl (ACalls.dz (ACalls.mono hc ?_))
  rintro v H' ⟨H1, rfl, k1, k2, k3⟩
  have hq : Q (.tup []) H1 := by
    rcases k3 with ⟨_, k3⟩ | ⟨_, k3⟩
    · exact hend _ k3
    · exact k3
  simp only [go_sem, htk k1]
  exact ⟨.inr k2, hq⟩
end Go.Aw
end

section
set_option maxRecDepth 100000
namespace Go.Aw
open Go Go.Proofs.Try

theorem subsF_mem (many : Nat) : ∀ (k : Nat) (l : List Nat) (set n : Nat), set < 2 ^ n → ∀ p ∈ subsF many k l set n, p.1.length = many ∧ p.2 < 2 ^ (n + k)
  | 0, l, set, n, hs, p, hp => by simp [subsF] at hp
  | k + 1, l, set, n, hs, p, hp => by
    have h2 : set ||| 2 ^ n < 2 ^ (n + 1) := bit_lt hs
    rw [subsF_succ, List.mem_append] at hp
    rcases hp with hp | hp
    · unfold onF' at hp
      split at hp
      · rename_i h
        simp only [List.mem_singleton] at hp
        subst hp
        exact ⟨h, Nat.lt_of_lt_of_le h2 (Nat.pow_le_pow_right (by omega) (by omega))⟩
      · have := subsF_mem many k _ _ _ h2 p hp
        rw [show n + (k + 1) = n + 1 + k by omega]; exact this
    · have := subsF_mem many k l set (n + 1) (Nat.lt_of_lt_of_le hs (Nat.pow_le_pow_right (by omega) (by omega))) p hp
      rw [show n + (k + 1) = n + 1 + k by omega]; exact this

theorem setsP_mem {below many : Nat} {p : List Nat × Nat} (hp : p ∈ setsP below many) : p.1.length = many ∧ p.2 < 2 ^ below := by
  unfold setsP onF' at hp
  split at hp
  · rename_i h
    simp only [List.mem_singleton] at hp
    subst hp
    exact ⟨h, Nat.two_pow_pos _⟩
  · have := subsF_mem many below [] 0 0 (by simp) p hp
    simpa using this

/-- Can the bath have been filled at all, if some things seen are wrong? -/
def fitsB (b : Bath) (l : List Seen) (w : Nat) : Bool := !(canL ⟨b, l, w⟩).isEmpty

def wrongF (b : Bath) (l : List Seen) : Option (List Nat × Nat) := ((List.range (l.length + 1)).flatMap (setsP l.length)).find? fun p => fitsB b l p.2

def wrongV (b : Bath) (l : List Seen) : V :=
  if logE b l = 0 then (match wrongF b l with | none => .tup [.slx (some true) [], .d (.int .i64 9)] | some p => if p.1 = [] then .tup [.slx (some true) [], .d (.int .i64 6)] else .tup [.d (.sl (natsD p.1)), .d (.int .i64 0)])
  else .tup [.slx (some true) [], .d (.int .i64 (logE b l))]

/-- The heap of Wrong. -/
def hG (b : Bath) (l : List Seen) (w : Nat) (v : V) (e : Int) : Heap :=
  [.cells [.d (.int .i64 b.str.lo), .d (.int .i64 b.str.hi), .d (.sl (b.plates.map Plate.d))], .cells [v], .cells [.d (.int .i64 e)],
    .cells [.d (.int .i64 b.str.lo), .d (.int .i64 b.str.hi), .d (.sl (b.plates.map Plate.d)), .d (.sl (l.map Seen.d)), .d (.int .i64 w)]]

theorem c96d (l : List Nat) (hl : l.length ≤ 1000) (hne : l ≠ []) : PC prog 96 [.d (.sl (natsD l))] (.d (.sl (natsD l))) := by
  refine PC.of_r (c96 l hl hne) ?_
  have : (natsD l).take l.length = natsD l := List.take_of_length_le (by simp [natsD_len])
  simp [pubV, natsD_len, this]

/-- What the strengths' items are as data. -/
def itemD (b : Bath) (p : Nat × List Sp) : ItemU := ([.d (.int .i64 (b.str.lo + p.1)), .d (.sl (p.2.map Sp.d))], none)

theorem c93d {x : Log} (hok : x.Ok) : IterU prog (.fn (.func 93) [.d x.d] []) ((canL x).map (itemD x.bath)) := by
  have he : itemsF x (fun _ l => .d (.sl (l.map Sp.d))) (fun _ _ => none) = (canL x).map (itemD x.bath) := by
    simp only [itemsF, canL, List.map_filterMap]
    congr 1
    funext i
    simp only [itemAt, Option.map_map]
    rfl
  rw [← he]
  refine c93 hok _ _ (fun _ _ _ _ _ _ => rfl) ?_
  intro i l H Q hi hr _ hq
  have hb := hok.1
  obtain ⟨s1, s2, s3, _, _⟩ := hb
  simp only [Log.N] at hi
  refine (c115 hok (str := x.bath.str.lo + i) (by omega)).call rfl rfl (by simp only [rustsV, hr]; rfl) ?_
  simp only [rustsV, hr]
  exact hq

theorem c50 (b : Bath) (l : List Seen) (hb : b.plates.length ≤ 4294967296) (hl : l.length ≤ 60) : PC prog 50 [.d b.d, .d (.sl (l.map Seen.d))] (wrongV b l) := by
  refine PC.run (fun _ => false) tt_ok (fn := f50) (rs := [.cell 4 27, .cell 5 30]) rfl rfl rfl rfl rfl rfl rfl ?_
  simp only [go_sem, Bath.d]
  refine (c92 b l hb (by omega)).call rfl rfl rfl ?_
  simp only [go_sem, Bath.d, Log.d]
  refine Br_split (fun hc => ?_) (fun hc => ?_) <;> simp only [go_sem, hc]
  · have h0 : ¬ logE b l = 0 := by simpa using hc
    simp [wrongV, h0]
  have h0 : logE b l = 0 := by simpa using hc
  have hlp : logP b l = ⟨b, l, 0⟩ := by rw [logP, if_pos h0]
  rw [hlp]
  obtain ⟨hbo, hxo⟩ := logP_ok (by omega) h0
  have hw : IntKind.i64.wrap ((l.length : Int) + 1) = ((l.length + 1 : Nat) : Int) := by rw [w64 (by omega) (by omega)]; omega
  simp only [go_sem, hw]
  refine ALoop.by (S := Nat × Nat) (fun s => [(23, .d (.int .i64 s.1)), (22, .d (.int .i64 (l.length + 1 : Nat))), (6, .ptr 3 0), (5, .ptr 2 0), (4, .ptr 1 0), (1, .d (.sl (l.map Seen.d)))])
    (fun s => hG b l s.2 (.slx (some true) []) 0) (fun s => l.length + 1 - s.1)
    (fun s => s.1 ≤ l.length + 1 ∧ wrongF b l = (((List.range (l.length + 1)).drop s.1).flatMap (setsP l.length)).find? fun p => fitsB b l p.2) (0, 0) (by simp) (fun _ h => nomatch h) ⟨Nat.zero_le _, rfl⟩ ?_ ?_
  · exact ForgetTo.same' (by simp) (by simp [EWe, Env.look]) (by simp [hG])
  rintro ⟨many, w⟩ ⟨hm, hfst⟩ hn'
  simp only at hm hfst hn' ⊢
  refine AWP.run (fun _ => false) tt_ok (fun _ h => nomatch h) (by simp) rfl ?_
  simp only [go_sem]
  refine Br_split (fun hd => ?_) (fun hd => ?_) <;> simp only [go_sem, hd]
  · have hlt : many < l.length + 1 := by simp only [decide_eq_true_eq] at hd; omega
    simp only [go_sem, hG]
    refine (c95 l.length many).call rfl rfl rfl ?_
    simp only [go_sem]
    rw [List.drop_eq_getElem_cons (by simpa using hlt), List.flatMap_cons, List.find?_append, List.getElem_range] at hfst
    refine ARng.iterN (items := (setsP l.length many).map setI) (J := fun rest Hx => ∃ (w : Nat) (pre : List (List Nat × Nat)), Hx = hG b l w (.slx (some true) []) 0 ++ [.cells [.d (.int .i64 many)]] ∧ rest = pre.map setI ∧ (∀ p ∈ pre, p ∈ setsP l.length many) ∧ (setsP l.length many).find? (fun p => fitsB b l p.2) = pre.find? (fun p => fitsB b l p.2))
      (by simp) (fun _ h => nomatch h) rfl (c116 (by omega)) rfl (by simp [VBs, VB, setV]) ?_ ?_ ?_ ?_ ?_
    · rintro rest Hx ⟨w1, pre, rfl, _, _, _⟩
      exact ⟨rfl, by simp [hG, BBs, BB, VBs, VB]⟩
    · exact ⟨w, _, rfl, rfl, fun _ h => h, rfl⟩
    · rintro Hx ⟨w1, pre, rfl, hp, _, hf1⟩
      obtain rfl : pre = [] := by simpa using hp.symm
      simp only [go_sem]
      refine ⟨(many + 1, w1), ⟨by omega, ?_⟩, by simp only; omega, ?_⟩
      · rw [hfst, hf1]; simp [List.range_succ]
      · refine ForgetTo.drop (H0 := hG b l w1 (.slx (some true) []) 0) (Y := [_]) (Nat.zero_le _) rfl (by simp [hG, BBs, BB, VBs, VB]) ?_
        simp [EWp, Env.look, pubV, hG, w64 (n := (many : Int) + 1) (by omega) (by omega)]
    · intro xs hxs
      obtain ⟨p, _, rfl⟩ := List.mem_map.1 hxs
      rfl
    · rintro L L' xs rest Hx hbL hxs ⟨w1, pre, rfl, hp, hpm, hf1⟩
      obtain ⟨p, rest', rfl⟩ : ∃ p rest', pre = p :: rest' := by cases pre with
        | nil => cases hp
        | cons p r => exact ⟨p, r, rfl⟩
      obtain ⟨rfl, rfl⟩ : xs = setI p ∧ rest = rest'.map setI := by simpa using hp
      refine AWP.run (fun _ => false) tt_ok (fun _ h => by cases h; simp) (by simp [hG]) rfl ?_
      simp only [go_sem, setI, hG]
      refine AWP.run (fun _ => false) tt_ok (fun _ h => by cases h; simp) (by simp) rfl ?_
      simp only [go_sem]
      have hpl := setsP_mem (hpm p List.mem_cons_self)
      have hp62 : p.2 < 2 ^ 62 := Nat.lt_of_lt_of_le hpl.2 (Nat.pow_le_pow_right (by omega) (by omega))
      have hxk := hxo p.2 hp62
      have hbL6 : BB 7 L' := BB_le (by simp) hbL
      refine ARng.iterU (items := (canL ⟨b, l, p.2⟩).map (itemD b)) (J := fun rest Hx => Hx = hG b l p.2 (.slx (some true) []) 0 ++ [.cells [.d (.int .i64 many)], L', .cells [.d (.sl (natsD p.1))]] ∧ rest = (canL ⟨b, l, p.2⟩).map (itemD b))
        (by simp) (fun _ h => by cases h; simp) rfl (c93d hxk) rfl (by simp [VBs, VB, setV]) ?_ ?_ ?_ ?_ ?_ ?_
      · rintro rest Hx ⟨rfl, _⟩
        exact ⟨rfl, by simp [hG, BBs, BB, VBs, VB]; exact hbL6⟩
      · exact ⟨rfl, rfl⟩
      · rintro Hx ⟨rfl, he⟩
        have he' : canL ⟨b, l, p.2⟩ = [] := by simpa using he.symm
        simp only [go_sem, hG]
        refine ⟨p.2, rest', rfl, rfl, fun q hq => hpm q (List.mem_cons_of_mem _ hq), ?_⟩
        rw [hf1, List.find?_cons_of_neg]
        simp [fitsB, he']
      · intro xs hxs
        obtain ⟨q, _, rfl⟩ := List.mem_map.1 hxs
        rfl
      · intro xs rest Hx hxs _
        obtain ⟨q, _, rfl⟩ := List.mem_map.1 hxs
        trivial
      · rintro L2 L2' xs rest Hx hxs ⟨rfl, he⟩
        have hfit : fitsB b l p.2 = true := by
          simp only [fitsB]
          cases h : canL ⟨b, l, p.2⟩ with
          | nil => rw [h] at hxs; cases hxs
          | cons _ _ => rfl
        rw [List.find?_cons_of_pos (by simpa using hfit)] at hf1
        rw [hf1] at hfst
        obtain ⟨q, _, rfl⟩ := List.mem_map.1 hxs
        refine AWP.run (fun _ => false) tt_ok (fun _ h => by cases h; simp) (by simp [hG, itemD, upd]) rfl ?_
        simp only [go_sem, itemD, upd, hG]
        refine AWP.run (fun _ => false) tt_ok (fun _ h => by cases h; simp) (by simp) rfl ?_
        simp only [go_sem]
        refine Br_split (fun h0m => ?_) (fun h0m => ?_) <;> simp only [go_sem, h0m]
        · have hm0 : many = 0 := by simp only [decide_eq_true_eq] at h0m; omega
          have hp1 : p.1 = [] := List.length_eq_zero_iff.1 (by omega)
          refine ⟨hbL6, ?_⟩
          simp [wrongV, h0, hfst, hp1]
        · have hm0 : ¬ many = 0 := by simp only [decide_eq_false_iff_not] at h0m; omega
          have hp1 : p.1 ≠ [] := fun e => hm0 (by rw [← hpl.1, e]; rfl)
          refine (c96d p.1 (by omega) hp1).call rfl rfl rfl ?_
          simp only [go_sem]
          refine ⟨hbL6, ?_⟩
          simp [wrongV, h0, hfst, hp1]
  · have hme : many = l.length + 1 := by simp only [decide_eq_false_iff_not] at hd; omega
    rw [List.drop_eq_nil_of_le (by simp [hme])] at hfst
    simp only [go_sem, hG]
    simp [wrongV, h0, hfst]
end Go.Aw
end

section
set_option maxRecDepth 100000
namespace Go.Aw
open Go Go.Proofs.Try

def badCarboy (s : Sp) : Bool := !(within 0 5000 [s.lo, s.hi] && decide (s.lo ≤ s.hi))

theorem c100 (s : Sp) : PC prog 100 [.d s.d] (.d (.bool (badCarboy s))) := by
  refine PC.run (fun _ => false) tt_ok (fn := f100) (rs := [.tmp 2]) rfl rfl rfl rfl rfl rfl rfl ?_
  simp only [go_sem, Sp.d]
  refine (c73 0 5000 s).call rfl rfl rfl ?_
  simp only [go_sem, badCarboy]

theorem badCarboy_iff (s : Sp) : badCarboy s = false ↔ 0 ≤ s.lo ∧ s.lo ≤ s.hi ∧ s.hi ≤ 5000 := by
  simp [badCarboy, within]
  omega

theorem sized_sps (l : List Sp) : sized 2 (l.map Sp.d) = true := by
  simp [sized, Sp.d, dcells]

theorem c102 (l : List D) (hl : sized 2 l = true) : PC prog 102 [.d (.sl l)] (.slx none l) := by
  refine PC.run (fun _ => false) tt_ok (fn := f102) (rs := [.tmp 2]) rfl rfl rfl rfl rfl rfl rfl ?_
  simp only [go_sem, Int.natCast_nonneg, Int.toNat_natCast, hl]

/-- The error of a carboy. -/
def carboyP (full : Sp) (used : List Sp) (left : Sp) : Int := if used.length > 10 then 5 else if (badCarboy full || used.any badCarboy || badCarboy left) = true then 2 else 0

def missStep (m s : Sp) : Sp := ⟨m.lo - s.hi, m.hi - s.lo⟩

def missAll (full : Sp) (used : List Sp) (left : Sp) : Sp := (used ++ [left]).foldl missStep full

def missP (full : Sp) (used : List Sp) (left : Sp) : Sp × Int :=
  if carboyP full used left = 0 then (if (missAll full used left).hi < 0 then (sp0, 9) else (⟨max 0 (missAll full used left).lo, (missAll full used left).hi⟩, 0)) else (sp0, carboyP full used left)

theorem miss_bnd : ∀ (l : List Sp) (m : Sp), (∀ s ∈ l, badCarboy s = false) → m.lo - 5000 * l.length ≤ (l.foldl missStep m).lo ∧ (l.foldl missStep m).lo ≤ m.lo ∧ m.hi - 5000 * l.length ≤ (l.foldl missStep m).hi ∧ (l.foldl missStep m).hi ≤ m.hi
  | [], m, _ => by simp
  | s :: r, m, h => by
    have h1 := (badCarboy_iff s).1 (h s List.mem_cons_self)
    have := miss_bnd r (missStep m s) (fun x hx => h x (List.mem_cons_of_mem _ hx))
    simp only [List.foldl_cons, List.length_cons]
    simp only [missStep] at this ⊢
    omega

theorem c55 (full : Sp) (used : List Sp) (left : Sp) (hl : used.length ≤ 4294967296) : PC prog 55 [.d full.d, .d (.sl (used.map Sp.d)), .d left.d] (.tup [.d (missP full used left).1.d, .d (.int .i64 (missP full used left).2)]) := by
  refine PC.run (fun _ => false) tt_ok (fn := f55) (rs := [.cell 6 23, .tmp 7]) rfl rfl rfl rfl rfl rfl rfl ?_
  simp only [go_sem, Sp.d]
  refine Br_split (fun hc => ?_) (fun hc => ?_) <;> simp only [go_sem, hc]
  · have h1 : used.length > 10 := by simp at hc; omega
    simp [missP, carboyP, h1, sp0]
  have h1 : ¬ used.length > 10 := by simp at hc; omega
  have bad : (badCarboy full || used.any badCarboy || badCarboy left) = true → missP full used left = (sp0, 2) := fun h => by simp [missP, carboyP, h1, h]
  refine (c100 full).call rfl rfl rfl ?_
  simp only [go_sem, hc]
  refine Br_split (fun hd => ?_) (fun hd => ?_) <;> simp only [go_sem, hc, hd]
  · rw [bad (by rw [hd]; rfl)]
    simp [sp0]
  refine ACallV.of rfl (c101 enc_sp used hl 100 [] [] badCarboy (fun x _ Q h => (c100 x).call rfl rfl rfl h) ?_)
  simp only [go_sem, hc, hd]
  refine Br_split (fun he => ?_) (fun he => ?_) <;> simp only [go_sem, hc, hd, he]
  · rw [bad (by rw [hd, he]; rfl)]
    simp [sp0]
  refine (c100 left).call rfl rfl rfl ?_
  simp only [go_sem, hc, hd, he]
  refine Br_split (fun hf => ?_) (fun hf => ?_) <;> simp only [go_sem, hc, hd, he, hf]
  · rw [bad (by rw [hf]; simp)]
    simp [sp0]
  have h0 : carboyP full used left = 0 := by simp [carboyP, h1, hd, he, hf]
  have hall : ∀ s ∈ used ++ [left], badCarboy s = false := fun s hs => by
    rcases List.mem_append.1 hs with hs | hs
    · have := List.any_eq_false.1 he s hs
      simpa using this
    · rw [List.mem_singleton.1 hs]; exact hf
  have hfu := (badCarboy_iff full).1 hd
  have hsz := sized_sps used
  have hle : used.length + 1 ≤ 4294967296 := by omega
  refine ADrw.treeG (fun _ => false) tt_ok (by kernel_rfl) (fun k => if k = 2 ∨ k = 5 then some .L else some .S) (.ones [0, 1, 2, 3, 4, 5, 6] .done) (by simp) (fun _ h => nomatch h) rfl rfl (by kernel_rfl) ?_
  simp only [go_sem]
  refine (c102 (used.map Sp.d) hsz).callS rfl rfl rfl rfl rfl rfl ?_
  simp only [go_sem, hsz, hle, List.length_map, List.length_append]
  have happ : used.map Sp.d ++ [.agg [.int .i64 left.lo, .int .i64 left.hi]] = (used ++ [left]).map Sp.d := by simp [Sp.d]
  rw [happ]
  have hlen : used.length + 1 = (used ++ [left]).length := by simp
  have hl11 : (used ++ [left]).length ≤ 11 := by simp; omega
  rw [hlen]
  have hma : missAll full used left = (used ++ [left]).foldl missStep full := rfl
  generalize used ++ [left] = l at hma hall hl11
  refine ALoop.by (S := Nat) (fun i => [(34, .d (.int .i64 i)), (33, .d (.int .i64 l.length)), (32, .d (.sl (l.map Sp.d))), (6, .ptr 2 0)])
    (fun i => [.cells [.d (.int .i64 full.lo), .d (.int .i64 full.hi)], .cells [.d (.int .i64 left.lo), .d (.int .i64 left.hi)], .cells [.d (.int .i64 ((l.take i).foldl missStep full).lo), .d (.int .i64 ((l.take i).foldl missStep full).hi)]]) (fun i => l.length - i) (fun i => i ≤ l.length) 0 (by simp) (fun _ h => nomatch h) (Nat.zero_le _) ?_ ?_
  · exact ForgetTo.same' (by simp) (by simp [EWe, Env.look]) (by simp)
  rintro i hi hn
  refine AWP.run (fun _ => false) tt_ok (fun _ h => nomatch h) (by simp) rfl ?_
  simp only [go_sem]
  refine Br_split (fun hg => ?_) (fun hg => ?_) <;> simp only [go_sem, hg]
  · have hlt : i < l.length := by simpa using hg
    have hix : idx? (l.map Sp.d) (i : Int) = some (l[i]).d := by simp [idx?, List.getElem?_eq_getElem hlt]
    have hst : (l.take (i + 1)).foldl missStep full = missStep ((l.take i).foldl missStep full) l[i] := by
      rw [List.take_add_one, List.getElem?_eq_getElem hlt, List.foldl_append]; rfl
    have hbn := miss_bnd (l.take i) full (fun s hs => hall s (List.mem_of_mem_take hs))
    have htl : (l.take i).length = i := by simp; omega
    rw [htl] at hbn
    have hs := (badCarboy_iff _).1 (hall _ (List.getElem_mem hlt))
    generalize (l.take i).foldl missStep full = m at hst hbn
    generalize l[i] = s at hix hst hs
    simp only [go_sem, hix, Sp.d]
    refine ⟨i + 1, hlt, by omega, ?_⟩
    refine ForgetTo.drop (H0 := [_, _, _]) (Y := [_]) (Nat.zero_le _) ?_ (by simp [BBs, BB, VBs, VB]) ?_
    · rw [hst, missStep, w64 (n := m.lo - s.hi) (by omega) (by omega), w64 (n := m.hi - s.lo) (by omega) (by omega)]
    · simp [EWp, Env.look, pubV, w64 (n := (i : Int) + 1) (by omega) (by omega)]
  · have hie : i = l.length := by simp at hg; omega
    subst hie
    rw [List.take_length, ← hma]
    refine Br_split (fun hh => ?_) (fun hh => ?_) <;> simp only [go_sem, hh]
    · have h9 : (missAll full used left).hi < 0 := by simpa using hh
      simp [missP, h0, h9, sp0]
    · have h9 : ¬ (missAll full used left).hi < 0 := by simpa using hh
      simp only [missP, h0, if_true, if_neg h9]
end Go.Aw
end

section
set_option maxRecDepth 100000
namespace Go.Aw
open Go Go.Proofs.Try

theorem take_succ_eq {α : Type} {a b : List α} {i : Nat} (ha : i < a.length) (hb : i < b.length) (h : a.take i = b.take i) : a.take (i + 1) = b.take (i + 1) ↔ a[i] = b[i] := by
  rw [List.take_succ_eq_append_getElem ha, h, List.take_succ_eq_append_getElem hb]
  simp only [List.append_cancel_left_eq, List.cons.injEq, and_true]

theorem c23 (a b : List Int) (ha : a.length ≤ 4294967296) (hb : b.length ≤ 4294967296) : PC prog 23 [.d (.sl (a.map (.int .i64))), .d (.sl (b.map (.int .i64)))] (.d (.bool (decide (a = b)))) := by
  refine PC.run (fun _ => false) tt_ok (fn := f23) (rs := [.tmp 4]) rfl rfl rfl rfl rfl rfl rfl ?_
  simp only [go_sem]
  refine Br_split (fun hc => ?_) (fun hc => ?_) <;> simp only [go_sem, hc]
  · have : a ≠ b := fun e => by subst e; simp at hc
    simp [this]
  · have hlen : a.length = b.length := by simp at hc; omega
    refine ALoop.by (S := Nat) (fun i => [(5, .d (.int .i64 i)), (0, .d (.sl (a.map (.int .i64)))), (1, .d (.sl (b.map (.int .i64))))]) (fun i => []) (fun i => a.length - i) (fun i => i ≤ a.length ∧ a.take i = b.take i) 0 (by simp) (fun _ h => nomatch h) ⟨Nat.zero_le _, rfl⟩ ?_ ?_
    · simp [ForgetTo, EW, VW, BBq, BBs, BB, VBs, VB, Env.look, pubV]
    · rintro i ⟨hi, hx⟩ hn
      refine AWP.run (fun _ => false) tt_ok (fun _ h => nomatch h) (by simp) rfl ?_
      simp only [go_sem]
      refine Br_split (fun hd => ?_) (fun hd => ?_) <;> simp only [go_sem, hd]
      · have hlt : i < a.length := by simpa using hd
        have hlt' : i < b.length := by omega
        have hs := take_succ_eq hlt hlt' hx
        have hne : a[i] ≠ b[i] → a ≠ b := fun h e => h (by subst e; rfl)
        refine ADrw.treeG (fun _ => false) tt_ok (by kernel_rfl) (fun k => .some .S) (.ones [0, 1, 2, 3, 4, 5, 6, 7, 8] .done) (by simp) (fun _ h => nomatch h) rfl rfl (by kernel_rfl) ?_
        simp only [go_sem, idx_nat, List.getElem?_map, List.getElem?_eq_getElem hlt, List.getElem?_eq_getElem hlt', Step.d, Sp.d]
        generalize a[i] = x at hs hne
        generalize b[i] = y at hs hne
        refine Br_split (fun he => ?_) (fun he => ?_) <;> simp only [go_sem, he]
        · have hxy : x ≠ y := fun e => by subst e; simp at he
          simp [hne hxy]
        · have heq : x = y := by first | (simpa using he) | (cases x; cases y; simpa using he)
          refine ⟨i + 1, ⟨hlt, hs.2 heq⟩, by omega, ?_⟩
          simp [ForgetTo, EW, VW, BBq, BBs, BB, VBs, VB, Env.look, pubV, w64 (n := (i : Int) + 1) (by omega) (by omega)]
      · have hlt : ¬ i < a.length := by simpa using hd
        rw [List.take_of_length_le (by omega), List.take_of_length_le (by omega)] at hx
        simp [hx]

theorem c30 (a b : List Int) (ha : a.length ≤ 4294967296) (hb : b.length ≤ 4294967296) : PC prog 30 [.d (.sl (a.map (.int .i64))), .d (.sl (b.map (.int .i64)))] (.d (.bool (decide (a = b)))) := by
  refine PC.run (fun _ => false) tt_ok (fn := f30) (rs := [.tmp 4]) rfl rfl rfl rfl rfl rfl rfl ?_
  simp only [go_sem]
  refine Br_split (fun hc => ?_) (fun hc => ?_) <;> simp only [go_sem, hc]
  · have : a ≠ b := fun e => by subst e; simp at hc
    simp [this]
  · have hlen : a.length = b.length := by simp at hc; omega
    refine ALoop.by (S := Nat) (fun i => [(5, .d (.int .i64 i)), (0, .d (.sl (a.map (.int .i64)))), (1, .d (.sl (b.map (.int .i64))))]) (fun i => []) (fun i => a.length - i) (fun i => i ≤ a.length ∧ a.take i = b.take i) 0 (by simp) (fun _ h => nomatch h) ⟨Nat.zero_le _, rfl⟩ ?_ ?_
    · simp [ForgetTo, EW, VW, BBq, BBs, BB, VBs, VB, Env.look, pubV]
    · rintro i ⟨hi, hx⟩ hn
      refine AWP.run (fun _ => false) tt_ok (fun _ h => nomatch h) (by simp) rfl ?_
      simp only [go_sem]
      refine Br_split (fun hd => ?_) (fun hd => ?_) <;> simp only [go_sem, hd]
      · have hlt : i < a.length := by simpa using hd
        have hlt' : i < b.length := by omega
        have hs := take_succ_eq hlt hlt' hx
        have hne : a[i] ≠ b[i] → a ≠ b := fun h e => h (by subst e; rfl)
        refine ADrw.treeG (fun _ => false) tt_ok (by kernel_rfl) (fun k => .some .S) (.ones [0, 1, 2, 3, 4, 5, 6, 7, 8] .done) (by simp) (fun _ h => nomatch h) rfl rfl (by kernel_rfl) ?_
        simp only [go_sem, idx_nat, List.getElem?_map, List.getElem?_eq_getElem hlt, List.getElem?_eq_getElem hlt', Step.d, Sp.d]
        generalize a[i] = x at hs hne
        generalize b[i] = y at hs hne
        refine Br_split (fun he => ?_) (fun he => ?_) <;> simp only [go_sem, he]
        · have hxy : x ≠ y := fun e => by subst e; simp at he
          simp [hne hxy]
        · have heq : x = y := by first | (simpa using he) | (cases x; cases y; simpa using he)
          refine ⟨i + 1, ⟨hlt, hs.2 heq⟩, by omega, ?_⟩
          simp [ForgetTo, EW, VW, BBq, BBs, BB, VBs, VB, Env.look, pubV, w64 (n := (i : Int) + 1) (by omega) (by omega)]
      · have hlt : ¬ i < a.length := by simpa using hd
        rw [List.take_of_length_le (by omega), List.take_of_length_le (by omega)] at hx
        simp [hx]

theorem c29 (a b : List Step) (ha : a.length ≤ 4294967296) (hb : b.length ≤ 4294967296) : PC prog 29 [.d (.sl (a.map Step.d)), .d (.sl (b.map Step.d))] (.d (.bool (decide (a = b)))) := by
  refine PC.run (fun _ => false) tt_ok (fn := f29) (rs := [.tmp 4]) rfl rfl rfl rfl rfl rfl rfl ?_
  simp only [go_sem]
  refine Br_split (fun hc => ?_) (fun hc => ?_) <;> simp only [go_sem, hc]
  · have : a ≠ b := fun e => by subst e; simp at hc
    simp [this]
  · have hlen : a.length = b.length := by simp at hc; omega
    refine ALoop.by (S := Nat) (fun i => [(5, .d (.int .i64 i)), (0, .d (.sl (a.map Step.d))), (1, .d (.sl (b.map Step.d)))]) (fun i => []) (fun i => a.length - i) (fun i => i ≤ a.length ∧ a.take i = b.take i) 0 (by simp) (fun _ h => nomatch h) ⟨Nat.zero_le _, rfl⟩ ?_ ?_
    · simp [ForgetTo, EW, VW, BBq, BBs, BB, VBs, VB, Env.look, pubV]
    · rintro i ⟨hi, hx⟩ hn
      refine AWP.run (fun _ => false) tt_ok (fun _ h => nomatch h) (by simp) rfl ?_
      simp only [go_sem]
      refine Br_split (fun hd => ?_) (fun hd => ?_) <;> simp only [go_sem, hd]
      · have hlt : i < a.length := by simpa using hd
        have hlt' : i < b.length := by omega
        have hs := take_succ_eq hlt hlt' hx
        have hne : a[i] ≠ b[i] → a ≠ b := fun h e => h (by subst e; rfl)
        refine ADrw.treeG (fun _ => false) tt_ok (by kernel_rfl) (fun k => .some .S) (.ones [0, 1, 2, 3, 4, 5, 6, 7, 8] .done) (by simp) (fun _ h => nomatch h) rfl rfl (by kernel_rfl) ?_
        simp only [go_sem, idx_nat, List.getElem?_map, List.getElem?_eq_getElem hlt, List.getElem?_eq_getElem hlt', Step.d, Sp.d]
        generalize a[i] = x at hs hne
        generalize b[i] = y at hs hne
        refine Br_split (fun he => ?_) (fun he => ?_) <;> simp only [go_sem, he]
        · have hxy : x ≠ y := fun e => by subst e; simp at he
          simp [hne hxy]
        · have heq : x = y := by first | (simpa using he) | (cases x; cases y; simpa using he)
          refine ⟨i + 1, ⟨hlt, hs.2 heq⟩, by omega, ?_⟩
          simp [ForgetTo, EW, VW, BBq, BBs, BB, VBs, VB, Env.look, pubV, w64 (n := (i : Int) + 1) (by omega) (by omega)]
      · have hlt : ¬ i < a.length := by simpa using hd
        rw [List.take_of_length_le (by omega), List.take_of_length_le (by omega)] at hx
        simp [hx]

theorem c53 (a b : List Sp) (ha : a.length ≤ 4294967296) (hb : b.length ≤ 4294967296) : PC prog 53 [.d (.sl (a.map Sp.d)), .d (.sl (b.map Sp.d))] (.d (.bool (decide (a = b)))) := by
  refine PC.run (fun _ => false) tt_ok (fn := f53) (rs := [.tmp 4]) rfl rfl rfl rfl rfl rfl rfl ?_
  simp only [go_sem]
  refine Br_split (fun hc => ?_) (fun hc => ?_) <;> simp only [go_sem, hc]
  · have : a ≠ b := fun e => by subst e; simp at hc
    simp [this]
  · have hlen : a.length = b.length := by simp at hc; omega
    refine ALoop.by (S := Nat) (fun i => [(5, .d (.int .i64 i)), (0, .d (.sl (a.map Sp.d))), (1, .d (.sl (b.map Sp.d)))]) (fun i => []) (fun i => a.length - i) (fun i => i ≤ a.length ∧ a.take i = b.take i) 0 (by simp) (fun _ h => nomatch h) ⟨Nat.zero_le _, rfl⟩ ?_ ?_
    · simp [ForgetTo, EW, VW, BBq, BBs, BB, VBs, VB, Env.look, pubV]
    · rintro i ⟨hi, hx⟩ hn
      refine AWP.run (fun _ => false) tt_ok (fun _ h => nomatch h) (by simp) rfl ?_
      simp only [go_sem]
      refine Br_split (fun hd => ?_) (fun hd => ?_) <;> simp only [go_sem, hd]
      · have hlt : i < a.length := by simpa using hd
        have hlt' : i < b.length := by omega
        have hs := take_succ_eq hlt hlt' hx
        have hne : a[i] ≠ b[i] → a ≠ b := fun h e => h (by subst e; rfl)
        refine ADrw.treeG (fun _ => false) tt_ok (by kernel_rfl) (fun k => .some .S) (.ones [0, 1, 2, 3, 4, 5, 6, 7, 8] .done) (by simp) (fun _ h => nomatch h) rfl rfl (by kernel_rfl) ?_
        simp only [go_sem, idx_nat, List.getElem?_map, List.getElem?_eq_getElem hlt, List.getElem?_eq_getElem hlt', Step.d, Sp.d]
        generalize a[i] = x at hs hne
        generalize b[i] = y at hs hne
        refine Br_split (fun he => ?_) (fun he => ?_) <;> simp only [go_sem, he]
        · have hxy : x ≠ y := fun e => by subst e; simp at he
          simp [hne hxy]
        · have heq : x = y := by first | (simpa using he) | (cases x; cases y; simpa using he)
          refine ⟨i + 1, ⟨hlt, hs.2 heq⟩, by omega, ?_⟩
          simp [ForgetTo, EW, VW, BBq, BBs, BB, VBs, VB, Env.look, pubV, w64 (n := (i : Int) + 1) (by omega) (by omega)]
      · have hlt : ¬ i < a.length := by simpa using hd
        rw [List.take_of_length_le (by omega), List.take_of_length_le (by omega)] at hx
        simp [hx]
end Go.Aw
end

section
set_option maxRecDepth 100000
namespace Go.Aw
open Go Go.Proofs.Try

theorem c24 (p h : Int) : PC prog 24 [.d (.int .i64 p), .d (.int .i64 h)] (.d (Step.mk p h).d) := by
  refine PC.run (fun _ => false) tt_ok (fn := f24) (rs := [.cell 4 39]) rfl rfl rfl rfl rfl rfl rfl ?_
  simp only [go_sem, Step.d]

theorem c26 (p h : Int) : PC prog 26 [.d (.int .i64 p), .d (.int .i64 h)] (.d (Sp.mk p h).d) := by
  refine PC.run (fun _ => false) tt_ok (fn := f26) (rs := [.cell 4 23]) rfl rfl rfl rfl rfl rfl rfl ?_
  simp only [go_sem, Sp.d]

theorem sized_plates (l : List Plate) : sized 4 (l.map Plate.d) = true := by
  simp [sized, Plate.d, dcells]

end Go.Aw
end

section
set_option maxRecDepth 100000
namespace Go.Aw
open Go Go.Proofs.Try

def exB (l : List Int) : Bath := ⟨⟨10, 12⟩, [⟨⟨40, 44⟩, l.getD 0 1, 30⟩, ⟨⟨50, 60⟩, l.getD 1 2, 40⟩, ⟨⟨20, 22⟩, l.getD 2 1, 16⟩]⟩

theorem exB_set (l : List Int) (hl : l.length ≤ 2) {i : Nat} (hi : i < l.length) : ((exB (l.take i)).plates.map Plate.d).set i (.agg [.int .i64 ((exB []).pl i).rust.lo, .int .i64 ((exB []).pl i).rust.hi, .int .i64 l[i], .int .i64 ((exB []).pl i).thin]) = (exB (l.take (i + 1))).plates.map Plate.d := by
  match l, hl with
  | [], _ => simp at hi
  | [a], _ =>
    obtain rfl : i = 0 := by simp at hi; omega
    rfl
  | [a, b], _ =>
    have : i = 0 ∨ i = 1 := by simp at hi; omega
    rcases this with rfl | rfl <;> rfl

theorem exB_get (l : List Int) (hl : l.length ≤ 2) {i : Nat} (hi : i < l.length) : ((exB (l.take i)).plates.map Plate.d)[i]? = some (.agg [.int .i64 ((exB []).pl i).rust.lo, .int .i64 ((exB []).pl i).rust.hi, .int .i64 ((exB []).pl i).takes, .int .i64 ((exB []).pl i).thin]) := by
  match l, hl with
  | [], _ => simp at hi
  | [a], _ =>
    obtain rfl : i = 0 := by simp at hi; omega
    rfl
  | [a, b], _ =>
    have : i = 0 ∨ i = 1 := by simp at hi; omega
    rcases this with rfl | rfl <;> rfl

theorem c71 (l : List Int) (hl : l.length ≤ 2) : PC prog 71 [.d (.sl (l.map (.int .i64)))] (.d (exB l).d) := by
  refine PC.run (fun k => k == 12) tt_ok (fn := f71) (rs := [.cell 2 26]) rfl rfl rfl rfl rfl rfl rfl ?_
  simp only [go_sem]
  refine (c26 10 12).call rfl rfl rfl ?_
  simp only [go_sem]
  refine (c26 40 44).call rfl rfl rfl ?_
  simp only [go_sem, Sp.d]
  refine (c26 50 60).call rfl rfl rfl ?_
  simp only [go_sem, Sp.d]
  refine (c26 20 22).call rfl rfl rfl ?_
  simp only [go_sem, Sp.d]
  refine ALoop.by (S := Nat) (fun i => [(4, .d (.int .i64 i)), (3, .ptr 2 0), (2, .ptr 0 0), (0, .d (.sl (l.map (.int .i64))))])
    (fun i => [.cells [.d (.int .i64 0), .d (.int .i64 0), .d (.sl [])], .arr 4 false ((exB (l.take i)).plates.map Plate.d), .cells [.d (.int .i64 10), .d (.int .i64 12), .ref 1 3 0 3]]) (fun i => l.length - i) (fun i => i ≤ l.length) 0 (by simp) (fun _ h => nomatch h) (Nat.zero_le _) ?_ ?_
  · exact ForgetTo.same' (by simp) (by simp [EWe, Env.look]) (by simp [exB, Plate.d])
  rintro i hi hn
  refine AWP.run (fun _ => false) tt_ok (fun _ h => nomatch h) (by simp) rfl ?_
  simp only [go_sem]
  refine Br_split (fun hd => ?_) (fun hd => ?_) <;> simp only [go_sem, hd]
  · have hlt : i < l.length := by simpa using hd
    have hix : idx? (l.map (D.int .i64)) (i : Int) = some (.int .i64 l[i]) := by simp [idx?, List.getElem?_eq_getElem hlt]
    have hget := exB_get l hl hlt
    have hset := exB_set l hl hlt
    have hlen : ((exB (l.take i)).plates.map Plate.d).length = 3 := rfl
    have c1 : (0 : Int) ≤ (i : Int) := by omega
    have c2 : (i : Int) < 3 := by omega
    generalize (exB (l.take i)).plates.map Plate.d = ps at hget hset hlen
    generalize l[i] = x at hix hset
    refine ADrw.treeG (fun _ => false) tt_ok (by kernel_rfl) (fun k => if k = 1 ∨ k = 6 ∨ k = 7 then some .L else if k = 9 then some .W else some .S) (.ones [0, 1, 2, 3, 4, 5, 6, 7, 8, 9] .done) (by simp) (fun _ h => nomatch h) rfl rfl (by kernel_rfl) ?_
    simp only [go_sem, hix, hget, hlen, c1, c2, Int.toNat_natCast, hset]
    refine ⟨i + 1, hlt, by omega, ?_⟩
    exact ForgetTo.same' (by simp) (by simp [EWe, Env.look, w64 (n := (i : Int) + 1) (by omega) (by omega)]) rfl
  · have hie : i = l.length := by simp at hd; omega
    subst hie
    rw [List.take_length]
    have hlen : (exB l).plates.length = 3 := rfl
    have htk : ((exB l).plates.map Plate.d).take 3 = (exB l).plates.map Plate.d := rfl
    simp only [go_sem, hlen, htk, List.length_map]
    simp [Bath.d, exB]
end Go.Aw
end

section
set_option maxRecDepth 100000
namespace Go.Aw
open Go Go.Proofs.Try

theorem ex_strengths : strengthsP (exB []) [0, 1] = ([⟨10, 12⟩, ⟨9, 11⟩, ⟨7, 9⟩], 0) := by decide +kernel
theorem ex_out : outP (exB []) [⟨0, 4⟩, ⟨1, 7⟩] = ([[1, 2], [2]], 0) := by decide +kernel
theorem ex_hours : hoursP (exB []) [⟨0, 5⟩] 1 = (⟨7, 8⟩, 0) := by decide +kernel
theorem ex_order : orderP (exB []) = ([⟨0, 5⟩, ⟨1, 7⟩, ⟨2, 4⟩], 0) := by decide +kernel
theorem ex_check : checkP (exB [8, 8]) = 0 := by decide +kernel
theorem ex_fillings : fillFirst (exB [8, 8]) = some ([0, 1, 0], [5, 2]) := by decide +kernel
theorem ex_mix : mixV [⟨⟨30, 30⟩, 10⟩, ⟨⟨12, 15⟩, 20⟩] = ⟨18, 20⟩ := by decide +kernel
theorem ex_acids : acidsP [⟨⟨30, 30⟩, 10⟩, ⟨⟨12, 15⟩, 20⟩] = 0 := by decide +kernel
theorem ex_water : waterP [⟨⟨30, 30⟩, 10⟩] ⟨10, 12⟩ = (⟨15, 20⟩, 0) := by decide +kernel
theorem ex_logE : logE (exB []) [⟨⟨0, 4⟩, 1⟩] = 0 := by decide +kernel
theorem ex_was : wasO ⟨exB [], [⟨⟨0, 4⟩, 1⟩], 0⟩ = some (0, 0, [⟨41, 44⟩, ⟨50, 60⟩, ⟨20, 22⟩]) := by decide +kernel
theorem ex_logE2 : logE (exB []) [⟨⟨0, 24⟩, 2⟩, ⟨⟨2, 3⟩, 2⟩] = 0 := by decide +kernel
theorem ex_wrong : wrongF (exB []) [⟨⟨0, 24⟩, 2⟩, ⟨⟨2, 3⟩, 2⟩] = some ([0], 1) := by decide +kernel
theorem ex_missing : missP ⟨100, 100⟩ [⟨20, 25⟩, ⟨30, 30⟩] ⟨40, 44⟩ = (⟨1, 10⟩, 0) := by decide +kernel
end Go.Aw
end

section
set_option maxRecDepth 100000
namespace Go.Aw
open Go Go.Proofs.Try

theorem c17 : PC prog 17 [] (.d (.bool true)) := by
  refine PC.run (fun _ => false) tt_ok (fn := f17) (rs := [.tmp 0]) rfl rfl rfl rfl rfl rfl rfl ?_
  simp only [go_sem]
  refine (c71 [] (by simp)).call rfl rfl rfl ?_
  simp only [go_sem]
  refine (c20 (exB []) [0, 1] (by simp [exB]) (by simp)).call rfl rfl rfl ?_
  rw [ex_strengths]
  simp only [go_sem]
  refine (c71 [] (by simp)).call rfl rfl rfl ?_
  simp only [go_sem]
  refine (c24 0 4).call rfl rfl rfl ?_
  simp only [go_sem]
  refine (c24 1 7).call rfl rfl rfl ?_
  simp only [go_sem]
  refine (c28 (exB []) [⟨0, 4⟩, ⟨1, 7⟩] (by simp [exB]) (by simp)).call rfl rfl rfl ?_
  rw [ex_out]
  simp only [go_sem]
  refine (c71 [] (by simp)).call rfl rfl rfl ?_
  simp only [go_sem]
  refine (c24 0 5).call rfl rfl rfl ?_
  simp only [go_sem]
  refine (c33 (exB []) [⟨0, 5⟩] 1 (by simp [exB]) (by simp)).call rfl rfl rfl ?_
  rw [ex_hours]
  simp only [go_sem, Sp.d]
  refine (c71 [] (by simp)).call rfl rfl rfl ?_
  simp only [go_sem]
  refine (c37 (exB []) (by simp [exB])).call rfl rfl rfl ?_
  rw [ex_order]
  simp only [go_sem, lv]
  refine (c71 [8, 8] (by simp)).call rfl rfl rfl ?_
  simp only [go_sem]
  have hfv : fillingsV (exB [8, 8]) = .tup [.d (.sl (natsD [0, 1, 0])), .d (.int .i64 0)] := by simp only [fillingsV, ex_check, ex_fillings, if_true]
  refine (c38 (exB [8, 8]) (by simp [exB])).call rfl rfl (by rw [hfv]; rfl) ?_
  rw [hfv]
  simp only [go_sem]
  refine (c26 30 30).call rfl rfl rfl ?_
  simp only [go_sem, Sp.d]
  refine (c26 12 15).call rfl rfl rfl ?_
  simp only [go_sem, Sp.d]
  refine (c43 [⟨⟨30, 30⟩, 10⟩, ⟨⟨12, 15⟩, 20⟩] (by simp)).call rfl rfl rfl ?_
  rw [ex_mix, ex_acids]
  simp only [go_sem, Sp.d]
  refine (c26 30 30).call rfl rfl rfl ?_
  simp only [go_sem, Sp.d]
  refine (c26 10 12).call rfl rfl rfl ?_
  simp only [go_sem]
  refine (c44 [⟨⟨30, 30⟩, 10⟩] ⟨10, 12⟩ (by simp)).call rfl rfl rfl ?_
  rw [ex_water]
  simp only [go_sem, Sp.d]
  refine (c71 [] (by simp)).call rfl rfl rfl ?_
  simp only [go_sem]
  refine (c24 0 4).call rfl rfl rfl ?_
  simp only [go_sem, Step.d]
  have hwv : wasV (exB []) [⟨⟨0, 4⟩, 1⟩] = .tup [.d (Sp.mk 10 10).d, .d (.sl ([⟨41, 44⟩, ⟨50, 60⟩, ⟨20, 22⟩].map Sp.d)), .d (.int .i64 0)] := by simp only [wasV, ex_logE, ex_was, if_true]; rfl
  refine (c49 (exB []) [⟨⟨0, 4⟩, 1⟩] (by simp [exB]) (by simp)).call rfl rfl (by rw [hwv]; rfl) ?_
  rw [hwv]
  simp only [go_sem, Sp.d]
  refine (c71 [] (by simp)).call rfl rfl rfl ?_
  simp only [go_sem]
  refine (c24 0 24).call rfl rfl rfl ?_
  simp only [go_sem, Step.d]
  refine (c24 2 3).call rfl rfl rfl ?_
  simp only [go_sem, Step.d]
  have hwr : wrongV (exB []) [⟨⟨0, 24⟩, 2⟩, ⟨⟨2, 3⟩, 2⟩] = .tup [.d (.sl (natsD [0])), .d (.int .i64 0)] := by simp only [wrongV, ex_logE2, ex_wrong, if_true]; rfl
  refine (c50 (exB []) [⟨⟨0, 24⟩, 2⟩, ⟨⟨2, 3⟩, 2⟩] (by simp [exB]) (by simp)).call rfl rfl (by rw [hwr]; rfl) ?_
  rw [hwr]
  simp only [go_sem]
  refine (c26 100 100).call rfl rfl rfl ?_
  simp only [go_sem]
  refine (c26 20 25).call rfl rfl rfl ?_
  simp only [go_sem, Sp.d]
  refine (c26 30 30).call rfl rfl rfl ?_
  simp only [go_sem, Sp.d]
  refine (c26 40 44).call rfl rfl rfl ?_
  simp only [go_sem, Sp.d]
  refine (c55 ⟨100, 100⟩ [⟨20, 25⟩, ⟨30, 30⟩] ⟨40, 44⟩ (by simp)).call rfl rfl rfl ?_
  rw [ex_missing]
  simp only [go_sem, Sp.d]
  have hd0 : ∀ {α : Type} [DecidableEq α] (l : List α), decide (l = l) = true := fun l => by simp
  refine ADrw.treeG (fun _ => false) tt_ok (by kernel_rfl) (fun k => if k = 29 then some .L else some .S) (.ones [0, 1, 2, 3, 4, 5, 6, 7, 8, 9, 10, 11, 12, 13, 14, 15, 16, 17, 18, 19, 20, 21, 22, 23, 24, 25, 26, 27, 28, 29, 30, 31, 32, 33, 34, 35, 36, 37, 38, 39, 40, 41] .done) (by simp) (fun _ h => nomatch h) rfl rfl (by kernel_rfl) ?_
  simp only [go_sem]
  refine (c26 10 12).callS rfl rfl rfl rfl rfl rfl ?_
  simp only [go_sem, Sp.d, Step.d, intsD, hd0]
  refine (c26 9 11).callS rfl rfl rfl rfl rfl rfl ?_
  simp only [go_sem, Sp.d, Step.d, intsD, hd0]
  refine (c26 7 9).callS rfl rfl rfl rfl rfl rfl ?_
  simp only [go_sem, Sp.d, Step.d, intsD, hd0]
  refine (c53 [⟨10, 12⟩, ⟨9, 11⟩, ⟨7, 9⟩] [⟨10, 12⟩, ⟨9, 11⟩, ⟨7, 9⟩] (by simp) (by simp)).callS rfl rfl rfl rfl rfl rfl ?_
  simp only [go_sem, Sp.d, Step.d, intsD, hd0]
  refine (c30 [1, 2] [1, 2] (by simp) (by simp)).callS rfl rfl rfl rfl rfl rfl ?_
  simp only [go_sem, Sp.d, Step.d, intsD, hd0]
  refine (c30 [2] [2] (by simp) (by simp)).callS rfl rfl rfl rfl rfl rfl ?_
  simp only [go_sem, Sp.d, Step.d, intsD, hd0]
  refine (c26 7 8).callS rfl rfl rfl rfl rfl rfl ?_
  simp only [go_sem, Sp.d, Step.d, intsD, hd0]
  refine (c24 0 5).callS rfl rfl rfl rfl rfl rfl ?_
  simp only [go_sem, Sp.d, Step.d, intsD, hd0]
  refine (c24 1 7).callS rfl rfl rfl rfl rfl rfl ?_
  simp only [go_sem, Sp.d, Step.d, intsD, hd0]
  refine (c24 2 4).callS rfl rfl rfl rfl rfl rfl ?_
  simp only [go_sem, Sp.d, Step.d, intsD, hd0]
  refine (c29 [⟨0, 5⟩, ⟨1, 7⟩, ⟨2, 4⟩] [⟨0, 5⟩, ⟨1, 7⟩, ⟨2, 4⟩] (by simp) (by simp)).callS rfl rfl rfl rfl rfl rfl ?_
  simp only [go_sem, Sp.d, Step.d, intsD, hd0]
  refine ADrw.treeG (fun _ => false) tt_ok (by kernel_rfl) (fun k => if k = 4 ∨ k = 9 ∨ k = 14 ∨ k = 32 then some .L else some .S) (.ones [0, 1, 2, 3, 4, 5, 6, 7, 8, 9, 10, 11, 12, 13, 14, 15, 16, 17, 18, 19, 20, 21, 22, 23, 24, 25, 26, 27, 28, 29, 30, 31, 32, 33, 34, 35, 36] .done) (by simp) (fun _ h => nomatch h) rfl rfl (by kernel_rfl) ?_
  simp only [go_sem]
  refine (c23 [0, 1, 0] [0, 1, 0] (by simp) (by simp)).callS rfl rfl rfl rfl rfl rfl ?_
  simp only [go_sem, Sp.d, Step.d, intsD, hd0]
  refine (c26 18 20).callS rfl rfl rfl rfl rfl rfl ?_
  simp only [go_sem, Sp.d, Step.d, intsD, hd0]
  refine (c26 15 20).callS rfl rfl rfl rfl rfl rfl ?_
  simp only [go_sem, Sp.d, Step.d, intsD, hd0]
  refine (c26 10 10).callS rfl rfl rfl rfl rfl rfl ?_
  simp only [go_sem, Sp.d, Step.d, intsD, hd0]
  refine (c26 41 44).callS rfl rfl rfl rfl rfl rfl ?_
  simp only [go_sem, Sp.d, Step.d, intsD, hd0]
  refine (c26 50 60).callS rfl rfl rfl rfl rfl rfl ?_
  simp only [go_sem, Sp.d, Step.d, intsD, hd0]
  refine (c26 20 22).callS rfl rfl rfl rfl rfl rfl ?_
  simp only [go_sem, Sp.d, Step.d, intsD, hd0]
  refine (c53 [⟨41, 44⟩, ⟨50, 60⟩, ⟨20, 22⟩] [⟨41, 44⟩, ⟨50, 60⟩, ⟨20, 22⟩] (by simp) (by simp)).callS rfl rfl rfl rfl rfl rfl ?_
  simp only [go_sem, Sp.d, Step.d, intsD, hd0]
  refine (c23 [0] [0] (by simp) (by simp)).callS rfl rfl rfl rfl rfl rfl ?_
  simp only [go_sem, Sp.d, Step.d, intsD, hd0]
  refine (c26 1 10).callS rfl rfl rfl rfl rfl rfl ?_
  simp only [go_sem, Sp.d, Step.d, intsD, hd0]
end Go.Aw
end

section
set_option maxRecDepth 100000
namespace Go.Aw
open Go Go.Proofs

theorem has_list {α : Type} {enc : α → D} {p : D → Prop} (he : ∀ y, p y → ∃ s, y = enc s) : ∀ l : List D, (∀ y ∈ l, p y) → ∃ ss : List α, l = ss.map enc
  | [], _ => ⟨[], rfl⟩
  | y :: r, h => by
    obtain ⟨s, rfl⟩ := he y (h y (by simp))
    obtain ⟨ss, rfl⟩ := has_list he r fun z hz => h z (List.mem_cons_of_mem _ hz)
    exact ⟨s :: ss, rfl⟩

end Go.Aw
end

section
set_option maxRecDepth 100000
namespace Go.Aw
open Go Go.Proofs.Try

def bthB (b : Bath) : Blk := .cells [.d (.int .i64 b.str.lo), .d (.int .i64 b.str.hi), .d (.sl (b.plates.map Plate.d))]

end Go.Aw
end

section
set_option maxRecDepth 100000
namespace Go.Aw
open Go Go.Proofs.Try

def Byte (n : Int) : Prop := 0 ≤ n ∧ n < 256

/-- Three bytes; four bytes. -/
structure B3 where
  a : Int
  b : Int
  c : Int
deriving DecidableEq

structure B4 where
  a : Int
  b : Int
  c : Int
  e : Int
deriving DecidableEq

def B3.d (s : B3) : D := .agg [.int .u8 s.a, .int .u8 s.b, .int .u8 s.c]
def B4.d (s : B4) : D := .agg [.int .u8 s.a, .int .u8 s.b, .int .u8 s.c, .int .u8 s.e]

structure B3.Ok (s : B3) : Prop where
  a : Byte s.a
  b : Byte s.b
  c : Byte s.c

structure B4.Ok (s : B4) : Prop where
  a : Byte s.a
  b : Byte s.b
  c : Byte s.c
  e : Byte s.e

theorem byte_conv {n : Int} (h : Byte n) : wr n = n := by simp only [Byte] at h; exact w64 (by omega) (by omega)

end Go.Aw
end

section
set_option maxRecDepth 100000
namespace Go.Aw
open Go Go.Proofs

theorem has_u8 {f : Nat} {y : D} (h : HasT Try.prog (f + 1) 5 y) : ∃ n, y = .int .u8 n ∧ Byte n := by
  unfold HasT at h
  rw [Try.underlying5] at h
  obtain ⟨n, rfl, h⟩ := h
  refine ⟨n, rfl, ?_⟩
  simp [Lit.wf, IntKind.min, IntKind.max, IntKind.bits, IntKind.signed] at h
  simp only [Byte]; omega

theorem has_b3 {f : Nat} {y : D} (h : HasT Try.prog (f + 3) 97 y) : ∃ s : B3, y = s.d ∧ s.Ok := by
  unfold HasT at h
  rw [Try.underlying97] at h
  obtain ⟨l, rfl, h⟩ := h
  simp only [HasN] at h
  obtain ⟨y1, r1, rfl, h1, y2, r2, rfl, h2, y3, r3, rfl, h3, rfl⟩ := h
  obtain ⟨n1, rfl, b1⟩ := has_u8 h1
  obtain ⟨n2, rfl, b2⟩ := has_u8 h2
  obtain ⟨n3, rfl, b3⟩ := has_u8 h3
  exact ⟨⟨n1, n2, n3⟩, rfl, ⟨b1, b2, b3⟩⟩

theorem has_b4 {f : Nat} {y : D} (h : HasT Try.prog (f + 3) 114 y) : ∃ s : B4, y = s.d ∧ s.Ok := by
  unfold HasT at h
  rw [Try.underlying114] at h
  obtain ⟨l, rfl, h⟩ := h
  simp only [HasN] at h
  obtain ⟨y1, r1, rfl, h1, y2, r2, rfl, h2, y3, r3, rfl, h3, y4, r4, rfl, h4, rfl⟩ := h
  obtain ⟨n1, rfl, b1⟩ := has_u8 h1
  obtain ⟨n2, rfl, b2⟩ := has_u8 h2
  obtain ⟨n3, rfl, b3⟩ := has_u8 h3
  obtain ⟨n4, rfl, b4⟩ := has_u8 h4
  exact ⟨⟨n1, n2, n3, n4⟩, rfl, ⟨b1, b2, b3, b4⟩⟩
end Go.Aw
end

section
set_option maxRecDepth 100000
namespace Go.Aw
open Go Go.Proofs.Try

structure Vat where
  s : B3
  plates : List B4

def Vat.d (x : Vat) : D := .agg [.int .u8 x.s.a, .int .u8 x.s.b, .int .u8 x.s.c, .sl (x.plates.map B4.d)]

structure Vat.Ok (x : Vat) : Prop where
  s : x.s.Ok
  p : ∀ v ∈ x.plates, v.Ok

def plateOf (v : B4) : Plate := ⟨⟨max 0 (v.a - v.b % 16), v.a + v.b / 16⟩, v.c % 4, v.e⟩

def Vat.low (x : Vat) : Int := 3 + x.s.a % 25
def Vat.bath (x : Vat) : Bath := ⟨⟨x.low, x.low + x.s.b % 6⟩, (x.plates.take 4).map plateOf⟩
def Vat.str (x : Vat) : Int := x.low + x.s.c % (x.s.b % 6 + 1)
def Vat.rusts (x : Vat) : List Int := (x.plates.take 4).map B4.a

theorem Vat.bathOk {x : Vat} (hx : x.Ok) : x.bath.Ok := by
  have h1 := hx.s.a
  have h2 := hx.s.b
  simp only [Byte] at h1 h2
  refine ⟨by simp only [Vat.bath, Vat.low]; omega, by simp only [Vat.bath]; omega, by simp only [Vat.bath, Vat.low]; omega, by simp [Vat.bath]; omega, fun p hp => ?_⟩
  obtain ⟨v, hv, rfl⟩ := List.mem_map.1 hp
  have k := hx.p v (List.mem_of_mem_take hv)
  have k1 := k.a
  have k2 := k.b
  have k3 := k.c
  have k4 := k.e
  simp only [Byte] at k1 k2 k3 k4
  simp only [Plate.Ok, plateOf]
  omega

theorem c58 {x : Vat} (hx : x.Ok) : PC prog 58 [.d x.d] (.tup [.d x.bath.d, .d (.int .i64 x.str), .d (.sl (x.rusts.map (.int .i64)))]) := by
  refine PC.run (fun k => k == 27 || k == 41) tt_ok (fn := f58) (rs := [.cell 2 26, .tmp 3, .tmp 4]) rfl rfl rfl rfl rfl rfl rfl ?_
  have h1 := hx.s.a
  have h2 := hx.s.b
  have h3 := hx.s.c
  have e1 := byte_conv h1
  have e2 := byte_conv h2
  have e3 := byte_conv h3
  simp only [Byte] at h1 h2 h3
  have m1 : x.s.a.tmod 25 = x.s.a % 25 := Int.tmod_eq_emod_of_nonneg h1.1
  have m2 : x.s.b.tmod 6 = x.s.b % 6 := Int.tmod_eq_emod_of_nonneg h2.1
  have z25 : (25 : Int) ≠ 0 := by omega
  have z6 : (6 : Int) ≠ 0 := by omega
  have w1 : IntKind.i64.wrap (3 + x.s.a % 25) = x.low := w64 (by omega) (by omega)
  have hlow : x.low = 3 + x.s.a % 25 := rfl
  have w2 : IntKind.i64.wrap (x.low + x.s.b % 6) = x.low + x.s.b % 6 := w64 (by omega) (by omega)
  simp only [go_sem, Vat.d, e1, e2, e3, m1, m2, remO_ne z25, remO_ne z6, w1, w2]
  refine (c26 x.low (x.low + x.s.b % 6)).call rfl rfl rfl ?_
  have w3 : IntKind.i64.wrap (x.low + x.s.b % 6 - x.low) = x.s.b % 6 := by rw [w64 (by omega) (by omega)]; omega
  have w4 : IntKind.i64.wrap (x.s.b % 6 + 1) = x.s.b % 6 + 1 := w64 (by omega) (by omega)
  have zb : x.s.b % 6 + 1 ≠ 0 := by omega
  have m3 : x.s.c.tmod (x.s.b % 6 + 1) = x.s.c % (x.s.b % 6 + 1) := Int.tmod_eq_emod_of_nonneg h3.1
  have hm := Int.emod_lt_of_pos x.s.c (show 0 < x.s.b % 6 + 1 by omega)
  have hm0 := Int.emod_nonneg x.s.c zb
  have w5 : IntKind.i64.wrap (x.low + x.s.c % (x.s.b % 6 + 1)) = x.str := w64 (by omega) (by omega)
  simp only [go_sem, Vat.d, e1, e2, e3, m1, m2, m3, remO_ne z25, remO_ne z6, remO_ne zb, w1, w2, w3, w4, w5, Sp.d]
  change AWP _ _ _ _ _ _ _ _
  refine AWP.nilrow 2 2 4 rfl rfl (Nat.zero_le _) ?_
  refine ALoop.by (S := Nat) (fun i => [(9, .d (.int .i64 i)), (8, .ref 3 i 0 i), (7, .d (.int .i64 x.str)), (6, .ptr 2 0), (2, .ptr 1 0), (1, .ptr 0 0)])
    (fun i => [.cells [.d (.int .u8 x.s.a), .d (.int .u8 x.s.b), .d (.int .u8 x.s.c), .d (.sl (x.plates.map B4.d))], .cells [.d (.int .i64 0), .d (.int .i64 0), .d (.sl [])],
      .cells [.d (.int .i64 x.low), .d (.int .i64 (x.low + x.s.b % 6)), .ref 4 i 0 i], .arr 1 false (((x.plates.take i).map B4.a).map (.int .i64)), .arr 4 (decide (i = 0)) (((x.plates.take i).map plateOf).map Plate.d)])
    (fun i => 4 - i) (fun i => i ≤ x.plates.length ∧ i ≤ 4) 0 (Nat.zero_le _) (fun _ h => nomatch h) ⟨Nat.zero_le _, by omega⟩ ?_ ?_
  · exact ForgetTo.same' (Nat.zero_le _) (by simp [EWe, Env.look]) (by simp)
  rintro i ⟨hi, hi4⟩ hn
  have hlen : (x.plates.take i).length = i := by simp; omega
  have FIN : (x.plates.take i) = x.plates.take 4 → (Vat.bath x).plates = (x.plates.take i).map plateOf ∧ x.rusts = (x.plates.take i).map B4.a := fun h => by rw [h]; exact ⟨rfl, rfl⟩
  refine AWP.run (fun k => k == 27 || k == 41) tt_ok (fun _ h => nomatch h) (Nat.zero_le _) rfl ?_
  simp only [go_sem]
  refine Br_split (fun hd => ?_) (fun hd => ?_) <;> simp only [go_sem, hd]
  · have hlt : i < x.plates.length := by simpa using hd
    refine Br_split (fun hd2 => ?_) (fun hd2 => ?_) <;> simp only [go_sem, hd, hd2]
    · have hlt2 : i < 4 := by simp only [decide_eq_true_eq] at hd2; omega
      have hv := hx.p _ (List.getElem_mem hlt)
      have hix : idx? (x.plates.map B4.d) (i : Int) = some (x.plates[i]).d := by simp [idx?, List.getElem?_eq_getElem hlt]
      have hst : (x.plates.take (i + 1)) = x.plates.take i ++ [x.plates[i]] := List.take_succ_eq_append_getElem hlt
      generalize x.plates[i] = v at hv hix hst
      have b1 := hv.a
      have b2 := hv.b
      have b3 := hv.c
      have b4 := hv.e
      have f1 := byte_conv b1
      have f2 := byte_conv b2
      have f3 := byte_conv b3
      have f4 := byte_conv b4
      simp only [Byte] at b1 b2 b3 b4
      have z16 : (16 : Int) ≠ 0 := by omega
      have z4 : (4 : Int) ≠ 0 := by omega
      have n1 : v.b.tmod 16 = v.b % 16 := Int.tmod_eq_emod_of_nonneg b2.1
      have n2 : v.b.tdiv 16 = v.b / 16 := Int.tdiv_eq_ediv_of_nonneg b2.1
      have n3 : v.c.tmod 4 = v.c % 4 := Int.tmod_eq_emod_of_nonneg b3.1
      have v1 : IntKind.i64.wrap (v.a - v.b % 16) = v.a - v.b % 16 := w64 (by omega) (by omega)
      have v2 : IntKind.i64.wrap (v.b / 16) = v.b / 16 := w64 (by omega) (by omega)
      have v3 : IntKind.i64.wrap (v.a + v.b / 16) = v.a + v.b / 16 := w64 (by omega) (by omega)
      have l1 : (((x.plates.take i).map B4.a).map (D.int .i64)).length = i := by simp; omega
      have l2 : (((x.plates.take i).map plateOf).map Plate.d).length = i := by simp; omega
      have hi1 : i + 1 ≤ 4294967296 := by omega
      simp only [go_sem, hix, B4.d, f1, l1, hlen, List.length_map, hi1]
      refine ADrw.treeG (fun k => k == 27 || k == 41) tt_ok (by kernel_rfl) (fun k => if k = 1 ∨ k = 4 ∨ k = 11 ∨ k = 17 ∨ k = 21 then some .L else if k = 25 ∨ k = 27 then some .W else some .S) (.ones [0, 1, 2, 3, 4, 5, 6, 7, 8, 9, 10, 11, 12, 13, 14, 15, 16, 17, 18, 19, 20, 21, 22, 23, 24, 25, 26, 27] .done) (Nat.zero_le _) (fun _ h => nomatch h) rfl rfl (by kernel_rfl) ?_
      simp only [go_sem, f1, f2, f3, f4, n1, n2, n3, v1, v2, v3, remO_ne z16, quoO_ne z16, remO_ne z4]
      refine (c26 (max 0 (v.a - v.b % 16)) (v.a + v.b / 16)).callS rfl rfl rfl rfl rfl rfl ?_
      simp only [go_sem, f1, f2, f3, f4, n1, n2, n3, v1, v2, v3, remO_ne z16, quoO_ne z16, remO_ne z4, Sp.d, l2, hlen, List.length_map, hi1]
      refine ⟨i + 1, ⟨hlt, hlt2⟩, by omega, ?_⟩
      refine ForgetTo.drop (H0 := [_, _, _, _, _]) (Y := [_]) (Nat.zero_le _) ?_ (by simp [BBs, BB, VBs, VB]) ?_
      · rw [hst]; simp [plateOf, Plate.d]
      · simp [EWp, Env.look, pubV, w64 (n := (i : Int) + 1) (by omega) (by omega)]
    · have hie : i = 4 := by simp only [decide_eq_false_iff_not] at hd2; omega
      obtain ⟨p1, p2⟩ := FIN (by rw [hie])
      generalize x.plates.take i = L at hlen p1 p2
      have t1 : (((L.map plateOf).map Plate.d)).take i = (L.map plateOf).map Plate.d := List.take_of_length_le (by simp [hlen])
      have t2 : (((L.map B4.a).map (D.int .i64))).take i = (L.map B4.a).map (D.int .i64) := List.take_of_length_le (by simp [hlen])
      have hbd : x.bath.d = .agg [.int .i64 x.low, .int .i64 (x.low + x.s.b % 6), .sl ((L.map plateOf).map Plate.d)] := by rw [← p1]; rfl
      rw [hbd, p2]
      simp only [go_sem, hlen, t1, t2, List.length_map]
  · have hie : i = x.plates.length := by simp at hd; omega
    obtain ⟨p1, p2⟩ := FIN (by rw [hie, List.take_length, List.take_of_length_le (by omega)])
    generalize x.plates.take i = L at hlen p1 p2
    have t1 : (((L.map plateOf).map Plate.d)).take i = (L.map plateOf).map Plate.d := List.take_of_length_le (by simp [hlen])
    have t2 : (((L.map B4.a).map (D.int .i64))).take i = (L.map B4.a).map (D.int .i64) := List.take_of_length_le (by simp [hlen])
    have hbd : x.bath.d = .agg [.int .i64 x.low, .int .i64 (x.low + x.s.b % 6), .sl ((L.map plateOf).map Plate.d)] := by rw [← p1]; rfl
    rw [hbd, p2]
    simp only [go_sem, hlen, t1, t2, List.length_map]
end Go.Aw
end

section
set_option maxRecDepth 100000
namespace Go.Aw
open Go Go.Proofs.Try

theorem c60 (b : Bath) (hb : b.plates.length ≤ 4294967295) : PC prog 60 [.d b.d] (.d b.d) := by
  refine PC.run (fun _ => false) tt_ok (fn := f60) (rs := [.cell 2 26]) rfl rfl rfl rfl rfl rfl rfl ?_
  have hsz := sized_plates b.plates
  have hle : b.plates.length ≤ 4294967296 := by omega
  simp only [go_sem, Bath.d, hsz, hle, List.length_map, List.nil_append, Nat.zero_add]

end Go.Aw
end

section
set_option maxRecDepth 100000
namespace Go.Aw
open Go Go.Proofs.Try

structure B2 where
  a : Int
  b : Int
deriving DecidableEq

def B2.d (s : B2) : D := .agg [.int .u8 s.a, .int .u8 s.b]

structure B2.Ok (s : B2) : Prop where
  a : Byte s.a
  b : Byte s.b

end Go.Aw
end

section
set_option maxRecDepth 100000
namespace Go.Aw
open Go Go.Proofs

theorem has_b4s {f : Nat} {y : D} (h : HasT Try.prog (f + 4) 98 y) : ∃ l : List B4, y = .sl (l.map B4.d) ∧ ∀ p ∈ l, p.Ok := by
  unfold HasT at h
  rw [Try.underlying98] at h
  obtain ⟨l, rfl, _, hl⟩ := h
  obtain ⟨ss, rfl⟩ := has_list (enc := fun n : {n : B4 // n.Ok} => n.1.d) (fun y hy => by obtain ⟨n, rfl, hn⟩ := has_b4 hy; exact ⟨⟨n, hn⟩, rfl⟩) l hl
  refine ⟨ss.map Subtype.val, by simp, fun n hn => ?_⟩
  obtain ⟨x, _, rfl⟩ := List.mem_map.1 hn
  exact x.2

theorem has_vat {f : Nat} {y : D} (h : HasT Try.prog (f + 5) 100 y) : ∃ x : Vat, y = x.d ∧ x.Ok := by
  unfold HasT at h
  rw [Try.underlying100] at h
  obtain ⟨l, rfl, h⟩ := h
  simp only [HasFs] at h
  obtain ⟨y1, r1, rfl, h1, y2, r2, rfl, h2, rfl⟩ := h
  obtain ⟨s, rfl, hs⟩ := has_b3 h1
  obtain ⟨p, rfl, hp⟩ := has_b4s h2
  exact ⟨⟨s, p⟩, rfl, ⟨hs, hp⟩⟩
end Go.Aw
end

section
set_option maxRecDepth 100000
namespace Go.Aw
open Go Go.Proofs.Try

def platesS (l : List Seen) : List Int := platesOf (l.map Seen.step)

end Go.Aw
end

section
set_option maxRecDepth 100000
namespace Go.Aw
open Go Go.Proofs.Try

structure Lgs (b : Bath) (l : List Seen) : Prop where
  ok : b.Ok
  len : l.length ≤ 5
  mem : ∀ s ∈ l, (0 ≤ s.step.plate ∧ s.step.plate < b.plates.length) ∧ 1 ≤ s.step.hours ∧ s.step.hours ≤ 24
  how : ∀ s ∈ l, 1 ≤ s.how ∧ s.how ≤ 3
  nodup : (platesS l).Nodup

end Go.Aw
end

section
set_option maxRecDepth 100000
namespace Go.Aw
open Go Go.Proofs.Try

def Inn (a b : Sp) : Prop := b.lo ≤ a.lo ∧ a.hi ≤ b.hi

def atP (l : List Sp) (p : Nat) : Sp := l.getD p ⟨0, 0⟩

structure Hul (n : Nat) (f : Nat → Option (List Sp)) (i k h : Nat) (r : List Sp) : Prop where
  len : r.length = n
  kin : (f k).isSome = true
  hin : (f h).isSome = true
  kh : k ≤ h
  hlt : h < i
  all : ∀ j now, j < i → f j = some now → (k ≤ j ∧ j ≤ h) ∧ ∀ p : Nat, p < n → Inn (atP now p) (atP r p)
  least : ∀ R : Nat → Sp, (∀ j now, j < i → f j = some now → ∀ p : Nat, p < n → Inn (atP now p) (R p)) → ∀ p : Nat, p < n → Inn (atP r p) (R p)

end Go.Aw
end

section
set_option maxRecDepth 100000
namespace Go.Aw
open Go Go.Proofs.Try

def vatB (x : Vat) : Blk := .cells [.d (.int .u8 x.s.a), .d (.int .u8 x.s.b), .d (.int .u8 x.s.c), .d (.sl (x.plates.map B4.d))]
end Go.Aw
end

section
set_option maxRecDepth 100000
namespace Go.Aw
open Go Go.Proofs.Try

def maskN (q : Nat → Bool) : Nat → Nat
  | 0 => 0
  | i + 1 => maskN q i ||| (if q i = true then 2 ^ i else 0)

theorem maskN_test (q : Nat → Bool) : ∀ i j, (maskN q i).testBit j = (decide (j < i) && q j)
  | 0, j => by simp [maskN]
  | i + 1, j => by
    rw [maskN, Nat.testBit_or, maskN_test q i j]
    by_cases hj : j = i
    · subst hj
      cases hq : q j <;> simp [Nat.testBit_two_pow]
    · have e : decide (j < i + 1) = decide (j < i) := by simp; omega
      rw [e]
      split
      · rw [Nat.testBit_two_pow]
        simp [show ¬ i = j from fun h => hj h.symm]
      · simp

theorem maskN_lt (q : Nat → Bool) : ∀ i, maskN q i < 2 ^ i
  | 0 => by simp [maskN]
  | i + 1 => by
    rw [maskN]
    have h := maskN_lt q i
    refine Nat.or_lt_two_pow (by rw [Nat.pow_succ]; omega) ?_
    split
    · exact Nat.pow_lt_pow_succ (by omega)
    · exact Nat.two_pow_pos _

end Go.Aw
end

section
set_option maxRecDepth 100000
namespace Go.Aw
open Go Go.Proofs.Try

/-- All steps for some plates, by bits, those of smaller plates first. -/
def seqF (b : Bath) : Nat → Nat → Int → List (List Step × Int)
  | 0, _, _ => [([], 0)]
  | n + 1, left, fell =>
    if left = 0 then [([], 0)]
    else (List.range b.plates.length).flatMap fun p : Nat => if (left.testBit p && (hoursW b p fell).2) = true then
      (seqF b n (clr left p) (fell + (b.pl p).takes)).map fun q => (⟨p, (hoursW b p fell).1.lo⟩ :: q.1, (hoursW b p fell).1.lo + q.2) else []

theorem onF_seq (b : Bath) : ∀ (n left : Nat) (l : List Step) (fell hours : Int) (s : Best), onF b n left l fell hours s = (seqF b n left fell).foldl (fun s q => endS (l ++ q.1) (hours + q.2) s) s
  | 0, left, l, fell, hours, s => by simp [onF, seqF]
  | n + 1, left, l, fell, hours, s => by
    by_cases h0 : left = 0
    · simp [onF, seqF, h0]
    · rw [onF, seqF, if_neg h0, if_neg h0, List.foldl_flatMap]
      congr 1
      funext s p
      split
      · rw [onF_seq b n, List.foldl_map]
        simp only [List.append_assoc, List.singleton_append, Int.add_assoc]
      · rfl

def beforeL : List Int → List Int → Bool
  | x :: a, y :: c => if x ≠ y then decide (x < y) else beforeL a c
  | _, _ => false

theorem beforeL_irr : ∀ a : List Int, beforeL a a = false
  | [] => rfl
  | x :: a => by simp [beforeL, beforeL_irr a]

theorem beforeL_asym : ∀ a c : List Int, beforeL a c = true → beforeL c a = false
  | [], _, h => by simp [beforeL] at h
  | _ :: _, [], h => by simp [beforeL] at h
  | x :: a, y :: c, h => by
    simp only [beforeL] at h ⊢
    by_cases e : x = y
    · subst e
      simp only [ne_eq, not_true, if_false] at h ⊢
      exact beforeL_asym a c h
    · rw [if_pos e] at h
      rw [if_pos (fun h => e h.symm)]
      simp only [decide_eq_true_eq] at h
      simp only [decide_eq_false_iff_not]
      omega

def lexR (q r : List Step × Int) : Prop := beforeL (platesOf q.1) (platesOf r.1) = true

theorem seqF_lex (b : Bath) : ∀ (n left : Nat) (fell : Int), (seqF b n left fell).Pairwise lexR
  | 0, _, _ => by simp [seqF]
  | n + 1, left, fell => by
    rw [seqF]
    split
    · simp
    · rw [List.pairwise_flatMap]
      constructor
      · intro p _
        split
        · rw [List.pairwise_map]
          refine (seqF_lex b n _ _).imp fun {q r} h => ?_
          simp only [lexR, platesOf, List.map_cons, beforeL, ne_eq, not_true, if_false] at h ⊢
          exact h
        · exact List.Pairwise.nil
      · refine List.pairwise_lt_range.imp fun {p p'} hlt q hq r hr => ?_
        split at hq
        · split at hr
          · obtain ⟨q', _, rfl⟩ := List.mem_map.1 hq
            obtain ⟨r', _, rfl⟩ := List.mem_map.1 hr
            simp only [lexR, platesOf, List.map_cons, beforeL]
            rw [if_pos (by omega)]
            simp only [decide_eq_true_eq]
            omega
          · cases hr
        · cases hq

/-- The best of a list. -/
structure Top (Q : List (List Step × Int)) (s : Best) : Prop where
  found : s.found = true
  mem : (s.best, s.hrs) ∈ Q
  least : ∀ q ∈ Q, s.hrs ≤ q.2 ∧ (q.2 = s.hrs → beforeL (platesOf q.1) (platesOf s.best) = false)

theorem top_step {Q : List (List Step × Int)} {q : List Step × Int} {s : Best} (h : (Q = [] ∧ s.found = false) ∨ Top Q s) (hq : ∀ r ∈ Q, lexR r q) : Top (Q ++ [q]) (endS q.1 q.2 s) := by
  rcases h with ⟨rfl, hf⟩ | h
  · rw [endS, hf]
    simp only [Bool.not_false, Bool.true_or, if_true, List.nil_append]
    exact ⟨rfl, by simp, fun r hr => by
      simp only [List.mem_singleton] at hr
      subst hr
      exact ⟨Int.le_refl _, fun _ => beforeL_irr _⟩⟩
  · rw [endS, h.found]
    simp only [Bool.not_true, Bool.false_or, decide_eq_true_eq]
    split
    · rename_i hlt
      refine ⟨rfl, by simp, fun r hr => ?_⟩
      rcases List.mem_append.1 hr with hr | hr
      · have := (h.least r hr).1
        exact ⟨by simp only; omega, fun e => by simp only at e; omega⟩
      · simp only [List.mem_singleton] at hr
        subst hr
        exact ⟨Int.le_refl _, fun _ => beforeL_irr _⟩
    · rename_i hlt
      refine ⟨h.found, List.mem_append_left _ h.mem, fun r hr => ?_⟩
      rcases List.mem_append.1 hr with hr | hr
      · exact h.least r hr
      · simp only [List.mem_singleton] at hr
        subst hr
        exact ⟨by omega, fun _ => beforeL_asym _ _ (hq _ h.mem)⟩

theorem top_fold : ∀ (R Q : List (List Step × Int)) (s : Best), (Q = [] ∧ s.found = false) ∨ Top Q s → (Q ++ R).Pairwise lexR → ((Q ++ R = [] ∧ (R.foldl (fun s q => endS q.1 q.2 s) s).found = false) ∨ Top (Q ++ R) (R.foldl (fun s q => endS q.1 q.2 s) s))
  | [], Q, s, h, _ => by simpa using h
  | q :: R, Q, s, h, hp => by
    have hq : ∀ r ∈ Q, lexR r q := fun r hr => (List.pairwise_append.1 hp).2.2 r hr q List.mem_cons_self
    have e : Q ++ q :: R = (Q ++ [q]) ++ R := by simp
    rw [e] at hp ⊢
    rw [List.foldl_cons]
    exact top_fold R (Q ++ [q]) _ (.inr (top_step h hq)) hp

theorem best_top (b : Bath) (set : Nat) : (seqF b 31 set 0 = [] ∧ (bestOf b set).found = false) ∨ Top (seqF b 31 set 0) (bestOf b set) := by
  have h := top_fold (seqF b 31 set 0) [] ⟨[], 0, false⟩ (.inl ⟨rfl, rfl⟩) (by simpa using seqF_lex b 31 set 0)
  rw [bestOf, onF_seq]
  simpa using h

/-- Steps that surely come out well, each with the least hours. -/
structure Well (b : Bath) (left : Nat) (fell : Int) (l : List Step) (h : Int) : Prop where
  nodup : (platesOf l).Nodup
  mem : ∀ p : Nat, (p : Int) ∈ platesOf l ↔ left.testBit p = true ∧ p < b.plates.length
  nn : ∀ s ∈ l, 0 ≤ s.plate ∧ s.plate < b.plates.length
  step : ∀ (i : Nat) (s : Step), l[i]? = some s → (hoursW b s.plate (fell + fellF b (platesOf (l.take i)))).2 = true ∧ s.hours = (hoursW b s.plate (fell + fellF b (platesOf (l.take i)))).1.lo
  sum : h = (l.map Step.hours).sum

theorem clr_left {left p : Nat} (h : left.testBit p = true) (q : Nat) : (clr left p).testBit q = true ↔ left.testBit q = true ∧ q ≠ p := by
  rw [clr_bit]
  by_cases e : p = q
  · subst e; simp [h]
  · have : q ≠ p := fun h => e h.symm
    simp [e, this]

theorem seqF_well (b : Bath) : ∀ (n left : Nat) (fell : Int), left ≤ n → left < 2 ^ b.plates.length → ∀ q, q ∈ seqF b n left fell ↔ Well b left fell q.1 q.2
  | n, left, fell, hn, hlt, ⟨l, h⟩ => by
    by_cases h0 : left = 0
    · have e : seqF b n left fell = [([], 0)] := by cases n <;> simp [seqF, h0]
      rw [e, List.mem_singleton]
      constructor
      · rintro ⟨⟩
        exact ⟨List.nodup_nil, fun p => by simp [platesOf, h0], fun s hs => absurd hs (by simp), fun i s h => absurd h (by simp), rfl⟩
      · intro W
        cases l with
        | nil => rw [Prod.mk.injEq]; exact ⟨rfl, W.sum⟩
        | cons s r =>
          have hs := W.nn s List.mem_cons_self
          have := (W.mem s.plate.toNat).1 (by rw [show ((s.plate.toNat : Nat) : Int) = s.plate by omega]; simp [platesOf])
          rw [h0] at this
          simp at this
    · cases n with
      | zero => omega
      | succ n =>
        rw [seqF, if_neg h0, List.mem_flatMap]
        constructor
        · rintro ⟨p, hp, hq⟩
          rw [List.mem_range] at hp
          split at hq
          · rename_i hc
            simp only [Bool.and_eq_true] at hc
            obtain ⟨⟨l', h'⟩, hm, he⟩ := List.mem_map.1 hq
            simp only [Prod.mk.injEq] at he
            obtain ⟨rfl, rfl⟩ := he
            have hcl := clr_lt hc.1
            have W := (seqF_well b n (clr left p) _ (by omega) (by omega) (l', h')).1 hm
            refine ⟨?_, fun q => ?_, fun s hs => ?_, fun i s hs => ?_, ?_⟩
            · simp only [platesOf, List.map_cons, List.nodup_cons]
              refine ⟨fun hin => ?_, W.nodup⟩
              have := (W.mem p).1 hin
              rw [clr_left hc.1] at this
              exact this.1.2 rfl
            · simp only [platesOf, List.map_cons, List.mem_cons]
              have := W.mem q
              simp only [platesOf] at this
              rw [this, clr_left hc.1]
              constructor
              · rintro (e | ⟨⟨h1, h2⟩, h3⟩)
                · have : q = p := by omega
                  subst this
                  exact ⟨hc.1, hp⟩
                · exact ⟨h1, h3⟩
              · rintro ⟨h1, h2⟩
                by_cases e : q = p
                · left; rw [e]
                · exact .inr ⟨⟨h1, e⟩, h2⟩
            · rcases List.mem_cons.1 hs with rfl | hs
              · simp only; omega
              · exact W.nn s hs
            · cases i with
              | zero =>
                simp only [List.getElem?_cons_zero, Option.some.injEq] at hs
                subst hs
                simp only [List.take_zero, platesOf, List.map_nil, fellF, List.sum_nil, Int.add_zero]
                exact ⟨hc.2, trivial⟩
              | succ i =>
                rw [List.getElem?_cons_succ] at hs
                have := W.step i s hs
                simp only [List.take_succ_cons, platesOf, List.map_cons, fellF, List.sum_cons, ← Int.add_assoc] at this ⊢
                exact this
            · simp only [List.map_cons, List.sum_cons]
              have hsum : h' = (l'.map Step.hours).sum := W.sum
              rw [← hsum]
          · cases hq
        · intro W
          cases l with
          | nil =>
            obtain ⟨p, hp⟩ := Nat.exists_testBit_of_ne_zero h0
            have hpl : p < b.plates.length := by
              refine Classical.byContradiction fun hc => ?_
              rw [Nat.testBit_lt_two_pow (Nat.lt_of_lt_of_le hlt (Nat.pow_le_pow_right (by omega) (by omega)))] at hp
              cases hp
            have := (W.mem p).2 ⟨hp, hpl⟩
            simp [platesOf] at this
          | cons s r =>
            have hs := W.nn s List.mem_cons_self
            obtain ⟨p, hp⟩ : ∃ p : Nat, s.plate = p := ⟨s.plate.toNat, by omega⟩
            have hpm := (W.mem p).1 (by rw [← hp]; simp [platesOf])
            have hst := W.step 0 s rfl
            simp only [List.take_zero, platesOf, List.map_nil, fellF, List.sum_nil, Int.add_zero] at hst
            rw [hp] at hst
            have hnd := W.nodup
            simp only [platesOf, List.map_cons, List.nodup_cons] at hnd
            have hcl := clr_lt hpm.1
            refine ⟨p, List.mem_range.2 hpm.2, ?_⟩
            rw [if_pos (by rw [hpm.1, hst.1]; rfl)]
            refine List.mem_map.2 ⟨(r, (r.map Step.hours).sum), ?_, ?_⟩
            · refine (seqF_well b n (clr left p) _ (by omega) (by omega) _).2 ⟨hnd.2, fun q => ?_, fun x hx => W.nn x (List.mem_cons_of_mem _ hx), fun i x hx => ?_, rfl⟩
              · rw [clr_left hpm.1]
                have := W.mem q
                simp only [platesOf, List.map_cons, List.mem_cons] at this ⊢
                constructor
                · intro hq
                  obtain ⟨h1, h2⟩ := this.1 (.inr hq)
                  refine ⟨⟨h1, fun e => ?_⟩, h2⟩
                  rw [e, ← hp] at hq
                  exact hnd.1 hq
                · rintro ⟨⟨h1, h2⟩, h3⟩
                  rcases this.2 ⟨h1, h3⟩ with h4 | h4
                  · omega
                  · exact h4
              · have := W.step (i + 1) x (by rw [List.getElem?_cons_succ]; exact hx)
                simp only [List.take_succ_cons, platesOf, List.map_cons, fellF, List.sum_cons, ← Int.add_assoc, hp] at this ⊢
                exact this
            · have hsum : h = ((s :: r).map Step.hours).sum := W.sum
              rw [hsum, ← hst.2, ← hp]
              rfl
end Go.Aw
end

section
set_option maxRecDepth 100000
namespace Go.Aw
open Go Go.Proofs.Try

theorem two_pow_bit {n p : Nat} (h : p < n) : (2 ^ n - 1).testBit p = true := by
  rw [Nat.testBit_two_pow_sub_one]; simpa using h

end Go.Aw
end

section
set_option maxRecDepth 100000
namespace Go.Aw
open Go Go.Proofs.Try

/-- What is in a slot; a list of steps is just that. -/
def EWl (E : Env) : Env → Prop
  | [] => True
  | (k, v) :: r => (E.look k = v ∨ ∃ l : List Step, E.look k = lv l ∧ v = .d (.sl (l.map Step.d))) ∧ EWl E r

theorem EWl_ew {n : Nat} {H : Heap} (hH : H.length ≤ n) {E : Env} : ∀ {E' : Env}, EWl E E' → EW n H E E'
  | [], _ => trivial
  | (_, _) :: _, h => ⟨by
      rcases h.1 with h1 | ⟨l, h1, h2⟩
      · exact .inr (.inl ⟨h1, hH⟩)
      · subst h2
        rw [h1]
        cases l with
        | nil => exact .inr (.inr (.inr ⟨some true, [], rfl, .inr rfl⟩))
        | cons x r => exact .inr (.inl ⟨rfl, hH⟩), EWl_ew hH h.2⟩

theorem ForgetTo.sameL {n0 : Nat} {E E' : Env} {H H' : Heap} (hn : n0 ≤ H.length) (he : EWl E E') (hH : H = H') : ForgetTo n0 E H E' H' := by
  subst hH
  exact ⟨hn, Nat.le_refl _, .inl (Nat.le_refl _), List.take_length, EWl_ew (Nat.le_refl _) he⟩

end Go.Aw
end

section
set_option maxRecDepth 100000
namespace Go.Aw
open Go Go.Proofs.Try

def b4I (v : B4) : Nat → Int
  | 0 => v.a
  | 1 => v.b
  | 2 => v.c
  | _ => v.e

end Go.Aw
end

section
set_option maxRecDepth 100000
namespace Go.Aw
open Go Go.Proofs.Try

/-- The plates of a filling, by bits. -/
def maskL (l : List Nat) (n : Nat) : Nat := maskN (fun q => decide (l[q]? = some n)) l.length

theorem maskN_congr {p q : Nat → Bool} : ∀ n, (∀ j, j < n → p j = q j) → maskN p n = maskN q n
  | 0, _ => rfl
  | n + 1, h => by rw [maskN, maskN, maskN_congr n fun j hj => h j (by omega), h n (by omega)]

theorem maskL_snoc (l : List Nat) (i n : Nat) : maskL (l ++ [i]) n = maskL l n ||| (if i = n then 2 ^ l.length else 0) := by
  have e : maskN (fun q => decide ((l ++ [i])[q]? = some n)) l.length = maskL l n := maskN_congr _ fun j hj => by
    rw [List.getElem?_append_left hj]
  rw [maskL, List.length_append, List.length_singleton, maskN, e]
  simp

theorem maskL_bit (l : List Nat) (n j : Nat) : (maskL l n).testBit j = true ↔ l[j]? = some n := by
  rw [maskL, maskN_test, Bool.and_eq_true, decide_eq_true_eq, decide_eq_true_eq]
  constructor
  · exact fun h => h.2
  · intro h
    exact ⟨(List.getElem?_eq_some_iff.1 h).1, h⟩

theorem fills_set (l : List Nat) (m i : Nat) : ((List.range m).map (maskL l)).set i (((List.range m).map (maskL l)).getD i 0 ||| 2 ^ l.length) = (List.range m).map (maskL (l ++ [i])) := by
  refine List.ext_getElem (by simp) fun n h1 h2 => ?_
  simp only [List.length_map, List.length_range] at h2
  rw [List.getElem_set]
  split
  · rename_i hin
    subst hin
    rw [List.getD_eq_getElem?_getD, List.getElem?_map, List.getElem?_range h2]
    simp only [Option.map_some, Option.getD_some, List.getElem_map, List.getElem_range]
    rw [maskL_snoc, if_pos rfl]
  · rename_i hin
    simp only [List.getElem_map, List.getElem_range]
    rw [maskL_snoc, if_neg hin, Nat.or_zero]

theorem fillF_iff (m : Nat) : ∀ (r : Nat) (l : List Nat) (p : List Nat × List Nat), p ∈ fillF r l ((List.range m).map (maskL l)) ↔ ∃ t : List Nat, t.length = r ∧ (∀ x ∈ t, x < m) ∧ p = (l ++ t, (List.range m).map (maskL (l ++ t)))
  | 0, l, p => by
    rw [fillF, List.mem_singleton]
    constructor
    · rintro rfl; exact ⟨[], rfl, by simp, by simp⟩
    · rintro ⟨t, ht, _, rfl⟩
      rw [List.length_eq_zero_iff.1 ht, List.append_nil]
  | r + 1, l, p => by
    rw [fillF, List.mem_flatMap]
    simp only [fills_set, List.length_map, List.length_range, List.mem_range]
    constructor
    · rintro ⟨i, hi, hp⟩
      obtain ⟨t, h1, h2, h3⟩ := (fillF_iff m r (l ++ [i]) p).1 hp
      refine ⟨i :: t, by simp [h1], fun x hx => ?_, by simpa using h3⟩
      rcases List.mem_cons.1 hx with rfl | hx
      · exact hi
      · exact h2 x hx
    · rintro ⟨t, h1, h2, h3⟩
      cases t with
      | nil => simp at h1
      | cons i t =>
        exact ⟨i, h2 i List.mem_cons_self, (fillF_iff m r (l ++ [i]) p).2 ⟨t, by simpa using h1, fun x hx => h2 x (List.mem_cons_of_mem _ hx), by simpa using h3⟩⟩

theorem fillG_iff (b : Bath) (m : Nat) (p : List Nat × List Nat) : p ∈ fillG b m ↔ ∃ t : List Nat, t.length = b.plates.length ∧ (∀ x ∈ t, x < m) ∧ p = (t, (List.range m).map (maskL t)) := by
  have e : List.replicate m 0 = (List.range m).map (maskL []) := by
    refine List.ext_getElem (by simp) fun n h1 h2 => ?_
    simp [maskL, maskN]
  rw [fillG, e, fillF_iff]
  simp

/-- Fillings in which all plates surely come out well. -/
def OkT (b : Bath) (t : List Nat) (m : Nat) : Prop := ∀ n, n < m → wellP b (maskL t n) = true

theorem okF_iff (b : Bath) (t : List Nat) (m : Nat) : okF b (t, (List.range m).map (maskL t)) = true ↔ OkT b t m := by
  simp [okF, OkT, List.all_eq_true]

theorem find_range {α : Type} (g : Nat → List α) (ok : α → Bool) : ∀ N, (((List.range N).flatMap g).find? ok = none → ∀ m, m < N → ∀ q ∈ g m, ok q = false) ∧ ∀ p, ((List.range N).flatMap g).find? ok = some p → ∃ m, m < N ∧ p ∈ g m ∧ ok p = true ∧ ∀ m', m' < m → ∀ q ∈ g m', ok q = false
  | 0 => ⟨fun _ m hm => by omega, fun p h => by simp at h⟩
  | N + 1 => by
    obtain ⟨h1, h2⟩ := find_range g ok N
    rw [List.range_succ, List.flatMap_append, List.find?_append]
    cases hN : ((List.range N).flatMap g).find? ok with
    | some p =>
      refine ⟨fun h => by simp at h, fun q hq => ?_⟩
      simp only [Option.some_or, Option.some.injEq] at hq
      subst hq
      obtain ⟨m, a1, a2⟩ := h2 p hN
      exact ⟨m, by omega, a2⟩
    | none =>
      simp only [Option.none_or, List.flatMap_cons, List.flatMap_nil, List.append_nil]
      refine ⟨fun h m hm q hq => ?_, fun p hp => ⟨N, by omega, List.mem_of_find?_eq_some hp, List.find?_some hp, fun m' hm' q hq => h1 hN m' hm' q hq⟩⟩
      by_cases e : m = N
      · subst e
        simpa using List.find?_eq_none.1 h q hq
      · exact h1 hN m (by omega) q hq

theorem first_none {b : Bath} (h : fillFirst b = none) {m : Nat} (hm : m ≤ b.plates.length) {t : List Nat} (ht : t.length = b.plates.length) (hx : ∀ x ∈ t, x < m) : ¬ OkT b t m := fun ho => by
  have := (find_range (fillG b) (okF b) (b.plates.length + 1)).1 h m (by omega) _ ((fillG_iff b m _).2 ⟨t, ht, hx, rfl⟩)
  rw [(okF_iff b t m).2 ho] at this
  cases this

theorem first_some {b : Bath} {p : List Nat × List Nat} (h : fillFirst b = some p) : ∃ m, m ≤ b.plates.length ∧ p.1.length = b.plates.length ∧ (∀ x ∈ p.1, x < m) ∧ OkT b p.1 m ∧ ∀ m', m' < m → ∀ t : List Nat, t.length = b.plates.length → (∀ x ∈ t, x < m') → ¬ OkT b t m' := by
  obtain ⟨m, a1, a2, a3, a4⟩ := (find_range (fillG b) (okF b) (b.plates.length + 1)).2 p h
  obtain ⟨t, t1, t2, rfl⟩ := (fillG_iff b m p).1 a2
  refine ⟨m, by omega, t1, t2, (okF_iff b t m).1 a3, fun m' hm' t' h1 h2 ho => ?_⟩
  have := a4 m' hm' _ ((fillG_iff b m' _).2 ⟨t', h1, h2, rfl⟩)
  rw [(okF_iff b t' m').2 ho] at this
  cases this

/-- How many fillings there are, by the greatest number. -/
def mxT (t : List Nat) : Nat := t.foldl (fun m n => max m (n + 1)) 0

theorem mxT_snoc (t : List Nat) (n : Nat) : mxT (t ++ [n]) = max (mxT t) (n + 1) := by simp [mxT, List.foldl_append]

theorem mxT_le {m : Nat} : ∀ t : List Nat, mxT t ≤ m ↔ ∀ x ∈ t, x < m := by
  have h : ∀ (t : List Nat) (a : Nat), t.foldl (fun m n => max m (n + 1)) a ≤ m ↔ a ≤ m ∧ ∀ x ∈ t, x < m := by
    intro t
    induction t with
    | nil => intro a; simp
    | cons y t ih =>
      intro a
      rw [List.foldl_cons, ih, Nat.max_le, List.forall_mem_cons, and_assoc]
      rfl
  intro t
  rw [mxT, h]
  simp

theorem wellP_iff {b : Bath} {set : Nat} (hs : set ≤ 31) (hlt : set < 2 ^ b.plates.length) : wellP b set = true ↔ ∃ l h, Well b set 0 l h := by
  have hw := fun q => seqF_well b 31 set 0 hs hlt q
  rw [wellP]
  rcases best_top b set with ⟨h1, h2⟩ | T
  · rw [h2]
    constructor
    · intro h; cases h
    · rintro ⟨l, h, W⟩
      have := (hw (l, h)).2 W
      rw [h1] at this
      cases this
  · rw [T.found]
    exact ⟨fun _ => ⟨_, _, (hw _).1 T.mem⟩, fun _ => rfl⟩

theorem hoursW_pl {b1 b2 : Bath} (hstr : b1.str = b2.str) {p q : Int} (hpl : b2.pl q = b1.pl p) (fell : Int) : hoursW b2 q fell = hoursW b1 p fell := by
  simp only [hoursW, hourLo, hourHi, hstr, hpl]

/-- The same plates in another bath. -/
theorem well_map {b1 b2 : Bath} {S1 S2 : Nat} (g : Nat → Nat) (hstr : b1.str = b2.str) (hpl : ∀ p : Nat, (S1.testBit p = true ∧ p < b1.plates.length) → b2.pl (g p : Nat) = b1.pl p)
    (hinj : ∀ p q : Nat, (S1.testBit p = true ∧ p < b1.plates.length) → (S1.testBit q = true ∧ q < b1.plates.length) → g p = g q → p = q)
    (himg : ∀ q : Nat, (S2.testBit q = true ∧ q < b2.plates.length) ↔ ∃ p : Nat, (S1.testBit p = true ∧ p < b1.plates.length) ∧ g p = q)
    {l : List Step} {h : Int} (W : Well b1 S1 0 l h) : ∃ l', Well b2 S2 0 l' h := by
  have hin : ∀ s ∈ l, ∃ p : Nat, s.plate = p ∧ S1.testBit p = true ∧ p < b1.plates.length := fun s hs => by
    have := W.nn s hs
    refine ⟨s.plate.toNat, by omega, ?_⟩
    exact (W.mem s.plate.toNat).1 (by rw [show ((s.plate.toNat : Nat) : Int) = s.plate by omega]; exact List.mem_map.2 ⟨s, hs, rfl⟩)
  have hfell : ∀ k : List Step, (∀ s ∈ k, s ∈ l) → fellF b2 (platesOf (k.map fun s => Step.mk (g s.plate.toNat : Nat) s.hours)) = fellF b1 (platesOf k) := by
    intro k
    induction k with
    | nil => intro _; rfl
    | cons s r ih =>
      intro hk
      obtain ⟨p, hp, hb⟩ := hin s (hk s List.mem_cons_self)
      have := ih fun x hx => hk x (List.mem_cons_of_mem _ hx)
      simp only [platesOf, List.map_map, fellF, List.map_cons, List.sum_cons] at this ⊢
      rw [this, hp, Int.toNat_natCast, hpl p hb]
  refine ⟨l.map fun s => ⟨(g s.plate.toNat : Nat), s.hours⟩, ?_, fun q => ?_, fun s hs => ?_, fun i s hs => ?_, ?_⟩
  · have hn := W.nodup
    rw [platesOf, List.Nodup, List.pairwise_map] at hn ⊢
    rw [List.pairwise_map]
    refine hn.imp_of_mem fun {s t} hs ht hne e => hne ?_
    obtain ⟨p, hp, hpb⟩ := hin s hs
    obtain ⟨q, hq, hqb⟩ := hin t ht
    simp only [hp, hq, Int.toNat_natCast] at e ⊢
    rw [hinj p q hpb hqb (by omega)]
  · rw [himg]
    simp only [platesOf, List.map_map, List.mem_map, Function.comp]
    constructor
    · rintro ⟨s, hs, e⟩
      obtain ⟨p, hp, hpb⟩ := hin s hs
      rw [hp, Int.toNat_natCast] at e
      exact ⟨p, hpb, by omega⟩
    · rintro ⟨p, hpb, e⟩
      obtain ⟨s, hs, hsp⟩ := List.mem_map.1 ((W.mem p).2 hpb)
      exact ⟨s, hs, by rw [hsp, Int.toNat_natCast, e]⟩
  · obtain ⟨t, ht, rfl⟩ := List.mem_map.1 hs
    obtain ⟨p, hp, hpb⟩ := hin t ht
    simp only [hp, Int.toNat_natCast]
    have := (himg (g p)).2 ⟨p, hpb, rfl⟩
    omega
  · rw [List.getElem?_map] at hs
    obtain ⟨t, ht, rfl⟩ := Option.map_eq_some_iff.1 hs
    have htm := List.mem_of_getElem? ht
    obtain ⟨p, hp, hpb⟩ := hin t htm
    have hst := W.step i t ht
    rw [← List.map_take, hfell _ fun s hs => List.mem_of_mem_take hs]
    simp only
    rw [hp, Int.toNat_natCast, hoursW_pl hstr (hpl p hpb)]
    rw [hp] at hst
    exact hst
  · rw [W.sum]
    congr 1
    simp
end Go.Aw
end

section
set_option maxRecDepth 100000
namespace Go.Aw
open Go Go.Proofs.Try

def idxL (t : List Nat) (n k : Nat) : List Nat := (List.range k).filter fun q => decide (t[q]? = some n)

theorem idxL_succ (t : List Nat) (n k : Nat) : idxL t n (k + 1) = idxL t n k ++ (if t[k]? = some n then [k] else []) := by
  simp only [idxL, List.range_succ, List.filter_append, List.filter_cons, List.filter_nil]
  split <;> simp_all

theorem idxL_len (t : List Nat) (n k : Nat) : (idxL t n k).length ≤ k := by
  have := List.length_filter_le (fun q => decide (t[q]? = some n)) (List.range k)
  simpa [idxL] using this

theorem idxL_mem (t : List Nat) (n k q : Nat) : q ∈ idxL t n k ↔ q < k ∧ t[q]? = some n := by
  simp [idxL]

theorem idxL_nodup (t : List Nat) (n k : Nat) : (idxL t n k).Nodup := List.Nodup.sublist List.filter_sublist List.nodup_range

/-- The bath with some of the plates. -/
def subB (b : Bath) (t : List Nat) (n k : Nat) : Bath := ⟨b.str, (idxL t n k).map fun q : Nat => b.pl q⟩

theorem subB_len (b : Bath) (t : List Nat) (n k : Nat) : (subB b t n k).plates.length = (idxL t n k).length := by simp [subB]

theorem subB_ok {b : Bath} (hok : b.Ok) {t : List Nat} (ht : t.length = b.plates.length) (n : Nat) : (subB b t n t.length).Ok := by
  obtain ⟨s1, s2, s3, s4, s5⟩ := id hok
  refine ⟨s1, s2, s3, ?_, fun p hp => ?_⟩
  · have := idxL_len t n t.length
    rw [subB_len]; omega
  · obtain ⟨q, _, rfl⟩ := List.mem_map.1 hp
    exact hok.pl q

theorem subB_pl (b : Bath) (t : List Nat) (n k : Nat) {j : Nat} (hj : j < (idxL t n k).length) : (subB b t n k).pl j = b.pl ((idxL t n k).getD j 0 : Nat) := by
  have : (subB b t n k).pl j = (subB b t n k).plates.getD j ⟨⟨0, 0⟩, 0, 0⟩ := rfl
  rw [this, subB, List.getD_eq_getElem?_getD, List.getElem?_map, List.getD_eq_getElem?_getD, List.getElem?_eq_getElem hj]
  rfl

theorem sub_well {b : Bath} (hok : b.Ok) {t : List Nat} (ht : t.length = b.plates.length) (n : Nat) : wellP (subB b t n t.length) (2 ^ (subB b t n t.length).plates.length - 1) = wellP b (maskL t n) := by
  have hb5 := hok.2.2.2.1
  have hil := idxL_len t n t.length
  have hsl := subB_len b t n t.length
  have hm1 : maskL t n < 2 ^ t.length := maskN_lt _ _
  have hm2 : 2 ^ t.length ≤ 2 ^ 5 := Nat.pow_le_pow_right (by omega) (by omega)
  have hs2 : 2 ^ (subB b t n t.length).plates.length ≤ 2 ^ 5 := Nat.pow_le_pow_right (by omega) (by omega)
  have hs3 := Nat.two_pow_pos (subB b t n t.length).plates.length
  have hnd := idxL_nodup t n t.length
  have hmem : ∀ q : Nat, ((maskL t n).testBit q = true ∧ q < b.plates.length) ↔ q ∈ idxL t n t.length := fun q => by
    rw [maskL_bit, idxL_mem, ht, and_comm]
  rw [Bool.eq_iff_iff, wellP_iff (by omega) (by omega), wellP_iff (by omega) (by rw [← ht]; exact hm1)]
  constructor
  · rintro ⟨l, h, W⟩
    have hin : ∀ p : Nat, ((2 ^ (subB b t n t.length).plates.length - 1).testBit p = true ∧ p < (subB b t n t.length).plates.length) → p < (idxL t n t.length).length := fun p hp => by rw [← hsl]; exact hp.2
    obtain ⟨l', W'⟩ := well_map (b1 := subB b t n t.length) (S1 := 2 ^ (subB b t n t.length).plates.length - 1) (b2 := b) (S2 := maskL t n) (fun j => (idxL t n t.length).getD j 0) rfl (fun p hp => (subB_pl b t n t.length (hin p hp)).symm)
      (fun p q hp hq e => by
        have h1 := hin p hp
        have h2 := hin q hq
        simp only [List.getD_eq_getElem?_getD, List.getElem?_eq_getElem h1, List.getElem?_eq_getElem h2, Option.getD_some] at e
        exact (List.getElem?_inj h1 hnd).1 (by rw [List.getElem?_eq_getElem h1, List.getElem?_eq_getElem h2, e]))
      (fun q => by
        rw [hmem]
        constructor
        · intro hq
          obtain ⟨j, hj⟩ := List.getElem?_of_mem hq
          have hjl := (List.getElem?_eq_some_iff.1 hj).1
          exact ⟨j, ⟨two_pow_bit (by omega), by omega⟩, by simp only [List.getD_eq_getElem?_getD, hj, Option.getD_some]⟩
        · rintro ⟨j, hj, rfl⟩
          have h1 := hin j hj
          simp only [List.getD_eq_getElem?_getD, List.getElem?_eq_getElem h1, Option.getD_some]
          exact List.getElem_mem h1) W
    exact ⟨l', h, W'⟩
  · rintro ⟨l, h, W⟩
    have hix : ∀ q, q ∈ idxL t n t.length → (idxL t n t.length).idxOf q < (idxL t n t.length).length ∧ (idxL t n t.length).getD ((idxL t n t.length).idxOf q) 0 = q := fun q hq => by
      have h1 := List.idxOf_lt_length_of_mem hq
      exact ⟨h1, by rw [List.getD_eq_getElem?_getD, List.getElem?_eq_getElem h1, Option.getD_some, List.getElem_idxOf]⟩
    obtain ⟨l', W'⟩ := well_map (b1 := b) (S1 := maskL t n) (b2 := subB b t n t.length) (S2 := 2 ^ (subB b t n t.length).plates.length - 1) (fun q => (idxL t n t.length).idxOf q) rfl (fun p hp => by
        have h1 := hix p ((hmem p).1 hp)
        rw [subB_pl b t n t.length h1.1, h1.2])
      (fun p q hp hq e => by
        have h1 := hix p ((hmem p).1 hp)
        have h2 := hix q ((hmem q).1 hq)
        rw [← h1.2, ← h2.2, e])
      (fun j => by
        constructor
        · rintro ⟨_, hj⟩
          have hj' : j < (idxL t n t.length).length := by omega
          refine ⟨(idxL t n t.length)[j], (hmem _).2 (List.getElem_mem hj'), ?_⟩
          have h1 := hix _ (List.getElem_mem hj')
          have h2 := h1.2
          rw [List.getD_eq_getElem?_getD, List.getElem?_eq_getElem h1.1, Option.getD_some] at h2
          exact (List.getElem?_inj h1.1 hnd).1 (by rw [List.getElem?_eq_getElem h1.1, List.getElem?_eq_getElem hj', h2])
        · rintro ⟨p, hp, rfl⟩
          have h1 := hix p ((hmem p).1 hp)
          exact ⟨two_pow_bit (by omega), by omega⟩) W
    exact ⟨l', h, W'⟩

theorem order_sub {b : Bath} (hok : b.Ok) {t : List Nat} (ht : t.length = b.plates.length) (n : Nat) : (orderP (subB b t n t.length)).2 = if wellP b (maskL t n) = true then 0 else 9 := by
  rw [orderP, if_pos (checkP_iff.2 (subB_ok hok ht n)), ← sub_well hok ht n, wellP]
  split <;> rfl

/-- A value as data, if it is. -/
def dd : V → V
  | .slx _ l => .d (.sl l)
  | .agg l => if l.all V.one = true then norm l else .agg l
  | v => v

theorem dd_sound {g : G} {H : Heap} {w : World} {v : V} {c : Value} (h : VR g H w v c) : VR g H w (dd v) c := by
  unfold dd
  split
  · exact dz_sound h
  · rename_i l
    split
    · rename_i ho
      simp only [VR] at h
      obtain ⟨cs, rfl, h2⟩ := h
      exact norm_sound (List.all_eq_true.1 ho) h2
    · exact h
  · exact h

theorem dds_sound {g : G} {H : Heap} {w : World} : ∀ (vs : List V) (cs : List Value), VRs g H w vs cs → VRs g H w (vs.map dd) cs
  | [], _, h => by simpa [VRs] using h
  | v :: r, cs, h => by
    simp only [VRs, List.map_cons] at h ⊢
    obtain ⟨c, r', h1, h2, h3⟩ := h
    exact ⟨c, r', h1, dd_sound h2, dds_sound r r' h3⟩

/-- A contract on data, where a row is given away for good. -/
theorem PC.callZ {P : Program} {f : FuncId} {vs : List V} {v : V} {us : List V} {H : Heap} {Q : V → Heap → Prop} (id : Nat) {sz : Nat} {nl : Bool} {els : List D} (h : PC P f vs v) (he : H[id]? = some (.arr sz nl els)) (h1 : (frzVs id els us).map dd = vs)
    (h2 : VBs 0 vs = true) (h3 : VB 0 v = true) (hq : Q v (H.set id (.arr sz nl (els ++ [.nilp])))) : ACallV P (.fn (.func f) [] []) us H Q := by
  subst h1
  show ACalls P f ([] ++ us ++ []) H Q
  rw [List.nil_append, List.append_nil]
  refine ACalls.frz he ?_
  have := PC.use h h2 h3 hq
  exact ⟨this.1, fun g w cvs hr hv => this.2 g w cvs hr (dds_sound _ cvs hv)⟩

def wellA (b : Bath) (t : List Nat) : Bool := (List.range t.length).all fun n => wellP b (maskL t n)

theorem c67 {b : Bath} (hok : b.Ok) {t : List Nat} (ht : t.length = b.plates.length) : PC prog 67 [.d (.sl (natsD t)), .pp [.int .i64 b.str.lo, .int .i64 b.str.hi, .sl (b.plates.map Plate.d)]] (.d (.bool (wellA b t))) := by
  have hb5 := hok.2.2.2.1
  have htl : (natsD t).length = t.length := by simp [natsD]
  refine PC.run (fun k => k == 17) tt_ok (fn := f67) (rs := [.tmp 3]) rfl rfl rfl rfl rfl rfl rfl ?_
  simp only [go_sem]
  refine ALoop.by (S := Nat) (fun n => [(4, .d (.int .i64 n)), (1, .pp [.int .i64 b.str.lo, .int .i64 b.str.hi, .sl (b.plates.map Plate.d)]), (0, .d (.sl (natsD t)))]) (fun _ => []) (fun n => t.length - n) (fun n => n ≤ t.length ∧ ∀ m, m < n → wellP b (maskL t m) = true) 0 (Nat.zero_le _) (fun _ h => nomatch h) ⟨Nat.zero_le _, fun m hm => by omega⟩ ?_ ?_
  · exact ForgetTo.same' (Nat.zero_le _) (by simp [EWe, Env.look]) rfl
  rintro n ⟨hn, hall⟩ hn0
  refine AWP.run (fun k => k == 17) tt_ok (fun _ h => nomatch h) (Nat.zero_le _) rfl ?_
  simp only [go_sem, htl]
  refine Br_split (fun hd => ?_) (fun hd => ?_) <;> simp only [go_sem, hd]
  · have hlt : n < t.length := by simpa using hd
    have hnx : IntKind.i64.wrap ((n : Int) + 1) = (n : Int) + 1 := w64 (by omega) (by omega)
    change AWP _ _ _ _ _ _ _ _
    refine AWP.nilrow 0 2 4 rfl rfl (Nat.zero_le _) ?_
    refine ALoop.by (S := Nat) (fun p => [(6, .d (.int .i64 p)), (5, .ptr 0 0), (4, .d (.int .i64 n)), (1, .pp [.int .i64 b.str.lo, .int .i64 b.str.hi, .sl (b.plates.map Plate.d)]), (0, .d (.sl (natsD t)))])
      (fun p => [.cells [.d (.int .i64 b.str.lo), .d (.int .i64 b.str.hi), .ref 1 (idxL t n p).length 0 (idxL t n p).length], .arr 4 (decide ((idxL t n p).length = 0)) ((subB b t n p).plates.map Plate.d)]) (fun p => t.length - p) (fun p => p ≤ t.length) 0 (Nat.zero_le _) (fun _ h => nomatch h) (Nat.zero_le _) ?_ ?_
    · exact ForgetTo.same' (Nat.zero_le _) (by simp [EWe, Env.look]) (by simp [idxL, subB])
    rintro p hp hnp
    refine AWP.run (fun k => k == 17) tt_ok (fun _ h => nomatch h) (Nat.zero_le _) rfl ?_
    simp only [go_sem, htl]
    refine Br_split (fun he => ?_) (fun he => ?_) <;> simp only [go_sem, he]
    · have hpl : p < t.length := by simpa using he
      have hix : idx? (natsD t) (p : Int) = some (.int .i64 ((t[p] : Nat) : Int)) := by simp [idx?, natsD, List.getElem?_eq_getElem hpl]
      have hpx : IntKind.i64.wrap ((p : Int) + 1) = (p : Int) + 1 := w64 (by omega) (by omega)
      have his := idxL_succ t n p
      simp only [List.getElem?_eq_getElem hpl, Option.some.injEq] at his
      have hat := Bath.at (b := b) (p := (p : Int)) (by omega)
      have hil := idxL_len t n p
      have hsb : (subB b t n (p + 1)).plates = (subB b t n p).plates ++ (if t[p] = n then [b.pl p] else []) := by
        simp only [subB, his, List.map_append]
        split <;> rfl
      have hsl := subB_len b t n p
      simp only [go_sem, hix]
      refine Br_split (fun hf => ?_) (fun hf => ?_) <;> simp only [go_sem, hf]
      · have hf' : t[p] = n := by simp only [decide_eq_true_eq] at hf; omega
        rw [if_pos hf'] at his hsb
        refine ADrw.treeG (fun k => k == 17) tt_ok (by kernel_rfl) (fun k => if k = 1 then some .L else if k = 8 ∨ k = 10 then some .W else some .S) (.ones [0, 1, 2, 3, 4, 5, 6, 7, 8, 9, 10] .done) (Nat.zero_le _) (fun _ h => nomatch h) rfl rfl (by kernel_rfl) ?_
        generalize idxL t n p = I at hil his hsl ⊢
        have hi1 : I.length + 1 ≤ 4294967296 := by omega
        simp only [go_sem, hat, Plate.d, List.length_map, hsl, hi1]
        refine ⟨p + 1, hpl, by omega, ?_⟩
        exact ForgetTo.same' (Nat.zero_le _) (by simp [EWe, Env.look, hpx]) (by simp [his, hsb, Plate.d])
      · have hf' : ¬ t[p] = n := by simp only [decide_eq_false_iff_not] at hf; omega
        rw [if_neg hf', List.append_nil] at his hsb
        refine ⟨p + 1, hpl, by omega, ?_⟩
        exact ForgetTo.same' (Nat.zero_le _) (by simp [EWe, Env.look, hpx, his]) (by simp [his, hsb])
    · have hpe : p = t.length := by simp only [decide_eq_false_iff_not] at he; omega
      subst hpe
      have hil := idxL_len t n t.length
      have hsl := subB_len b t n t.length
      have htk : ((subB b t n t.length).plates.map Plate.d).take (idxL t n t.length).length = (subB b t n t.length).plates.map Plate.d := List.take_of_length_le (by simp [hsl])
      have h37 := c37 (subB b t n t.length) (by omega)
      rw [order_sub hok ht n] at h37
      refine h37.callZ 1 rfl (by simp [frzVs, frzV, dd, Bath.d, htk, subB_len, norm, toDs, toD, V.one]; exact ⟨rfl, rfl⟩) rfl (by simp [VB, VBs, VB_lv]) ?_
      cases hwp : wellP b (maskL t n) with
      | true =>
        simp only [go_sem]
        refine ⟨n + 1, ⟨by omega, fun m hm => ?_⟩, by omega, ?_⟩
        · by_cases e : m = n
          · rw [e]; exact hwp
          · exact hall m (by omega)
        · refine ForgetTo.drop (H0 := []) (Y := [_, _]) (Nat.zero_le _) rfl trivial ?_
          simp [EWp, Env.look, pubV, hnx]
      | false =>
        have hw : wellA b t = false := by
          rw [wellA, ← Bool.not_eq_true, List.all_eq_true]
          intro h
          have := h n (List.mem_range.2 hlt)
          rw [hwp] at this
          cases this
        rw [hw]
        simp only [go_sem]
  · have hne : n = t.length := by simp only [decide_eq_false_iff_not] at hd; omega
    have hw : wellA b t = true := by
      rw [wellA, List.all_eq_true]
      exact fun m hm => hall m (by have := List.mem_range.1 hm; omega)
    rw [hw]
end Go.Aw
end

section
set_option maxRecDepth 100000
namespace Go.Aw
open Go Go.Proofs.Try

theorem maskL_none {t : List Nat} {n : Nat} (h : n ∉ t) : maskL t n = 0 := by
  refine Nat.eq_of_testBit_eq fun j => ?_
  rw [Nat.zero_testBit, ← Bool.not_eq_true, maskL_bit]
  exact fun hj => h (List.mem_of_getElem? hj)

theorem maskL_all {t : List Nat} (h : ∀ x ∈ t, x = 0) : maskL t 0 = 2 ^ t.length - 1 := by
  refine Nat.eq_of_testBit_eq fun j => ?_
  rw [Nat.testBit_two_pow_sub_one, Bool.eq_iff_iff, maskL_bit, decide_eq_true_eq]
  constructor
  · exact fun hj => (List.getElem?_eq_some_iff.1 hj).1
  · intro hj
    rw [List.getElem?_eq_getElem hj, h _ (List.getElem_mem hj)]

theorem wellA_iff (b : Bath) (t : List Nat) : wellA b t = true ↔ ∀ n, n < t.length → wellP b (maskL t n) = true := by
  simp [wellA, List.all_eq_true]

theorem ok_all {b : Bath} {t : List Nat} {m : Nat} (hx : ∀ x ∈ t, x < m) (ho : OkT b t m) : wellA b t = true := by
  rw [wellA_iff]
  intro n _
  by_cases hn : n < m
  · exact ho n hn
  · rw [maskL_none fun h => hn (hx n h)]
    rfl

theorem all_ok {b : Bath} {t : List Nat} (hx : ∀ x ∈ t, x < t.length) (h : wellA b t = true) : OkT b t (mxT t) := fun n hn => by
  rw [wellA_iff] at h
  exact h n (by have := (mxT_le t).2 hx; omega)

theorem mxT_mem (t : List Nat) : ∀ x ∈ t, x < mxT t := (mxT_le t).1 (Nat.le_refl _)

theorem fill_facts {b : Bath} (hok : b.Ok) :
    (fillFirst b = none ∧ wellP b (2 ^ b.plates.length - 1) = false ∧ ∀ o : List Nat, o.length = b.plates.length → (∀ x ∈ o, x < b.plates.length) → wellA b o = false) ∨
    ∃ p, fillFirst b = some p ∧ p.1.length = b.plates.length ∧ (∀ x ∈ p.1, x < b.plates.length) ∧ wellA b p.1 = true ∧ ((wellP b (2 ^ b.plates.length - 1) && decide ((0 : Int) < b.plates.length)) = decide ((mxT p.1 : Int) = 1)) ∧
      ∀ o : List Nat, o.length = b.plates.length → (∀ x ∈ o, x < b.plates.length) → mxT o < mxT p.1 → wellA b o = false := by
  have hone : 0 < b.plates.length → wellP b (2 ^ b.plates.length - 1) = true → OkT b (List.replicate b.plates.length 0) 1 := fun h0 hw n hn => by
    have : n = 0 := by omega
    subst this
    rw [maskL_all (fun x hx => List.eq_of_mem_replicate hx), List.length_replicate]
    exact hw
  have hrep : ∀ x ∈ List.replicate b.plates.length 0, x < 1 := fun x hx => by rw [List.eq_of_mem_replicate hx]; omega
  cases hf : fillFirst b with
  | none =>
    refine .inl ⟨rfl, ?_, fun o h1 h2 => ?_⟩
    · rcases Nat.eq_zero_or_pos b.plates.length with h0 | h0
      · exact absurd (fun n hn => by omega) (first_none hf (m := 0) (by omega) (t := []) (by simp [h0]) (by simp))
      · cases hw : wellP b (2 ^ b.plates.length - 1) with
        | false => rfl
        | true => exact absurd (hone h0 hw) (first_none hf (by omega) (by simp) hrep)
    · cases hw : wellA b o with
      | false => rfl
      | true => exact absurd (all_ok (by rw [h1]; exact h2) hw) (first_none hf ((mxT_le o).2 h2) h1 (mxT_mem o))
  | some p =>
    obtain ⟨m, m1, m2, m3, m4, m5⟩ := first_some hf
    have hmx : mxT p.1 = m := by
      have h1 := (mxT_le p.1).2 m3
      rcases Nat.lt_or_ge (mxT p.1) m with h | h
      · exact absurd (fun n hn => m4 n (by omega)) (m5 _ h p.1 m2 (mxT_mem p.1))
      · omega
    refine .inr ⟨p, rfl, m2, fun x hx => by have := m3 x hx; omega, ok_all m3 m4, ?_, fun o h1 h2 h3 => ?_⟩
    · rw [hmx, Bool.eq_iff_iff, Bool.and_eq_true, decide_eq_true_eq, decide_eq_true_eq]
      constructor
      · rintro ⟨hw, h0⟩
        have hle : ¬ 1 < m := fun h => m5 1 h _ (by simp) hrep (hone (by omega) hw)
        have hpos : 0 < p.1.length := by omega
        have := m3 _ (List.getElem_mem hpos)
        omega
      · intro h1
        have h1' : m = 1 := by omega
        have hpos : 0 < p.1.length := by
          rcases Nat.eq_zero_or_pos p.1.length with h0 | h0
          · rw [List.length_eq_zero_iff.1 h0] at hmx
            simp only [mxT, List.foldl_nil] at hmx
            omega
          · exact h0
        refine ⟨?_, by omega⟩
        have := m4 0 (by omega)
        rw [maskL_all (fun x hx => by have := m3 x hx; omega), m2] at this
        exact this
    · cases hw : wellA b o with
      | false => rfl
      | true => exact absurd (all_ok (by rw [h1]; exact h2) hw) (m5 _ (by omega) o h1 (mxT_mem o))
end Go.Aw
end

section
set_option maxRecDepth 100000
namespace Go.Aw
open Go Go.Proofs.Try

theorem mxT_take {t : List Nat} {i : Nat} (h : i < t.length) : mxT (t.take (i + 1)) = max (mxT (t.take i)) (t[i] + 1) := by
  rw [List.take_succ_eq_append_getElem h, mxT_snoc]

theorem c13_a {x : Vat} (hx : x.Ok) {tries : List B4} {t : List Nat} {e : Int} (hF : (e = 9 ∧ t = [] ∧ fillFirst x.bath = none ∧ wellP x.bath (2 ^ x.bath.plates.length - 1) = false) ∨ (e = 0 ∧ t.length = x.bath.plates.length ∧ ∃ q, fillFirst x.bath = some (t, q)))
    (hrest : AWP prog f13.ntmps 0 none (restC 5 (bodyOf f13)) [(11, .d (.int .i64 (if wellP x.bath (2 ^ x.bath.plates.length - 1) = true then 0 else 9))), (9, .d (.int .i64 e)), (8, .d (.sl (natsD t))), (5, .ptr 1 0), (1, .d (.sl (tries.map B4.d)))] [vatB x, bthB x.bath] (FnPost Tt [.tmp 4] 0 fun r H' => H' = [] ∧ r = .d (.bool true))) :
    PC prog 13 [.d x.d, .d (.sl (tries.map B4.d))] (.d (.bool true)) := by
  have hok := Vat.bathOk hx
  obtain ⟨s1, s2, s3, hb5, _⟩ := id hok
  have hO : (orderP x.bath).2 = if wellP x.bath (2 ^ x.bath.plates.length - 1) = true then 0 else 9 := by
    rw [orderP, if_pos (checkP_iff.2 hok), wellP]
    split <;> rfl
  have h37 := c37 x.bath (by omega)
  have h38 := c38 x.bath (by omega)
  rw [hO] at h37
  refine PC.of_body tt_ok (fn := f13) (c := bodyOf f13) (rs := [.tmp 4]) rfl rfl rfl rfl rfl rfl ?_
  refine AWP.stepN 5 _ _ (fun k => false) tt_ok (fun _ h => nomatch h) (Nat.zero_le _) rfl ?_ hrest
  simp only [go_sem, Vat.d]
  refine (c58 hx).call rfl rfl rfl ?_
  simp only [go_sem, Bath.d]
  refine (c60 x.bath (by omega)).call rfl rfl rfl ?_
  simp only [go_sem]
  rcases hF with ⟨rfl, rfl, hf, hw⟩ | ⟨rfl, ht, q, hf⟩
  · rw [fillingsV, if_pos (checkP_iff.2 hok), hf] at h38
    refine h38.call rfl rfl rfl ?_
    simp only [go_sem]
    refine (c60 x.bath (by omega)).call rfl rfl rfl ?_
    simp only [go_sem]
    refine h37.call rfl rfl (by simp [VB, VBs, VB_lv]) ?_
    rw [hw]
    simp only [go_sem, Bool.false_eq_true, if_false]
    exact ForgetTo.sameL (Nat.zero_le _) (by simp [EWl, Env.look, natsD]; exact rfl) (by simp [vatB, bthB])
  · rw [fillingsV, if_pos (checkP_iff.2 hok), hf] at h38
    have hnl : (natsD t).length = t.length := by simp [natsD]
    have dl : decide ((t.length : Int) = x.bath.plates.length) = true := by simp only [decide_eq_true_eq]; omega
    refine h38.call rfl rfl rfl ?_
    simp only [go_sem]
    refine (c60 x.bath (by omega)).call rfl rfl rfl ?_
    simp only [go_sem]
    refine h37.call rfl rfl (by simp [VB, VBs, VB_lv]) ?_
    cases wellP x.bath (2 ^ x.bath.plates.length - 1)
    all_goals
      simp only [go_sem, hnl, dl, Bool.false_eq_true, if_false, if_true]
      exact ForgetTo.sameL (Nat.zero_le _) (by simp [EWl, Env.look]) (by simp [vatB, bthB])

theorem c13_b {x : Vat} {b : Bath} {tries : List B4} {t : List Nat} {e wh : Int} (h4 : t.length ≤ 4) (ht : ∀ y ∈ t, y < t.length)
    (hrest : AWP prog f13.ntmps 0 none (restC 7 (bodyOf f13)) [(12, .d (.int .i64 (mxT t))), (11, .d (.int .i64 wh)), (9, .d (.int .i64 e)), (8, .d (.sl (natsD t))), (5, .ptr 1 0), (1, .d (.sl (tries.map B4.d)))] [vatB x, bthB b] (FnPost Tt [.tmp 4] 0 fun r H' => H' = [] ∧ r = .d (.bool true))) :
    AWP prog f13.ntmps 0 none (restC 5 (bodyOf f13)) [(11, .d (.int .i64 wh)), (9, .d (.int .i64 e)), (8, .d (.sl (natsD t))), (5, .ptr 1 0), (1, .d (.sl (tries.map B4.d)))] [vatB x, bthB b] (FnPost Tt [.tmp 4] 0 fun r H' => H' = [] ∧ r = .d (.bool true)) := by
  have hnl : (natsD t).length = t.length := by simp [natsD]
  refine AWP.stepN 2 _ _ (fun k => false) tt_ok (fun _ h => nomatch h) (Nat.zero_le _) rfl ?_ hrest
  simp only [go_sem]
  refine ALoop.by (S := Nat) (fun i => [(13, .d (.int .i64 i)), (12, .d (.int .i64 (mxT (t.take i)))), (11, .d (.int .i64 wh)), (9, .d (.int .i64 e)), (8, .d (.sl (natsD t))), (5, .ptr 1 0), (1, .d (.sl (tries.map B4.d)))])
    (fun _ => [vatB x, bthB b]) (fun i => t.length - i) (fun i => i ≤ t.length) 0 (Nat.zero_le _) (fun _ h => nomatch h) (Nat.zero_le _) ?_ ?_
  · exact ForgetTo.same' (Nat.zero_le _) (by simp [EWe, Env.look, mxT]) rfl
  rintro i hi hn
  refine AWP.run (fun k => false) tt_ok (fun _ h => nomatch h) (Nat.zero_le _) rfl ?_
  simp only [go_sem, hnl]
  refine Br_split (fun hd => ?_) (fun hd => ?_) <;> simp only [go_sem, hd]
  · have hlt : i < t.length := by simpa using hd
    have hix : idx? (natsD t) (i : Int) = some (.int .i64 ((t[i] : Nat) : Int)) := by simp [idx?, natsD, List.getElem?_eq_getElem hlt]
    have hti := ht _ (List.getElem_mem hlt)
    have hst := mxT_take hlt
    have hnx : IntKind.i64.wrap ((i : Int) + 1) = (i : Int) + 1 := w64 (by omega) (by omega)
    have e1 : decide (((t[i] : Nat) : Int) < 0) = false := by simp only [decide_eq_false_iff_not]; omega
    have e2 : decide ((t.length : Int) ≤ ((t[i] : Nat) : Int)) = false := by simp only [decide_eq_false_iff_not]; omega
    have hw : IntKind.i64.wrap (((t[i] : Nat) : Int) + 1) = ((t[i] : Nat) : Int) + 1 := w64 (by omega) (by omega)
    generalize mxT (t.take i) = mx at hst ⊢
    generalize t[i] = y at *
    simp only [go_sem, hix, hnl, e1, e2, hw]
    refine ⟨i + 1, hlt, by omega, ?_⟩
    refine ForgetTo.same' (Nat.zero_le _) ?_ rfl
    simp only [EWe, Env.look, hnx, hst]
    simp
    omega
  · have hie : i = t.length := by simp only [decide_eq_false_iff_not] at hd; omega
    subst hie
    exact ForgetTo.same' (Nat.zero_le _) (by simp [EWe, Env.look]) rfl
end Go.Aw
end

section
set_option maxRecDepth 100000
namespace Go.Aw
open Go Go.Proofs.Try

theorem c13_c {x : Vat} {b : Bath} {tries : List B4} {t : List Nat} {e : Int} {wh : Bool} (hok : b.Ok) (h4 : b.plates.length ≤ 4) (hv : ∀ v ∈ tries, v.Ok) (ht4 : t.length ≤ 4)
    (hF : (e = 9 ∧ wh = false) ∨ (e = 0 ∧ t.length = b.plates.length ∧ wellA b t = true ∧ (wh && decide ((0 : Int) < b.plates.length)) = decide ((mxT t : Int) = 1)))
    (hT : ∀ o : List Nat, o.length = b.plates.length → (∀ x ∈ o, x < b.plates.length) → (e ≠ 0 ∨ mxT o < mxT t) → wellA b o = false) :
    AWP prog f13.ntmps 0 none (restC 7 (bodyOf f13)) [(12, .d (.int .i64 (mxT t))), (11, .d (.int .i64 (if wh = true then 0 else 9))), (9, .d (.int .i64 e)), (8, .d (.sl (natsD t))), (5, .ptr 1 0), (1, .d (.sl (tries.map B4.d)))] [vatB x, bthB b] (FnPost Tt [.tmp 4] 0 fun r H' => H' = [] ∧ r = .d (.bool true)) := by
  obtain ⟨s1, s2, s3, hb5, _⟩ := id hok
  refine AWP.stepN 2 [(14, .fn (.func 67) [] [.ptr 1 0]), (12, .d (.int .i64 (mxT t))), (9, .d (.int .i64 e)), (5, .ptr 1 0), (1, .d (.sl (tries.map B4.d)))] [vatB x, bthB b] (fun k => k == 132) tt_ok (fun _ h => nomatch h) (Nat.zero_le _) rfl ?_ ?_
  · rcases hF with ⟨rfl, rfl⟩ | ⟨rfl, ht, hw, he⟩
    · simp only [go_sem, Bool.false_eq_true, if_false]
      exact ForgetTo.same' (Nat.zero_le _) (by simp [EWe, Env.look]) rfl
    · have h67 := c67 hok ht
      rw [hw] at h67
      simp only [go_sem]
      refine h67.callL rfl (by simp [pubVs, pubV, dz, bthB, toDs, toD]) rfl ?_
      cases wh
      · simp only [Bool.false_and] at he
        simp only [go_sem, Bool.false_eq_true, if_false, ← he]
        exact ForgetTo.same' (Nat.zero_le _) (by simp [EWe, Env.look]) rfl
      · simp only [Bool.true_and] at he
        simp only [go_sem, bthB, if_true, List.length_map, he]
        cases hm : decide ((mxT t : Int) = 1)
        all_goals
          simp only [go_sem]
          exact ForgetTo.same' (Nat.zero_le _) (by simp [EWe, Env.look]) rfl
  generalize mxT t = mx at hT ⊢
  refine AWP.runS (fun k => k == 132) tt_ok (fun _ h => nomatch h) (Nat.zero_le _) rfl ?_
  simp only [go_sem]
  refine ALoop.by (S := Nat) (fun i => [(15, .d (.int .i64 i)), (14, .fn (.func 67) [] [.ptr 1 0]), (12, .d (.int .i64 mx)), (9, .d (.int .i64 e)), (5, .ptr 1 0), (1, .d (.sl (tries.map B4.d)))])
    (fun _ => [vatB x, bthB b]) (fun i => tries.length - i) (fun i => i ≤ tries.length ∧ i ≤ 8) 0 (Nat.zero_le _) (fun _ h => nomatch h) ⟨Nat.zero_le _, by omega⟩ ?_ ?_
  · exact ForgetTo.same' (Nat.zero_le _) (by simp [EWe, Env.look]) rfl
  rintro i ⟨hi, hi8⟩ hn
  refine AWP.run (fun k => k == 132) tt_ok (fun _ h => nomatch h) (Nat.zero_le _) rfl ?_
  simp only [go_sem, bthB]
  by_cases hlt : i < tries.length ∧ i < 8
  rotate_left
  · by_cases h1 : i < tries.length
    · have d1 : decide ((i : Int) < tries.length) = true := by simpa using h1
      have d2 : decide ((i : Int) < 8) = false := by simp only [decide_eq_false_iff_not]; omega
      simp only [go_sem, d1, d2]
      refine c17.call rfl rfl rfl ?_
      simp only [go_sem]
    · have d1 : decide ((i : Int) < tries.length) = false := by simp only [decide_eq_false_iff_not]; omega
      simp only [go_sem, d1]
      refine c17.call rfl rfl rfl ?_
      simp only [go_sem]
  obtain ⟨hlt, hlt8⟩ := hlt
  have d1 : decide ((i : Int) < tries.length) = true := by simpa using hlt
  have d2 : decide ((i : Int) < 8) = true := by simp only [decide_eq_true_eq]; omega
  have hv := hv _ (List.getElem_mem hlt)
  have hiv : idx? (tries.map B4.d) (i : Int) = some (tries[i]).d := by simp [idx?, List.getElem?_eq_getElem hlt]
  have hix2 : IntKind.i64.wrap ((i : Int) + 1) = (i : Int) + 1 := w64 (by omega) (by omega)
  generalize tries[i] = v at hv hiv
  simp only [B4.d] at hiv
  simp only [go_sem, d1, d2]
  refine ALoop.by (S := List Nat) (fun o => [(18, .d (.int .i64 o.length)), (17, .d (.int .i64 (mxT o))), (16, .ref 2 o.length 0 o.length), (15, .d (.int .i64 i)), (14, .fn (.func 67) [] [.ptr 1 0]), (12, .d (.int .i64 mx)), (9, .d (.int .i64 e)), (5, .ptr 1 0), (1, .d (.sl (tries.map B4.d)))])
    (fun o => [vatB x, bthB b, .arr 1 false (natsD o)]) (fun o => b.plates.length - o.length) (fun o => o.length ≤ b.plates.length ∧ ∀ y ∈ o, y < b.plates.length) [] (Nat.zero_le _) (fun _ h => nomatch h) ⟨Nat.zero_le _, fun y hy => by cases hy⟩ ?_ ?_
  · exact ForgetTo.same' (Nat.zero_le _) (by simp [EWe, Env.look, mxT]) (by simp [bthB, natsD])
  rintro o ⟨hp, hom⟩ hn
  have hol : (natsD o).length = o.length := by simp [natsD]
  have hmx := (mxT_le o).2 hom
  refine AWP.run (fun k => k == 132) tt_ok (fun _ h => nomatch h) (Nat.zero_le _) rfl ?_
  simp only [go_sem, bthB]
  refine Br_split (fun hd => ?_) (fun hd => ?_) <;> simp only [go_sem, hd]
  · have hpl : o.length < b.plates.length := by simpa using hd
    have hbb : ∃ k, b4I v o.length = k ∧ Byte k := by
      refine ⟨_, rfl, ?_⟩
      unfold b4I
      split
      · exact hv.a
      · exact hv.b
      · exact hv.c
      · exact hv.e
    obtain ⟨k, hk, hkb⟩ := hbb
    have f1 := byte_conv hkb
    simp only [Byte] at hkb
    have zn : (b.plates.length : Int) ≠ 0 := by omega
    have n1 : k.tmod b.plates.length = k % b.plates.length := Int.tmod_eq_emod_of_nonneg hkb.1
    have e1 := Int.emod_nonneg k zn
    have e2 := Int.emod_lt_of_pos k (show (0 : Int) < b.plates.length by omega)
    have hc0 : (0 : Int) ≤ (o.length : Int) := by omega
    have hc1 : (o.length : Int) < 4 := by omega
    have hnx : IntKind.i64.wrap ((o.length : Int) + 1) = (o.length : Int) + 1 := w64 (by omega) (by omega)
    have hhv : headD (List.drop o.length [D.int .u8 v.a, .int .u8 v.b, .int .u8 v.c, .int .u8 v.e]) = some (.int .u8 k) := by
      have h4 : o.length = 0 ∨ o.length = 1 ∨ o.length = 2 ∨ o.length = 3 := by omega
      rcases h4 with h | h | h | h <;> (rw [h] at hk ⊢; simp only [b4I] at hk; simp [headD, hk])
    obtain ⟨q, hq⟩ : ∃ q : Nat, k % b.plates.length = q := ⟨(k % b.plates.length).toNat, by omega⟩
    rw [hq] at n1 e2
    have hwq : IntKind.i64.wrap ((q : Int) + 1) = (q : Int) + 1 := w64 (by omega) (by omega)
    have hp1 : o.length ≤ 4294967295 := by omega
    refine ADrw.treeG (fun k => k == 132) tt_ok (by kernel_rfl) (fun k => if k = 8 then some .L else some .S) (.ones [0, 1, 2, 3, 4, 5, 6, 7, 8, 9, 10, 11] .done) (Nat.zero_le _) (fun _ h => nomatch h) rfl rfl (by kernel_rfl) ?_
    simp only [go_sem, hiv, hc0, hc1, Int.toNat_natCast, Nat.mul_one, List.length_map, hhv, Option.map_some, f1, n1, remO_ne zn, hol, hp1, hwq]
    refine ⟨o ++ [q], ⟨by simp; omega, fun y hy => ?_⟩, by simp; omega, ?_⟩
    · rcases List.mem_append.1 hy with hy | hy
      · exact hom y hy
      · rw [List.mem_singleton] at hy; omega
    · refine ForgetTo.same' (Nat.zero_le _) ?_ (by simp [bthB, natsD])
      simp only [EWe, Env.look, hnx, mxT_snoc]
      simp
      omega
  have hpe : o.length = b.plates.length := by simp only [decide_eq_false_iff_not] at hd; omega
  have htk : (natsD o).take o.length = natsD o := List.take_of_length_le (by simp [natsD])
  have h67 := c67 hok hpe
  have hTo := hT o hpe hom
  by_cases he : e = 0
  · have de : decide (e = 0) = true := by simpa using he
    by_cases hm : mxT o < mx
    · have dm : decide ((mxT o : Int) < mx) = true := by simp only [decide_eq_true_eq]; omega
      rw [hTo (.inr hm)] at h67
      simp only [go_sem, de, dm]
      refine h67.callL rfl (by simp [pubVs, pubV, dz, toDs, toD, hol, htk]) rfl ?_
      simp only [go_sem]
      refine ⟨i + 1, ⟨by omega, by omega⟩, by omega, ?_⟩
      refine ForgetTo.drop (H0 := [_, _]) (Y := [_]) (Nat.zero_le _) rfl (by simp [BBs, BB, VBs, VB, vatB, bthB]) ?_
      simp [EWp, Env.look, pubV, pubVs, hix2]
    · have dm : decide ((mxT o : Int) < mx) = false := by simp only [decide_eq_false_iff_not]; omega
      simp only [go_sem, de, dm]
      refine ⟨i + 1, ⟨by omega, by omega⟩, by omega, ?_⟩
      refine ForgetTo.drop (H0 := [_, _]) (Y := [_]) (Nat.zero_le _) rfl (by simp [BBs, BB, VBs, VB, vatB, bthB]) ?_
      simp [EWp, Env.look, pubV, pubVs, hix2]
  · have de : decide (e = 0) = false := by simpa using he
    rw [hTo (.inl he)] at h67
    simp only [go_sem, de]
    refine h67.callL rfl (by simp [pubVs, pubV, dz, toDs, toD, hol, htk]) rfl ?_
    simp only [go_sem]
    refine ⟨i + 1, ⟨by omega, by omega⟩, by omega, ?_⟩
    refine ForgetTo.drop (H0 := [_, _]) (Y := [_]) (Nat.zero_le _) rfl (by simp [BBs, BB, VBs, VB, vatB, bthB]) ?_
    simp [EWp, Env.look, pubV, pubVs, hix2]

theorem c13 {x : Vat} (hx : x.Ok) (tries : List B4) (hv : ∀ v ∈ tries, v.Ok) : PC prog 13 [.d x.d, .d (.sl (tries.map B4.d))] (.d (.bool true)) := by
  have hok := Vat.bathOk hx
  have h4 : x.bath.plates.length ≤ 4 := by simp [Vat.bath]; omega
  rcases fill_facts hok with ⟨f1, f2, f3⟩ | ⟨⟨t, q⟩, f1, f2, f3, f4, f5, f6⟩
  · refine c13_a hx (.inl ⟨rfl, rfl, f1, f2⟩) (c13_b (by simp) (by simp) ?_)
    exact c13_c hok h4 hv (by simp) (.inl ⟨rfl, f2⟩) fun o h1 h2 _ => f3 o h1 h2
  · refine c13_a hx (.inr ⟨rfl, f2, q, f1⟩) (c13_b (by omega) (by rw [f2]; exact f3) ?_)
    exact c13_c hok h4 hv (by omega) (.inr ⟨rfl, f2, f4, f5⟩) fun o h1 h2 h3 => f6 o h1 h2 (h3.resolve_left (by simp))
end Go.Aw
end
