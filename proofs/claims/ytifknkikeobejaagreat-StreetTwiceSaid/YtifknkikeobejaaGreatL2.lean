/- History. Strings compared: the shelf's contract. The keys of a map, in any order, gathered. Strings sorted; the keys of a map, sorted. The keys of a map, gathered and sorted. Again. Must. Changed. Changed: the whole. Faults of a word. Nearest; numbers of what is so. Meant: its first stages. Meant: the whole. Lists of names: openList, wrong. Hours of a list; the fewest wrong lines. Wrong. The reference: lists compared; small functions; the document's town. What the document's examples say is so. -/
import Derived.Test.YtifknkikeobejaaGreatL1
import Derived.Shelf.Small.Strs
set_option linter.unusedSimpArgs false
set_option linter.unusedVariables false

section
set_option maxRecDepth 100000
namespace Go.Aw
open Go Go.Proofs.Tryz

structure Tm where
  name : ByteArray
  lo : Int
  hi : Int
deriving Inhabited, DecidableEq

def Tm.d (x : Tm) : D := .agg [.str x.name, .int .i64 x.lo, .int .i64 x.hi]

/-- A name more. -/
def histS (acc : List Tm) (name : ByteArray) (lo hi : Int) : List Tm :=
  match acc.getLast? with
  | some y => if y.name = name then acc.dropLast ++ [⟨y.name, y.lo, hi⟩] else acc ++ [⟨name, lo, hi⟩]
  | none => acc ++ [⟨name, lo, hi⟩]

def histP (s : Nat) (L : List (Int × Int × List ByteArray)) : List Tm := L.foldl (fun acc x => histS acc (x.2.2.getD s default) x.1 x.2.1) []

theorem histP_snoc (s : Nat) (L : List (Int × Int × List ByteArray)) (x : Int × Int × List ByteArray) : histP s (L ++ [x]) = histS (histP s L) (x.2.2.getD s default) x.1 x.2.1 := by rw [histP, List.foldl_append]; rfl

theorem histS_len (acc : List Tm) (name : ByteArray) (lo hi : Int) : (histS acc name lo hi).length ≤ acc.length + 1 := by
  rw [histS]
  split
  · split
    · simp
    · simp
  · simp

def historyP (t : Town) (s : Int) : List Tm × Int :=
  if openE t ≠ 0 then ([], openE t) else if ¬(0 ≤ s ∧ s < t.first.length) then ([], 7) else (histP s.toNat (timesL (nbT t).1), 0)

def histV (p : List Tm × Int) : V := if p.2 ≠ 0 then .slx (some true) [] else .d (.sl (p.1.map Tm.d))

theorem timesL_len : ∀ P : List Page, (timesL P).length = P.length
  | [] => rfl
  | p :: r => by rw [timesL, List.length_cons, List.length_cons, timesL_len r]

theorem timesL_names : ∀ {P : List Page} {x : Int × Int × List ByteArray}, x ∈ timesL P → ∃ p ∈ P, x.2.2 = p.names
  | [], _, h => by simp [timesL] at h
  | p :: r, x, h => by
    rw [timesL] at h
    rcases List.mem_cons.1 h with rfl | h
    · exact ⟨p, List.mem_cons_self, rfl⟩
    · obtain ⟨q, hq, e⟩ := timesL_names h
      exact ⟨q, List.mem_cons_of_mem _ hq, e⟩

theorem c29 (t : Town) (hs : t.Small) (s : Int) : PC prog 29 [.d t.d, .d (.int .i64 s)] (.tup [histV (historyP t s), .d (.int .i64 (historyP t s).2)]) := by
  refine PC.run (fun _ => false) tt_ok (fn := f29) (rs := [.cell 4 48, .tmp 5]) rfl rfl rfl rfl rfl rfl rfl ?_
  simp only [go_sem, Town.d]
  refine (c76 t hs).call rfl rfl rfl ?_
  have hsf := hs.f
  have hwi := within_st (show t.first.length ≤ 1000000 by omega) s
  rw [historyP]
  by_cases ho : openE t = 0
  · obtain ⟨hok, hb, hpg⟩ := open_pg ho
    have hbk : bookD t (nbT t).1 = .agg [.sl (t.first.map .str), .sl (t.ch.map Chg.d), .sl ((nbT t).1.map Page.d)] := rfl
    rw [if_neg (by rw [ho]; simp), ho, hb, hbk]
    simp only [go_sem, List.length_map]
    refine (c70 0 (IntKind.i64.wrap ((t.first.length : Int) - 1)) [s] (by simp)).call rfl rfl rfl ?_
    rw [hwi]
    by_cases h1 : 0 ≤ s ∧ s < t.first.length
    · rw [if_neg (by simpa using h1), decide_eq_true h1]
      obtain ⟨k, rfl⟩ : ∃ k : Nat, s = k := ⟨s.toNat, by omega⟩
      have hk : k < t.first.length := by omega
      simp only [go_sem]
      change AWP _ _ _ _ _ _ _ _
      refine AWP.nilrow 2 0 3 rfl rfl (Nat.zero_le _) ?_
      have hit := c80 t (nbT t).1 (by have := hpg.len; omega) hpg.hrs
      rw [bkV, hbk] at hit
      have hnm : ∀ x ∈ timesL (nbT t).1, k < x.2.2.length := fun x hx => by
        obtain ⟨p, hp, e⟩ := timesL_names hx
        rw [e, hpg.nms p hp, namesT_len]; exact hk
      have hll := timesL_len (nbT t).1
      have hl9 := hpg.len
      have hlen : ∀ Lp : List (Int × Int × List ByteArray), (histP k Lp).length ≤ Lp.length := fun Lp => by
        induction Lp using snoc_ind with
        | h0 => exact Nat.le_refl _
        | h1 l x ih => rw [histP_snoc, List.length_append, List.length_singleton]; have := histS_len (histP k l) (x.2.2.getD k default) x.1 x.2.1; omega
      generalize (nbT t).1 = P at *
      refine ARng.iter (items := (timesL P).map tmV) (J := fun rest Hc => ∃ Lp Lr, Lp ++ Lr = timesL P ∧ rest = Lr.map tmV ∧ Hc = [.cells [.d (.sl (t.first.map .str)), .d (.sl (t.ch.map Chg.d))], .cells [.d (.int .i64 k)], .cells [.ref 4 (histP k Lp).length 0 (histP k Lp).length], .cells [.d (.sl (t.first.map .str)), .d (.sl (t.ch.map Chg.d)), .d (.sl (P.map Page.d))], .arr 3 (decide ((histP k Lp).length = 0)) ((histP k Lp).map Tm.d)])
        (Nat.zero_le _) (fun _ h => nomatch h) rfl hit rfl rfl ?_ ?_ ?_ ?_ ?_
      · rintro rest Hc ⟨Lp, Lr, _, _, rfl⟩
        simp [BBs, BB, VBs, VB]
      · exact ⟨[], timesL P, rfl, rfl, rfl⟩
      · rintro Hc ⟨Lp, Lr, hL, hr, rfl⟩
        have hLr : Lr = [] := List.map_eq_nil_iff.1 hr.symm
        subst hLr
        rw [List.append_nil] at hL
        subst hL
        have htk : ((histP k (timesL P)).map Tm.d).take (histP k (timesL P)).length = (histP k (timesL P)).map Tm.d := List.take_of_length_le (by simp)
        simp only [go_sem, List.length_map, htk, histV, Int.toNat_natCast, ne_eq, not_true_eq_false]
      · intro xs hxs
        obtain ⟨c, _, rfl⟩ := List.mem_map.1 hxs
        rfl
      · rintro L L' xs rest Hc hxs ⟨Lp, Lr, hL, hr, rfl⟩
        obtain ⟨x, Lr', rfl⟩ : ∃ x Lr', Lr = x :: Lr' := by
          cases Lr with
          | nil => cases hr
          | cons x r => exact ⟨x, r, rfl⟩
        rw [List.map_cons] at hr
        obtain ⟨rfl, rfl⟩ := List.cons.inj hr
        have hx := hnm x (by rw [← hL]; simp)
        have hle := hlen Lp
        have hLl := congrArg List.length hL
        rw [List.length_append, hll] at hLl
        have hsn := histP_snoc k Lp x
        have fin : ∀ acc, acc = histP k (Lp ++ [x]) → ∃ Lp2 Lr2, Lp2 ++ Lr2 = timesL P ∧ Lr'.map tmV = Lr2.map tmV ∧ [Blk.cells [.d (.sl (t.first.map .str)), .d (.sl (t.ch.map Chg.d))], .cells [.d (.int .i64 k)], .cells [.ref 4 acc.length 0 acc.length], .cells [.d (.sl (t.first.map .str)), .d (.sl (t.ch.map Chg.d)), .d (.sl (P.map Page.d))], .arr 3 (decide (acc.length = 0)) (acc.map Tm.d)] =
            [.cells [.d (.sl (t.first.map .str)), .d (.sl (t.ch.map Chg.d))], .cells [.d (.int .i64 k)], .cells [.ref 4 (histP k Lp2).length 0 (histP k Lp2).length], .cells [.d (.sl (t.first.map .str)), .d (.sl (t.ch.map Chg.d)), .d (.sl (P.map Page.d))], .arr 3 (decide ((histP k Lp2).length = 0)) ((histP k Lp2).map Tm.d)] := fun acc h => by
          subst h
          exact ⟨Lp ++ [x], Lr', by rw [List.append_assoc]; exact hL, rfl, rfl⟩
        rw [hsn] at fin
        have hix : idx? (x.2.2.map D.str) (k : Int) = some (.str (x.2.2.getD k default)) := by rw [getDG hx]; simp [idx?, List.getElem?_eq_getElem hx]
        generalize histP k Lp = acc at *
        obtain ⟨lo, hi, nms⟩ := x
        dsimp only at fin hix hx
        generalize nms.getD k default = name at *
        refine AWP.run (fun _ => false) tt_ok (fun _ h => by cases h; exact Nat.lt_succ_self _) (by simp) rfl ?_
        simp only [go_sem, tmV]
        refine AWP.run (fun _ => false) tt_ok (fun _ h => by cases h; exact Nat.lt_succ_self _) (by simp) rfl ?_
        have hal : (acc.map Tm.d).length = acc.length := by simp
        rcases List.eq_nil_or_concat acc with rfl | ⟨ac, y, rfl⟩
        · have fin := fin _ rfl
          rw [histS] at fin
          have w1 : IntKind.i64.wrap ((0 : Int) - 1) = -1 := rfl
          simp only [go_sem, w1]
          refine ADrw.treeG (fun _ => false) tt_ok (by kernel_rfl) (fun k => if k = 3 ∨ k = 5 ∨ k = 7 ∨ k = 9 then some .L else some .S) (.ones [0, 1, 2, 3, 4, 5, 6, 7, 8, 9, 10, 11, 12, 13] .done) (by simp) (fun _ h => by cases h; exact Nat.lt_succ_self _) rfl rfl (by kernel_rfl) ?_
          simp only [go_sem, w1, show decide ((0 : Int) ≤ -1) = false from rfl]
          refine ADrw.treeG (fun _ => false) tt_ok (by kernel_rfl) (fun k => if k = 0 ∨ k = 2 ∨ k = 5 then some .L else if k = 8 ∨ k = 9 then some .W else some .S) (.ones [0, 1, 2, 3, 4, 5, 6, 7, 8, 9] .done) (by simp) (fun _ h => by cases h; exact Nat.lt_succ_self _) rfl rfl (by kernel_rfl) ?_
          simp only [go_sem, hix]
          exact fin
        · rw [List.concat_eq_append] at *
          have hl1 : (ac ++ [y]).length = ac.length + 1 := by simp
          have w1 : IntKind.i64.wrap (((ac ++ [y]).length : Int) - 1) = (ac.length : Int) := by rw [hl1, w64 (by omega) (by omega)]; omega
          have d0 : decide ((0 : Int) ≤ (ac.length : Int)) = true := decide_eq_true (by omega)
          have hg : ((ac ++ [y]).map Tm.d)[ac.length]? = some (.agg [.str y.name, .int .i64 y.lo, .int .i64 y.hi]) := by simp [Tm.d]
          have hset : ((ac ++ [y]).map Tm.d).set ac.length (.agg [.str y.name, .int .i64 y.lo, .int .i64 hi]) = (ac ++ [(⟨y.name, y.lo, hi⟩ : Tm)]).map Tm.d := by simp [Tm.d]
          have c1 : (0 : Int) ≤ (ac.length : Int) := by omega
          have c2 : (ac.length : Int) < ((ac.length + 1 : Nat) : Int) := by omega
          have c3 : ac.length + 1 ≤ 4294967295 := by omega
          rw [hl1] at hal w1
          have hh : histS (ac ++ [y]) name lo hi = if y.name = name then ac ++ [⟨y.name, y.lo, hi⟩] else ac ++ [y] ++ [⟨name, lo, hi⟩] := by simp [histS]
          rw [hh] at fin
          simp only [go_sem, hl1, w1, hal]
          refine ADrw.treeG (fun _ => false) tt_ok (by kernel_rfl) (fun k => if k = 3 ∨ k = 5 ∨ k = 7 ∨ k = 9 then some .L else some .S) (.ones [0, 1, 2, 3, 4, 5, 6, 7, 8, 9, 10, 11, 12, 13] .done) (by simp) (fun _ h => by cases h; exact Nat.lt_succ_self _) rfl rfl (by kernel_rfl) ?_
          simp only [go_sem, d0, hal, c1, c2, hix, Int.toNat_natCast, hg]
          by_cases hn : y.name = name
          · rw [if_pos hn] at fin
            have fin := fin _ rfl
            have hll2 : (ac ++ [(⟨y.name, y.lo, hi⟩ : Tm)]).length = ac.length + 1 := by simp
            rw [hll2, ← hset] at fin
            have hb1 : (y.name == name) = true := by rw [beq_str, decide_eq_true hn]
            simp only [go_sem, hb1, hal, c1, c2, Int.toNat_natCast, hg]
            exact fin
          · rw [if_neg hn] at fin
            have fin := fin _ rfl
            have hll2 : (ac ++ [y] ++ [(⟨name, lo, hi⟩ : Tm)]).length = ac.length + 1 + 1 := by simp
            rw [hll2, List.map_append] at fin
            have hb1 : (y.name == name) = false := by rw [beq_str, decide_eq_false hn]
            generalize (ac ++ [y]).map Tm.d = M at *
            simp only [go_sem, hb1]
            refine ADrw.treeG (fun _ => false) tt_ok (by kernel_rfl) (fun k => if k = 0 ∨ k = 2 ∨ k = 5 then some .L else if k = 8 ∨ k = 9 then some .W else some .S) (.ones [0, 1, 2, 3, 4, 5, 6, 7, 8, 9] .done) (by simp) (fun _ h => by cases h; exact Nat.lt_succ_self _) rfl rfl (by kernel_rfl) ?_
            have d5 : decide (ac.length ≤ 4294967294) = true := decide_eq_true (by omega)
            simp only [go_sem, hix, hal, d5]
            exact fin
    · rw [if_pos h1, decide_eq_false h1]
      simp only [go_sem, histV]
  · have d1 : decide (openE t = 0) = false := decide_eq_false ho
    obtain ⟨x, y, z, hb⟩ := openB_is t
    rw [if_pos ho, hb]
    simp only [go_sem, d1, histV, if_pos ho]
end Go.Aw
end

section
set_option maxRecDepth 100000
namespace Go.Proofs
open Go.Shelf

/-- The numbers of strings.Compare. -/
def cmpS_ren : Go.Shelf.Ren := ⟨fun | 213 => 117 | 265 => 132 | n => n, fun n => n, fun n => n⟩

theorem cmpS : Lays.n213 Tryz.prog cmpS_ren where
  mixed := by kernel_rfl
  f213 := Tryz.func117.trans (congrArg some (by kernel_rfl))
  f265 := Tryz.func132.trans (congrArg some (by kernel_rfl))
  t3 := Tryz.underlying3
  a3 := Tryz.isAgg3
  z3 := Tryz.sizeOf3
  v3 := Tryz.zeroValue3
  t9 := Tryz.underlying9
  a9 := Tryz.isAgg9
  z9 := Tryz.sizeOf9
  v9 := Tryz.zeroValue9
end Go.Proofs
namespace Go.Aw
open Go Go.Proofs.Tryz

/-- A contract of the shelf on scalars: nothing is changed. -/
theorem PC.of_calls {P : Program} {f : FuncId} {vs : List V} {x : D} {cvs : List Value} {v : Value} (hb : HasBody P f) (h1 : ∀ g H w c, VRs g H w vs c → c = cvs) (h2 : ∀ g H w, VR g H w (.d x) v)
    (h : ∀ w, Calls P f cvs.toArray w fun e w' => e = .returned v ∧ w' = w) : PC P f vs (.d x) := by
  refine ⟨hb, fun g w c hr hv => ?_⟩
  rw [h1 _ _ _ _ hv]
  refine CallsIn.mono (callsIn_wide.2 (h w)) ?_
  rintro e w' ⟨rfl, rfl⟩
  exact ⟨v, g, .d x, [], rfl, ⟨rfl, rfl⟩, h2 _ _ _, hr, Kp.refl _ _, Ag.refl _ _ _⟩

def cmpB (a b : ByteArray) : Int := Lib.compareBytes a.data.toList b.data.toList

theorem c117 (a b : ByteArray) : PC prog 117 [.d (.str a), .d (.str b)] (.d (.int .i64 (cmpB a b))) := by
  refine PC.of_calls (cvs := [.string a, .string b]) (v := .int .i64 (cmpB a b)) ⟨f117, rfl, rfl, rfl⟩ ?_ ?_ fun w => Go.Proofs.Any.bytealg_CompareString Go.Proofs.cmpS a b w
  · intro g H w c hv
    simp only [VRs, VR, DR, DC] at hv
    obtain ⟨c, r, rfl, h1, c2, r2, rfl, h2, rfl⟩ := hv
    simp at h1 h2
    simp [h1, h2]
  · intro g H w
    simp [VR, DR, DC]

theorem c83 (a b : ByteArray) : PC prog 83 [.d (.str a), .d (.str b)] (.d (.int .i64 (cmpB a b))) := by
  refine PC.run (fun _ => false) tt_ok (fn := f83) (rs := [.tmp 4]) rfl rfl rfl rfl rfl rfl rfl ?_
  simp only [go_sem]
  refine (c117 a b).call rfl rfl rfl ?_
  simp only [go_sem]
end Go.Aw
end

section
set_option maxRecDepth 100000
namespace Go.Aw
open Go Go.Proofs.Tryz

/-- A set of names. -/
def keyM (L : List ByteArray) : List (D × D) := L.map fun n => (.str n, .bool true)
def hasS (n : ByteArray) (L : List ByteArray) : Bool := L.any fun x => decide (n = x)
theorem hasS_iff {n : ByteArray} {L : List ByteArray} : hasS n L = true ↔ n ∈ L := by simp [hasS]
theorem hasS_cons (n a : ByteArray) (L : List ByteArray) : hasS n (a :: L) = (decide (n = a) || hasS n L) := by simp [hasS]
def insS (L : List ByteArray) (n : ByteArray) : List ByteArray := if hasS n L = true then L else L ++ [n]

theorem insS_mem (L : List ByteArray) (n m : ByteArray) : m ∈ insS L n ↔ m ∈ L ∨ m = n := by
  unfold insS
  split
  · rename_i h
    rw [hasS_iff] at h
    constructor
    · exact .inl
    · rintro (h | rfl) <;> assumption
  · simp

theorem insS_nodup {L : List ByteArray} (h : L.Nodup) (n : ByteArray) : (insS L n).Nodup := by
  unfold insS
  split
  · exact h
  · rename_i hn
    rw [hasS_iff] at hn
    rw [List.nodup_append]
    exact ⟨h, by simp, fun a ha b hb => by
      simp only [List.mem_singleton] at hb
      subst hb
      rintro rfl
      exact hn ha⟩

theorem key_put (n : ByteArray) : ∀ L : List ByteArray, mput (.str n) (.bool true) (keyM L) = some (keyM (insS L n))
  | [] => rfl
  | a :: L => by
    simp only [keyM, List.map_cons, mput, keq, beq_str, insS, hasS_cons]
    by_cases h : n = a
    · subst h; simp
    · have ih := key_put n L
      simp only [keyM] at ih
      rw [decide_eq_false h, ih, insS]
      by_cases hm : hasS n L = true
      · rw [if_pos hm]; simp [hm]
      · rw [if_neg hm]; simp [hm]

theorem key_look (n : ByteArray) : ∀ L : List ByteArray, lookF (mfind (.str n) (keyM L)) false (.bool false) = some (.d (.bool (hasS n L)))
  | [] => rfl
  | a :: L => by
    simp only [keyM, List.map_cons, mfind, keq, beq_str, hasS_cons]
    by_cases h : n = a
    · subst h; simp [lookF]
    · have ih := key_look n L
      simp only [keyM] at ih
      rw [decide_eq_false h]
      simp only
      rw [ih]
      simp

def keysV (k : Nat) : V := .fn (.func 116) [] [.ptr k 0]

def keyHC (k m : Nat) (L : List ByteArray) (H : Heap) : Prop := H[k]? = some (.cells [.obj m]) ∧ H[m]? = some (.obj (.map (keyM L)))
def keyNx (L : List ByteArray) (s : List Nat) (a : List V) (s' : List Nat) : Prop := ∃ i n, L[i]? = some n ∧ i ∉ s ∧ a = [.d (.str n)] ∧ s' = s ++ [i]
def keyFin (L : List ByteArray) (s : List Nat) : Prop := ∀ i, i < L.length → i ∈ s

theorem nodup_lt : ∀ (l : List Nat) (n : Nat), l.Nodup → (∀ x ∈ l, x < n) → l.length ≤ n
  | [], n, _, _ => Nat.zero_le _
  | x :: r, 0, _, h => by have := h x List.mem_cons_self; omega
  | x :: r, n + 1, hd, h => by
    have h1 : ((x :: r).erase n).length ≤ n := nodup_lt _ n (hd.erase _) fun y hy => by
      have hm := (hd.mem_erase_iff).1 hy
      have := h y hm.2
      have := hm.1
      omega
    have := List.length_erase (a := n) (l := x :: r)
    split at this <;> omega

theorem nodup_snoc {l : List Nat} {i : Nat} (h : l.Nodup) (hi : i ∉ l) : (l ++ [i]).Nodup := by
  rw [List.nodup_append]
  exact ⟨h, by simp, fun a ha b hb => by
    simp only [List.mem_singleton] at hb
    subst hb
    rintro rfl
    exact hi ha⟩

theorem c116 (k m : Nat) (L : List ByteArray) : IterG prog (keyHC k m L) (keyNx L) (keyFin L) [] (keysV k) := by
  intro yv n I Q hf hyv hI hy hend' H hH
  obtain ⟨hHl, hHb, hH1, hH2⟩ := hI _ _ hH
  obtain ⟨f, x, y, rfl⟩ := hf
  refine ACallV.of rfl ?_
  refine ACalls.run (fun _ => false) tt_ok (fn := f116) (rs := []) rfl rfl rfl rfl rfl rfl rfl ?_
  simp only [go_sem, hHl, hH1, hH2]
  have hkl : (keyM L).length = L.length := by simp [keyM]
  refine ALoop.by (S := List Nat × Heap) (fun s => [(5, .obj n), (0, .fn f x y)]) (fun s => s.2 ++ [.obj (.iter m L.length s.1)]) (fun s => L.length - s.1.length) (fun s => I s.1 s.2 ∧ s.1.Nodup ∧ ∀ j ∈ s.1, j < L.length) ([], H) (by simp [hHl]) (fun _ h => nomatch h) ⟨hH, List.nodup_nil, fun _ h => by simp at h⟩ ?_ ?_
  · exact ForgetTo.same' (by simp [hHl]) (by simp [EWe, Env.look]) (by simp [hkl])
  rintro ⟨seen, Hc⟩ ⟨hI0, hsn, hsl⟩ hn'
  dsimp only at hI0 hsn hsl hn' ⊢
  obtain ⟨hcl, hcb, hc1, hc2⟩ := hI _ _ hI0
  have hmn : m < Hc.length := lt_of_getElem? hc2
  have gm : ∀ Y : Heap, (Hc ++ Y)[m]? = some (.obj (.map (keyM L))) := fun Y => by rw [List.getElem?_append_left hmn]; exact hc2
  refine AWP.run (fun _ => false) tt_ok (fun _ h => nomatch h) (by simp [hcl]; omega) rfl ?_
  simp only [go_sem]
  refine anext_of (mid := m) (n := L.length) (seen := seen) (es := keyM L) (by rw [← hcl]; simp) (gm _) (by simp [keyM]) (fun hend => ?_) (fun j p hj hjs => ?_)
  · simp only [go_sem]
    rw [hHl, ← hcl, List.take_left]
    exact ⟨.inr (by rw [hcl]; exact hcb), hend' seen Hc (fun i hi => hend i hi) hI0⟩
  · obtain ⟨nm0, hn1, rfl⟩ : ∃ n, L[j]? = some n ∧ p = (D.str n, D.bool true) := by
      rw [keyM, List.getElem?_map] at hj
      obtain ⟨n, h1, h2⟩ := Option.map_eq_some_iff.1 hj
      exact ⟨n, h1, h2.symm⟩
    have hjl := (List.getElem?_eq_some_iff.1 hn1).1
    have hen := aentry_of (H := Hc ++ [.obj (.iter m L.length (seen ++ [j]))]) (id := n) (mid := m) (n := L.length) (i := j) (seen := seen ++ [j]) (es := keyM L) (by rw [← hcl]; simp) (gm _) (by simp [keyM]) (by simp) hj
    have hset : (Hc ++ [Blk.obj (.iter m L.length seen)]).set n (.obj (.iter m L.length (seen ++ [j]))) = Hc ++ [.obj (.iter m L.length (seen ++ [j]))] := by rw [hs0 hcl]; rfl
    have hnx : keyNx L seen [.d (.str nm0)] (seen ++ [j]) := ⟨j, nm0, hn1, hjs, rfl, rfl⟩
    have hsl2 := nodup_lt (seen ++ [j]) L.length (nodup_snoc hsn hjs) fun z hz => by
      rcases List.mem_append.1 hz with hz | hz
      · exact hsl z hz
      · rw [List.mem_singleton.1 hz]; exact hjl
    simp only [go_sem, hset, hen]
    refine (ACallV.frame (fun id z hz => BB_le (by omega) (BBs_get hcb id z hz)) (by rw [hcl]; exact hyv) (by simp [VBs, VB]) (fun v H' hv => ?_) (hy _ _ _ _ hnx hI0)).mono ?_
    · rcases hv with ⟨_, k⟩ | ⟨_, k, _⟩
      · rw [(hI _ _ k).1, hcl]
      · rw [k, hcl]
    · rintro v H' ⟨H1, rfl, ⟨rfl, k2⟩ | ⟨rfl, k2, k3, k4⟩⟩
      · simp only [go_sem]
        refine ⟨(seen ++ [j], H1), ⟨k2, nodup_snoc hsn hjs, fun z hz => ?_⟩, by simp only [List.length_append, List.length_singleton] at hsl2 ⊢; omega, ?_⟩
        · rcases List.mem_append.1 hz with hz | hz
          · exact hsl z hz
          · rw [List.mem_singleton.1 hz]; exact hjl
        · exact ForgetTo.same' (by simp [(hI _ _ k2).1]; omega) (by simp [EWe, Env.look]) rfl
      · simp only [go_sem]
        rw [hHl, ← k2, List.take_left]
        exact ⟨.inr (by rw [k2]; exact k3), k4⟩
end Go.Aw
end

section
set_option maxRecDepth 100000
namespace Go.Aw
open Go Go.Proofs.Tryz

/-! ### The order of strings -/

theorem cmpL_swap : ∀ a b : List UInt8, Lib.compareBytes a b = - Lib.compareBytes b a
  | [], [] => rfl
  | [], _ :: _ => rfl
  | _ :: _, [] => rfl
  | a :: ar, b :: bs => by
    have ih := cmpL_swap ar bs
    simp only [Lib.compareBytes]
    by_cases h1 : a < b
    · have h2 : ¬ b < a := fun h => by rw [UInt8.lt_iff_toNat_lt] at *; omega
      rw [if_pos h1, if_neg h2, if_pos h1]
    · by_cases h2 : b < a
      · rw [if_neg h1, if_pos h2, if_pos h2]; rfl
      · rw [if_neg h1, if_neg h2, if_neg h2, if_neg h1, ih]

theorem cmpL_trans : ∀ a b c : List UInt8, Lib.compareBytes a b ≤ 0 → Lib.compareBytes b c ≤ 0 → Lib.compareBytes a c ≤ 0
  | [], _, [], _, _ => by simp [Lib.compareBytes]
  | [], _, _ :: _, _, _ => by simp [Lib.compareBytes]
  | _ :: _, [], _, h, _ => by simp [Lib.compareBytes] at h
  | _ :: _, _ :: _, [], _, h => by simp [Lib.compareBytes] at h
  | a :: ar, b :: bs, c :: cs, h1, h2 => by
    have ih := cmpL_trans ar bs cs
    simp only [Lib.compareBytes] at h1 h2 ⊢
    simp only [UInt8.lt_iff_toNat_lt] at h1 h2 ⊢
    split at h1
    · split at h2
      · rw [if_pos (by omega)]; omega
      · split at h2
        · omega
        · rw [if_pos (by omega)]; omega
    · split at h1
      · omega
      · split at h2
        · rw [if_pos (by omega)]; omega
        · split at h2
          · omega
          · rw [if_neg (by omega), if_neg (by omega)]; exact ih h1 h2

theorem cmpL_eq : ∀ a b : List UInt8, Lib.compareBytes a b = 0 → a = b
  | [], [], _ => rfl
  | [], _ :: _, h => by simp [Lib.compareBytes] at h
  | _ :: _, [], h => by simp [Lib.compareBytes] at h
  | a :: ar, b :: bs, h => by
    simp only [Lib.compareBytes] at h
    split at h
    · omega
    · split at h
      · omega
      · rename_i h1 h2
        rw [UInt8.lt_iff_toNat_lt] at h1 h2
        rw [cmpL_eq ar bs h, show a = b from UInt8.toNat_inj.1 (by omega)]

theorem cmpB_eq {a b : ByteArray} (h : cmpB a b = 0) : a = b := by
  cases a with | mk x => cases b with | mk y =>
  have := cmpL_eq _ _ h
  congr 1
  simpa using this

def ltS (a b : ByteArray) : Bool := decide (cmpB a b < 0)
theorem ltS_ok : LtOk ltS := ⟨fun a b h => by
    have := cmpL_swap a.data.toList b.data.toList
    simp only [ltS, decide_eq_true_eq, decide_eq_false_iff_not] at h ⊢; simp only [cmpB] at h ⊢; omega, fun a b c h1 h2 => by
    have e1 := cmpL_swap a.data.toList b.data.toList
    have e2 := cmpL_swap b.data.toList c.data.toList
    have e3 := cmpL_swap a.data.toList c.data.toList
    have := cmpL_trans a.data.toList b.data.toList c.data.toList
    simp only [ltS, decide_eq_false_iff_not] at h1 h2 ⊢; simp only [cmpB] at h1 h2 ⊢; omega⟩

theorem ltS_tot {a b : ByteArray} (h1 : ltS a b = false) (h2 : ltS b a = false) : a = b := by
  have := cmpL_swap a.data.toList b.data.toList
  simp only [ltS, decide_eq_false_iff_not] at h1 h2
  simp only [cmpB] at h1 h2
  exact cmpB_eq (by simp only [cmpB]; omega)

theorem sortS_ext : ∀ {l m : List ByteArray}, SortedG ltS l → SortedG ltS m → l.Nodup → m.Nodup → (∀ x, x ∈ l ↔ x ∈ m) → l = m
  | [], [], _, _, _, _, _ => rfl
  | [], y :: m, _, _, _, _, h => by have := (h y).2 List.mem_cons_self; simp at this
  | x :: l, [], _, _, _, _, h => by have := (h x).1 List.mem_cons_self; simp at this
  | x :: l, y :: m, h1, h2, n1, n2, h => by
    have hx := (h x).1 List.mem_cons_self
    have hy := (h y).2 List.mem_cons_self
    obtain ⟨a1, a2⟩ := List.pairwise_cons.1 h1
    obtain ⟨b1, b2⟩ := List.pairwise_cons.1 h2
    obtain ⟨c1, c2⟩ := List.nodup_cons.1 n1
    obtain ⟨d1, d2⟩ := List.nodup_cons.1 n2
    have hxy : x = y := by
      rcases List.mem_cons.1 hx with e | e
      · exact e
      · rcases List.mem_cons.1 hy with e' | e'
        · exact e'.symm
        · exact ltS_tot (a1 y e' |> fun h => b1 x e) (a1 y e')
    subst hxy
    congr 1
    refine sortS_ext a2 b2 c2 d2 fun z => ⟨fun hz => ?_, fun hz => ?_⟩
    · rcases List.mem_cons.1 ((h z).1 (List.mem_cons_of_mem _ hz)) with e | e
      · subst e; exact absurd hz c1
      · exact e
    · rcases List.mem_cons.1 ((h z).2 (List.mem_cons_of_mem _ hz)) with e | e
      · subst e; exact absurd hz d1
      · exact e

theorem insG_nodup {α : Type} [Inhabited α] {lt : α → α → Bool} {x : α} {l : List α} (h : l.Nodup) (hx : x ∉ l) : (insG lt x l).Nodup := by
  have e := List.takeWhile_append_dropWhile (p := fun y => !lt x y) (l := l)
  rw [← e] at h hx
  rw [List.nodup_append] at h
  rw [List.mem_append] at hx
  rw [insG, List.nodup_append]
  refine ⟨h.1, List.nodup_cons.2 ⟨fun h => hx (.inr h), h.2.1⟩, fun a ha b hb => ?_⟩
  rcases List.mem_cons.1 hb with rfl | hb
  · rintro rfl; exact hx (.inl ha)
  · exact h.2.2 a ha b hb

theorem sortG_nodup {α : Type} [Inhabited α] (lt : α → α → Bool) (l : List α) : l.Nodup → (sortG lt l).Nodup := by
  induction l using snoc_ind with
  | h0 => intro _; exact List.nodup_nil
  | h1 l x ih =>
    intro h
    rw [List.nodup_append] at h
    rw [sortG_snoc]
    exact insG_nodup (ih h.1) fun hx => h.2.2 x (sortG_mem.1 hx) x (by simp) rfl

theorem sortS_same {l m : List ByteArray} (n1 : l.Nodup) (n2 : m.Nodup) (h : ∀ x, x ∈ l ↔ x ∈ m) : sortG ltS l = sortG ltS m :=
  sortS_ext (sortG_sorted ltS_ok l) (sortG_sorted ltS_ok m) (sortG_nodup _ _ n1) (sortG_nodup _ _ n2) fun x => by rw [sortG_mem, sortG_mem, h]

def rowS (nl : Bool) (l : List ByteArray) : Blk := .arr 1 nl (l.map D.str)

theorem c148 {H : Heap} {nl : Bool} {id n : Nat} {l : List ByteArray} (hid : id < H.length) (hl : l.length = n) (hn : n ≤ 1000)
    {Q : V → Heap → Prop} (hq : Q (.tup []) (H.set id (rowS nl (isortG ltS l (n - 1))))) : ACalls prog 148 [.ref id n 0 n, .d (.int .i64 0), .d (.int .i64 n), .fn (.func 83) [] []] (H.set id (rowS nl l)) Q := by
  have hg : ∀ b : Blk, (H.set id b)[id]? = some b := fun b => by rw [List.getElem?_set_self hid]
  have hs : ∀ b b' : Blk, (H.set id b).set id b' = H.set id b' := fun b b' => by rw [List.set_set]
  have hHl : ∀ b : Blk, (H.set id b).length = H.length := fun b => by simp
  refine ACalls.run (fun _ => false) tt_ok (fn := f148) (rs := []) rfl rfl rfl rfl rfl rfl rfl ?_
  simp only [go_sem, hHl]
  refine ALoop.by (S := Nat) (fun i => [(8, .d (.int .i64 ((i + 1 : Nat)))), (0, .ref id n 0 n), (1, .d (.int .i64 0)), (2, .d (.int .i64 n)), (3, .fn (.func 83) [] [])]) (fun i => H.set id (rowS nl (isortG ltS l i))) (fun i => n - i) (fun i => i + 1 ≤ n ∨ i = 0) 0 (by simp) (fun _ h => nomatch h) (.inr rfl) ?_ ?_
  · exact ForgetTo.same' (by simp) (by simp [EWe, Env.look, w64 (n := 1) (by omega) (by omega)]) (by simp [isortG])
  · rintro i hi hn'
    have hil : (isortG ltS l i).length = n := by rw [isortG_len, hl]
    refine AWP.run (fun _ => false) tt_ok (fun _ h => nomatch h) (by simp) rfl ?_
    simp only [go_sem, hHl]
    refine Br_split (fun hd => ?_) (fun hd => ?_) <;> simp only [go_sem, hd]
    · have hlt1 : i + 1 < n := by simpa [-Int.natCast_add] using hd
      refine ALoop.by (S := Nat × List ByteArray) (fun s => [(9, .d (.int .i64 s.1)), (8, .d (.int .i64 ((i + 1 : Nat)))), (0, .ref id n 0 n), (1, .d (.int .i64 0)), (2, .d (.int .i64 n)), (3, .fn (.func 83) [] [])]) (fun s => H.set id (rowS nl s.2)) (fun s => s.1)
        (fun s => s.1 < n ∧ s.2.length = n ∧ sinkG ltS s.1 s.2 = sinkG ltS (i + 1) (isortG ltS l i)) (i + 1, isortG ltS l i) (by simp) (fun _ h => nomatch h) ⟨hlt1, hil, rfl⟩ ?_ ?_
      · exact ForgetTo.same' (by simp) (by simp [EWe, Env.look]) rfl
      · rintro ⟨j, l'⟩ ⟨hj, hl', hsk⟩ hn2
        simp only at hj hl' hsk hn2 ⊢
        have next : sinkG ltS j l' = l' → isortG ltS l (i + 1) = l' := fun h => by rw [isortG_succ, ← hsk, h]
        have hln : (l'.map (D.str)).length = n := by simp [hl']
        refine AWP.run (fun _ => false) tt_ok (fun _ h => nomatch h) (by simp) rfl ?_
        simp only [go_sem, hHl]
        refine ADrw.treeG (fun _ => false) tt_ok (by kernel_rfl) (fun k => if k = 7 ∨ k = 8 ∨ k = 12 ∨ k = 13 then some .L else some .S) (.ones [0, 1, 2, 3, 4, 5, 6, 7, 8, 9, 10, 11, 12, 13, 14, 15, 16] .done) (by simp) (fun _ h => nomatch h) rfl rfl (by kernel_rfl) ?_
        cases j with
        | zero =>
          have h0 : decide (((0 : Nat) : Int) > 0) = false := rfl
          simp only [go_sem, hHl, h0]
          refine ⟨i + 1, .inl hlt1, by omega, ?_⟩
          rw [next rfl]
          exact ForgetTo.same' (by simp) (by simp [EWe, Env.look, w64 (n := (i : Int) + 1 + 1) (by omega) (by omega)]) rfl
        | succ j =>
          have h0 : decide (((j + 1 : Nat) : Int) > 0) = true := decide_eq_true (by omega)
          have hw : IntKind.i64.wrap (((j + 1 : Nat) : Int) - 1) = ((j : Nat) : Int) := by rw [w64 (by omega) (by omega)]; omega
          have c1 : (0 : Int) ≤ ((j + 1 : Nat) : Int) := by omega
          have c2 : ((j + 1 : Nat) : Int) < (n : Int) := by omega
          have c3 : (0 : Int) ≤ ((j : Nat) : Int) := by omega
          have c4 : ((j : Nat) : Int) < (n : Int) := by omega
          have hj1 : j + 1 < l'.length := by omega
          have hj0 : j < l'.length := by omega
          have hM1 : (l'.map (D.str))[j + 1]? = some (.str l'[j + 1]) := by simp [List.getElem?_eq_getElem hj1]
          have hM0 : (l'.map (D.str))[j]? = some (.str l'[j]) := by simp [List.getElem?_eq_getElem hj0]
          have hset : ((l'.set (j + 1) l'[j]).set j l'[j + 1]).map (D.str) = ((l'.map (D.str)).set (j + 1) (.str l'[j])).set j (.str l'[j + 1]) := by simp [List.map_set]
          have hsk' : sinkG ltS (j + 1) l' = if ltS l'[j + 1] l'[j] = true then sinkG ltS j ((l'.set (j + 1) l'[j]).set j l'[j + 1]) else l' := by rw [sinkG, getDG hj1, getDG hj0]
          have hlt0 : ltS l'[j + 1] l'[j] = decide (cmpB l'[j + 1] l'[j] < 0) := rfl
          have c83a := c83 l'[j + 1] l'[j]
          have hl2 : ((l'.set (j + 1) l'[j]).set j l'[j + 1]).length = n := by simp [hl']
          generalize (l'.set (j + 1) l'[j]).set j l'[j + 1] = l2 at *
          generalize l'[j + 1] = a at *
          generalize l'[j] = b at *
          generalize hM : l'.map (D.str) = M at *
          have hs1 : ∀ x : D, (M.set (j + 1) x)[j]? = M[j]? := fun x => List.getElem?_set_ne (by omega)
          have hs2 : ∀ x : D, (M.set (j + 1) x)[j + 1]? = some x := fun x => List.getElem?_set_self (by omega)
          simp only [go_sem, hHl, hg, hs, rowS, hM, h0, hln, hw, c1, c2, c3, c4, Int.toNat_natCast, hM1, hM0]
          refine c83a.callS rfl rfl rfl rfl rfl rfl ?_
          simp only [go_sem, hHl, hg, hs, rowS, hM, h0, hln, hw, c1, c2, c3, c4, Int.toNat_natCast, hM1, hM0]
          cases h2 : decide (cmpB a b < 0) with
          | true =>
            rw [hlt0, h2, if_pos rfl] at hsk'
            simp only [go_sem]
            refine ADrw.treeG (fun _ => false) tt_ok (by kernel_rfl) (fun k => if k = 8 ∨ k = 9 ∨ k = 12 ∨ k = 13 ∨ k = 14 ∨ k = 16 then some .L else if k = 15 ∨ k = 17 then some .W else some .S) (.ones [0, 1, 2, 3, 4, 5, 6, 7, 8, 9, 10, 11, 12, 13, 14, 15, 16, 17] .done) (by simp) (fun _ h => nomatch h) rfl rfl (by kernel_rfl) ?_
            simp only [go_sem, hHl, hg, hs, hln, hw, c1, c2, c3, c4, Int.toNat_natCast, hM1, hM0, hs1, hs2, List.length_set]
            refine ⟨(j, l2), ⟨by simp only; omega, hl2, by simp only; rw [← hsk', hsk]⟩, by simp only; omega, ?_⟩
            exact ForgetTo.same' (by simp) (by simp [EWe, Env.look]) (by simp [rowS, hset])
          | false =>
            rw [hlt0, h2, if_neg (by simp)] at hsk'
            simp only [go_sem]
            refine ⟨i + 1, .inl hlt1, by omega, ?_⟩
            rw [next hsk']
            exact ForgetTo.same' (by simp) (by simp [EWe, Env.look, w64 (n := (i : Int) + 1 + 1) (by omega) (by omega)]) (by simp [rowS, hM])
    · have hlt : ¬ i + 1 < n := by simpa [-Int.natCast_add] using hd
      have hi' : i = n - 1 := by omega
      subst hi'
      refine ⟨.inl (by simp), ?_⟩
      rw [List.take_of_length_le (by simp)]
      exact hq

theorem c131 {H : Heap} {nl : Bool} {id n : Nat} {l : List ByteArray} {lim : Int} (hid : id < H.length) (hl : l.length = n) (hn : n ≤ 12)
    {Q : V → Heap → Prop} (hq : Q (.tup []) (H.set id (rowS nl (sortG ltS l)))) : ACalls prog 131 [.ref id n 0 n, .d (.int .i64 0), .d (.int .i64 n), .d (.int .i64 lim), .fn (.func 83) [] []] (H.set id (rowS nl l)) Q := by
  have hs := isortG_sort ltS_ok l
  rw [hl] at hs
  rw [← hs] at hq
  have hHl : ∀ b : Blk, (H.set id b).length = H.length := fun b => by simp
  refine ACalls.run (fun _ => false) tt_ok (fn := f131) (rs := []) rfl rfl rfl rfl rfl rfl rfl ?_
  simp only [go_sem, hHl]
  refine ALoop.by (S := Unit) (fun _ => [(11, .d (.bool true)), (10, .d (.bool true)), (4, .fn (.func 83) [] []), (3, .d (.int .i64 lim)), (2, .d (.int .i64 n)), (1, .d (.int .i64 0)), (0, .ref id n 0 n)]) (fun _ => H.set id (rowS nl l)) (fun _ => 0) (fun _ => True) () (by simp) (fun _ h => nomatch h) trivial ?_ ?_
  · exact ForgetTo.same' (by simp) (by simp [EWe, Env.look]) rfl
  rintro _ _ hn'
  have hw : IntKind.i64.wrap ((n : Int) - 0) = n := by rw [w64 (by omega) (by omega)]; omega
  have d1 : decide ((n : Int) ≤ 12) = true := decide_eq_true (by omega)
  refine AWP.run (fun _ => false) tt_ok (fun _ h => nomatch h) (by simp) rfl ?_
  simp only [go_sem, hHl, hw, d1]
  refine ACallV.of rfl (c148 hid hl (by omega) ?_)
  simp only [go_sem]
  refine ⟨.inl (by simp), ?_⟩
  rw [List.take_of_length_le (by simp)]
  exact hq

theorem c115 {H : Heap} {nl : Bool} {id n : Nat} {l : List ByteArray} (hid : id < H.length) (hl : l.length = n) (hn : n ≤ 12)
    {Q : V → Heap → Prop} (hq : Q (.tup []) (H.set id (rowS nl (sortG ltS l)))) : ACalls prog 115 [.ref id n 0 n, .fn (.func 83) [] []] (H.set id (rowS nl l)) Q := by
  have hg : ∀ b : Blk, (H.set id b)[id]? = some b := fun b => by rw [List.getElem?_set_self hid]
  have hHl : ∀ b : Blk, (H.set id b).length = H.length := fun b => by simp
  have hln : (l.map (D.str)).length = n := by simp [hl]
  have hw : IntKind.u64.wrap (n : Int) = n := by
    have : n = 0 ∨ n = 1 ∨ n = 2 ∨ n = 3 ∨ n = 4 ∨ n = 5 ∨ n = 6 ∨ n = 7 ∨ n = 8 ∨ n = 9 ∨ n = 10 ∨ n = 11 ∨ n = 12 := by omega
    clear hl hln
    rcases this with rfl | rfl | rfl | rfl | rfl | rfl | rfl | rfl | rfl | rfl | rfl | rfl | rfl <;> rfl
  refine ACalls.run (fun _ => false) tt_ok (fn := f115) (rs := []) rfl rfl rfl rfl rfl rfl rfl ?_
  simp only [go_sem, hHl, hg, rowS, hln, hw]
  refine (c129 n hn).call rfl rfl rfl ?_
  simp only [go_sem]
  refine ACallV.of rfl (c131 hid hl hn ?_)
  simp only [go_sem]
  refine ⟨.inl (by simp), ?_⟩
  rw [List.take_of_length_le (by simp)]
  exact hq
end Go.Aw
end

section
set_option maxRecDepth 100000
namespace Go.Aw
open Go Go.Proofs.Tryz

def hM (A B C U F G : Blk) (L : List ByteArray) (Y : Heap) : Heap := [A, B, C, .obj (.map (keyM L)), U, F, G] ++ Y

theorem c82 {A B C U F G : Blk} {L : List ByteArray} {Q : V → Heap → Prop} (hb : BB 7 A ∧ BB 7 B ∧ BB 7 C ∧ BB 7 U ∧ BB 7 F ∧ BB 7 G) (hq : Q (keysV 7) (hM A B C U F G L [.cells [.obj 3]])) : ACalls prog 82 [.obj 3] (hM A B C U F G L []) Q := by
  refine ACalls.of_bodyK tt_ok (fn := f82) (m := 8) rfl rfl rfl (show 1 ≤ f82.ntmps by decide) (by simp [hM]) ?_
  refine AWP.run (fun _ => false) tt_ok (fun _ h => nomatch h) (by simp [hM]) rfl ?_
  simp only [go_sem, hM, show f82.results.toList = [.tmp 2] from rfl]
  exact hq

def gotS (L M : List ByteArray) : Heap := [.cells [.obj 3], .cells [.ref 9 M.length 0 M.length], .arr 1 (decide (M.length = 0)) (M.map .str)]

theorem seen_perm {L : List ByteArray} {s : List Nat} (h1 : s.Nodup) (h2 : ∀ j ∈ s, j < L.length) (h3 : ∀ i, i < L.length → i ∈ s) (hL : L.Nodup) : (s.map fun j => L.getD j default).Nodup ∧ ∀ x, x ∈ (s.map fun j => L.getD j default) ↔ x ∈ L := by
  refine ⟨?_, fun x => ?_⟩
  · rw [List.Nodup, List.pairwise_map]
    refine List.Pairwise.imp_of_mem (fun {a b} ha hb hab e => ?_) h1
    rw [getDG (h2 a ha), getDG (h2 b hb)] at e
    exact hab ((List.getElem_inj hL).1 e)
  · rw [List.mem_map]
    constructor
    · rintro ⟨j, hj, rfl⟩
      rw [getDG (h2 j hj)]; exact List.getElem_mem _
    · intro hx
      obtain ⟨i, hi, rfl⟩ := List.getElem_of_mem hx
      exact ⟨i, h3 i hi, by rw [getDG hi]⟩

theorem c130 {A B C U F G : Blk} {L : List ByteArray} (hL : L.Nodup) (hl : L.length ≤ 1000) {Q : V → Heap → Prop} (hb : BB 7 A ∧ BB 7 B ∧ BB 7 C ∧ BB 7 U ∧ BB 7 F ∧ BB 7 G)
    (hq : ∀ M : List ByteArray, M.Nodup → (∀ x, x ∈ M ↔ x ∈ L) → M.length ≤ L.length → Q (.ref 9 M.length 0 M.length) (hM A B C U F G L (gotS L M))) :
    ACalls prog 130 [.slx (some true) [], keysV 7] (hM A B C U F G L [.cells [.obj 3]]) Q := by
  have hbb : ∀ n, 7 ≤ n → BB n A ∧ BB n B ∧ BB n C ∧ BB n U ∧ BB n F ∧ BB n G := fun n hn => ⟨BB_le hn hb.1, BB_le hn hb.2.1, BB_le hn hb.2.2.1, BB_le hn hb.2.2.2.1, BB_le hn hb.2.2.2.2.1, BB_le hn hb.2.2.2.2.2⟩
  refine ACalls.of_bodyK tt_ok (fn := f130) (m := 10) rfl rfl rfl (show 2 ≤ f130.ntmps by decide) (by simp [hM]) ?_
  refine AWP.run (fun _ => false) tt_ok (fun _ h => nomatch h) (by simp [hM]) rfl ?_
  simp only [go_sem, keysV, hM]
  change AWP _ _ _ _ _ _ _ _
  refine AWP.nilrow 8 0 1 rfl rfl (by simp) ?_
  have hit := c116 7 3 L
  rw [keysV] at hit
  refine ARng.iterG (J := fun s Hc => s.Nodup ∧ (∀ j ∈ s, j < L.length) ∧ Hc = [A, B, C, .obj (.map (keyM L)), U, F, G, .cells [.obj 3], .cells [.ref 9 s.length 0 s.length], .arr 1 (decide (s.length = 0)) ((s.map fun j => L.getD j default).map .str)])
    (by simp) (fun _ h => nomatch h) rfl hit rfl rfl ?_ ?_ ?_ ?_ ?_
  · rintro s Hc ⟨h1, h2, rfl⟩
    obtain ⟨b1, b2, b3, b4, b5, b6⟩ := hbb 10 (by omega)
    refine ⟨rfl, ⟨b1, b2, b3, trivial, b4, b5, b6, rfl, rfl, trivial, trivial⟩, fun L => ⟨rfl, rfl⟩⟩
  · exact ⟨List.nodup_nil, fun _ h => by simp at h, rfl⟩
  · rintro s Hc hfin ⟨h1, h2, rfl⟩
    obtain ⟨p1, p2⟩ := seen_perm h1 h2 hfin hL
    have hsl := nodup_lt s L.length h1 h2
    have := hq _ p1 p2 (by simpa using hsl)
    have hml : ((s.map fun j => L.getD j default)).length = s.length := by simp
    simp only [gotS, hM, hml] at this
    generalize ((s.map fun j => L.getD j default).map D.str) = R at *
    simp only [go_sem, show f130.results.toList = [.tmp 4] from rfl]
    exact this
  · rintro s a s' ⟨i, n, _, _, rfl, _⟩
    rfl
  · rintro L1 L2 a s s' Hc ⟨i, n, hin, his, rfl, rfl⟩ ⟨h1, h2, rfl⟩
    have hil := (List.getElem?_eq_some_iff.1 hin).1
    have hsl := nodup_lt s L.length h1 h2
    have hgi : L.getD i default = n := by rw [List.getD_eq_getElem?_getD, hin]; rfl
    have hln : ((s.map fun j => L.getD j default).map D.str).length = s.length := by simp
    have hst : (((s ++ [i]).map fun j => L.getD j default).map D.str) = ((s.map fun j => L.getD j default).map D.str) ++ [.str n] := by simp [hin]
    have hi2 : decide (s.length ≤ 4294967295) = true := by simp only [decide_eq_true_eq]; omega
    have fin : (s ++ [i]).Nodup ∧ (∀ j ∈ s ++ [i], j < L.length) ∧ [A, B, C, .obj (.map (keyM L)), U, F, G, .cells [.obj 3], .cells [.ref 9 (s.length + 1) 0 (s.length + 1)], .arr 1 false ((s.map fun j => L.getD j default).map D.str ++ [.str n])] =
        [A, B, C, .obj (.map (keyM L)), U, F, G, .cells [.obj 3], .cells [.ref 9 (s ++ [i]).length 0 (s ++ [i]).length], .arr 1 (decide ((s ++ [i]).length = 0)) (((s ++ [i]).map fun j => L.getD j default).map .str)] := by
      refine ⟨nodup_snoc h1 his, fun z hz => ?_, by rw [hst]; simp⟩
      rcases List.mem_append.1 hz with hz | hz
      · exact h2 z hz
      · rw [List.mem_singleton.1 hz]; exact hil
    generalize (s.map fun j => L.getD j default).map D.str = R at *
    refine AWP.run (fun _ => false) tt_ok (fun _ h => by cases h; exact Nat.lt_succ_self _) (by simp) rfl ?_
    simp only [go_sem]
    refine AWP.run (fun _ => false) tt_ok (fun _ h => by cases h; exact Nat.lt_succ_self _) (by simp) rfl ?_
    simp only [go_sem, hln, hi2]
    obtain ⟨b1, b2, b3, b4, b5, b6⟩ := hbb 10 (by omega)
    rw [List.isEmpty_cons, Bool.and_false]
    exact ⟨⟨b1, b2, b3, b4, b5, b6⟩, fin⟩

theorem c114 {A B C U F G : Blk} {L : List ByteArray} (hL : L.Nodup) (hl : L.length ≤ 1000) {Q : V → Heap → Prop} (hb : BB 7 A ∧ BB 7 B ∧ BB 7 C ∧ BB 7 U ∧ BB 7 F ∧ BB 7 G)
    (hq : ∀ M : List ByteArray, M.Nodup → (∀ x, x ∈ M ↔ x ∈ L) → M.length ≤ L.length → Q (.ref 9 M.length 0 M.length) (hM A B C U F G L (gotS L M))) :
    ACalls prog 114 [keysV 7] (hM A B C U F G L [.cells [.obj 3]]) Q := by
  refine ACalls.of_bodyK tt_ok (fn := f114) (m := 10) rfl rfl rfl (show 1 ≤ f114.ntmps by decide) (by simp [hM]) ?_
  refine AWP.run (fun _ => false) tt_ok (fun _ h => nomatch h) (by simp [hM]) rfl ?_
  simp only [go_sem, keysV]
  refine ACallV.of rfl (c130 hL hl hb fun M h1 h2 h3 => ?_)
  have hbb : ∀ n, 7 ≤ n → BB n A ∧ BB n B ∧ BB n C ∧ BB n U ∧ BB n F ∧ BB n G := fun n hn => ⟨BB_le hn hb.1, BB_le hn hb.2.1, BB_le hn hb.2.2.1, BB_le hn hb.2.2.2.1, BB_le hn hb.2.2.2.2.1, BB_le hn hb.2.2.2.2.2⟩
  obtain ⟨b1, b2, b3, b4, b5, b6⟩ := hbb 10 (by omega)
  have := hq M h1 h2 h3
  simp only [gotS, hM] at this
  simp only [go_sem, gotS, hM, show f114.results.toList = [.tmp 2] from rfl]
  exact this

theorem c81 {A B C U F G : Blk} {L : List ByteArray} (hL : L.Nodup) (hl : L.length ≤ 12) {Q : V → Heap → Prop} (hb : BB 7 A ∧ BB 7 B ∧ BB 7 C ∧ BB 7 U ∧ BB 7 F ∧ BB 7 G) (hq : Q (.d (.sl ((sortG ltS L).map .str))) (hM A B C U F G L [.cells [.obj 3]])) :
    ACalls prog 81 [keysV 7, .fn (.func 83) [] []] (hM A B C U F G L [.cells [.obj 3]]) Q := by
  refine ACalls.run (fun _ => false) tt_ok (fn := f81) (rs := [.tmp 4]) rfl rfl rfl rfl rfl rfl rfl ?_
  simp only [go_sem, keysV]
  refine ACallV.of rfl (c114 hL (by omega) hb fun M h1 h2 h3 => ?_)
  have hbb : ∀ n, 7 ≤ n → BB n A ∧ BB n B ∧ BB n C ∧ BB n U ∧ BB n F ∧ BB n G := fun n hn => ⟨BB_le hn hb.1, BB_le hn hb.2.1, BB_le hn hb.2.2.1, BB_le hn hb.2.2.2.1, BB_le hn hb.2.2.2.2.1, BB_le hn hb.2.2.2.2.2⟩
  obtain ⟨b1, b2, b3, b4, b5, b6⟩ := hbb 8 (by omega)
  have hso := sortS_same h1 hL h2
  rw [← hso] at hq
  have hlen : (hM A B C U F G L [.cells [.obj 3]]).length = 8 := rfl
  simp only [go_sem, hlen]
  refine ACallV.of rfl ?_
  rw [gotS]
  change ACalls prog 115 [.ref 9 M.length 0 M.length, .fn (.func 83) [] []] ((hM A B C U F G L [.cells [.obj 3], .cells [.ref 9 M.length 0 M.length], rowS (decide (M.length = 0)) M]).set 9 (rowS (decide (M.length = 0)) M)) _
  refine c115 (by simp [hM]) rfl (by omega) ?_
  have hsl : (sortG ltS M).length = M.length := by rw [sortG_len]
  have htk : ((sortG ltS M).map D.str).take M.length = (sortG ltS M).map D.str := List.take_of_length_le (by simp [hsl])
  simp only [hM] at hq
  simp only [go_sem, hM, rowS, hsl, htk]
  exact ⟨⟨b1, b2, b3, b4, b5, b6⟩, hq⟩
end Go.Aw
end

section
set_option maxRecDepth 100000
namespace Go.Aw
open Go Go.Proofs.Tryz

/-- Is a name new for a street, that was called so before? -/
def newS (before : Option (List ByteArray)) (s : Nat) (name : ByteArray) : Bool :=
  match before with
  | none => true
  | some b => !(decide (b.getD s default = name))

/-- Names that come again in a page, by those that have been, up to a street. -/
def agF (been : List ByteArray) (before : Option (List ByteArray)) (names : List ByteArray) (again : List ByteArray) (k : Nat) : List ByteArray :=
  (List.range k).foldl (fun ag s => if (newS before s (names.getD s default) && hasS (names.getD s default) been) = true then insS ag (names.getD s default) else ag) again

theorem agF_succ (been : List ByteArray) (before : Option (List ByteArray)) (names : List ByteArray) (again : List ByteArray) (k : Nat) :
    agF been before names again (k + 1) = if (newS before k (names.getD k default) && hasS (names.getD k default) been) = true then insS (agF been before names again k) (names.getD k default) else agF been before names again k := by
  rw [agF, List.range_succ, List.foldl_append]; rfl

def beF (been names : List ByteArray) : List ByteArray := names.foldl insS been

structure AgS where
  been : List ByteArray
  again : List ByteArray
  before : Option (List ByteArray)

def agS (a : AgS) (names : List ByteArray) : AgS := ⟨beF a.been names, agF a.been a.before names a.again names.length, some names⟩
def againL (L : List (Int × Int × List ByteArray)) : AgS := L.foldl (fun a x => agS a x.2.2) ⟨[], [], none⟩
theorem againL_snoc (L : List (Int × Int × List ByteArray)) (x : Int × Int × List ByteArray) : againL (L ++ [x]) = agS (againL L) x.2.2 := by rw [againL, List.foldl_append]; rfl

def bfV : Option (List ByteArray) → V
  | none => .slx (some true) []
  | some l => .d (.sl (l.map .str))

def againP (t : Town) : List ByteArray × Int := if openE t ≠ 0 then ([], openE t) else (sortG ltS (againL (timesL (nbT t).1)).again, 0)
def againV (p : List ByteArray × Int) : V := if p.2 ≠ 0 then .slx (some true) [] else .d (.sl (p.1.map .str))

theorem agF_nodup {been names : List ByteArray} {before : Option (List ByteArray)} {again : List ByteArray} (h : again.Nodup) : ∀ k, (agF been before names again k).Nodup
  | 0 => h
  | k + 1 => by
    rw [agF_succ]
    split
    · exact insS_nodup (agF_nodup h k) _
    · exact agF_nodup h k

theorem againL_nodup (L : List (Int × Int × List ByteArray)) : (againL L).again.Nodup := by
  induction L using snoc_ind with
  | h0 => exact List.nodup_nil
  | h1 L x ih => rw [againL_snoc]; exact agF_nodup ih _

theorem timesL_get : ∀ (P : List Page) (i : Nat) (h : i < P.length), (timesL P)[i]'(by rw [timesL_len]; exact h) = (P[i].hour, hiP (P.drop (i + 1)), P[i].names)
  | [], i, h => by simp at h
  | p :: r, 0, h => rfl
  | p :: r, i + 1, h => by
    simp only [timesL, List.getElem_cons_succ, List.drop_succ_cons]
    exact timesL_get r i (by simpa using h)

theorem called_cases {t : Town} (ht : t.Ok) (s : Nat) (h : Int) : (∃ c ∈ t.ch, c.st = (s : Int) ∧ c.name = calledT t s h) ∨ ∀ h', h' ≤ h → calledT t s h' = t.first.getD s default := by
  have hp : ∀ c ∈ t.ch, 0 ≤ c.at' := fun c hc => by have := ht.at' hc; omega
  by_cases e : (sortG ltC t.ch).filter (selC s h) = []
  · right
    intro h' hh
    rw [calledT, callP_eq _ _ _ _ hp, show (sortG ltC t.ch).filter (selC s h') = [] from ?_]
    · rfl
    · rw [List.filter_eq_nil_iff] at e ⊢
      intro c hc hs
      refine e c hc ?_
      simp only [selC, Bool.and_eq_true, decide_eq_true_eq] at hs ⊢
      omega
  · left
    rw [calledT, callP_eq _ _ _ _ hp, lastP]
    cases hl : ((sortG ltC t.ch).filter (selC s h)).getLast? with
    | none => exact absurd (List.getLast?_eq_none_iff.1 hl) e
    | some c =>
      obtain ⟨h1, h2⟩ := List.mem_filter.1 (List.mem_of_getLast? hl)
      simp only [selC, Bool.and_eq_true, decide_eq_true_eq] at h2
      exact ⟨c, sortG_mem.1 h1, h2.2, rfl⟩

theorem agF_mem {been names : List ByteArray} {before : Option (List ByteArray)} {again : List ByteArray} {x : ByteArray} : ∀ k, x ∈ agF been before names again k → x ∈ again ∨ ∃ s, s < k ∧ x = names.getD s default ∧ newS before s x = true ∧ x ∈ been
  | 0, h => .inl h
  | k + 1, h => by
    rw [agF_succ] at h
    split at h
    · rename_i hc
      rw [Bool.and_eq_true] at hc
      rcases (insS_mem _ _ _).1 h with h | rfl
      · rcases agF_mem k h with h | ⟨s, h1, h2⟩
        · exact .inl h
        · exact .inr ⟨s, by omega, h2⟩
      · exact .inr ⟨k, by omega, rfl, hc.1, hasS_iff.1 hc.2⟩
    · rcases agF_mem k h with h | ⟨s, h1, h2⟩
      · exact .inl h
      · exact .inr ⟨s, by omega, h2⟩

/-- The names that come again are names of changes. -/
theorem again_in {t : Town} (ht : t.Ok) {P : List Page} (hP : PgOk t P) : ∀ i, i ≤ P.length → (∀ x ∈ (againL ((timesL P).take i)).again, ∃ c ∈ t.ch, c.name = x) ∧
    (i = 0 → (againL ((timesL P).take i)).been = [] ∧ (againL ((timesL P).take i)).before = none) ∧ ∀ j, i = j + 1 → ∀ hj : j < P.length, (againL ((timesL P).take i)).before = some (namesT t P[j].hour)
  | 0, _ => ⟨fun x hx => by simp [againL] at hx, fun _ => ⟨rfl, rfl⟩, fun j e => by omega⟩
  | i + 1, hi => by
    obtain ⟨h1, h2, h3⟩ := again_in ht hP i (by omega)
    have hil : i < (timesL P).length := by rw [timesL_len]; omega
    rw [List.take_succ_eq_append_getElem hil, againL_snoc, timesL_get P i (by omega), hP.nms _ (List.getElem_mem (show i < P.length by omega))]
    refine ⟨fun x hx => ?_, fun e => by omega, fun j e hj => ?_⟩
    · rcases agF_mem _ hx with h | ⟨s, hs, hxe, hn, hb⟩
      · exact h1 x h
      · rw [namesT_len] at hs
        simp only [namesT_get hs] at hxe
        cases i with
        | zero => rw [(h2 rfl).1] at hb; simp at hb
        | succ j =>
          have hjl : j < P.length := by omega
          rw [h3 j rfl hjl, newS, namesT_get hs] at hn
          rcases called_cases ht s P[j + 1].hour with ⟨c, hc, _, e⟩ | hf
          · exact ⟨c, hc, by rw [e, hxe]⟩
          · have hlt := List.pairwise_iff_getElem.1 hP.asc j (j + 1) hjl (by omega) (by omega)
            have e1 := hf P[j].hour (by omega)
            have e2 := hf P[j + 1].hour (Int.le_refl _)
            rw [e1, hxe, e2] at hn
            simp at hn
    · have : i = j := by omega
      subst this; rfl

theorem nodup_sub : ∀ (l m : List ByteArray), l.Nodup → (∀ x ∈ l, x ∈ m) → l.length ≤ m.length
  | [], _, _, _ => Nat.zero_le _
  | x :: l, m, hd, h => by
    obtain ⟨h1, h2⟩ := List.nodup_cons.1 hd
    obtain ⟨a, b, rfl⟩ := List.append_of_mem (h x List.mem_cons_self)
    have := nodup_sub l (a ++ b) h2 fun y hy => by
      have := h y (List.mem_cons_of_mem _ hy)
      rw [List.mem_append, List.mem_cons] at this
      rw [List.mem_append]
      rcases this with h | rfl | h
      · exact .inl h
      · exact absurd hy h1
      · exact .inr h
    simp only [List.length_append, List.length_cons] at this ⊢
    omega

theorem again_len {t : Town} (ht : t.Ok) {P : List Page} (hP : PgOk t P) : (againL (timesL P)).again.length ≤ 8 := by
  have h := (again_in ht hP P.length (Nat.le_refl _)).1
  rw [List.take_of_length_le (by rw [timesL_len]; exact Nat.le_refl _)] at h
  have := nodup_sub _ (t.ch.map (·.name)) (againL_nodup (timesL P)) fun x hx => by
    obtain ⟨c, hc, e⟩ := h x hx
    exact List.mem_map.2 ⟨c, hc, e⟩
  have := ht.chl
  simp at *
  omega

/-- The heap of Again. -/
def agH (A B : Blk) (a : AgS) : Heap := [A, B, .obj (.map (keyM a.been)), .obj (.map (keyM a.again)), .cells [.obj 2], .cells [.obj 3], .cells [bfV a.before]]

theorem c30 (t : Town) (hs : t.Small) : PC prog 30 [.d t.d] (.tup [againV (againP t), .d (.int .i64 (againP t).2)]) := by
  refine PC.run (fun _ => false) tt_ok (fn := f30) (rs := [.tmp 2, .tmp 3]) rfl rfl rfl rfl rfl rfl rfl ?_
  simp only [go_sem, Town.d]
  refine (c76 t hs).call rfl rfl rfl ?_
  rw [againP]
  by_cases ho : openE t = 0
  · obtain ⟨hok, hb, hpg⟩ := open_pg ho
    have hbk : bookD t (nbT t).1 = .agg [.sl (t.first.map .str), .sl (t.ch.map Chg.d), .sl ((nbT t).1.map Page.d)] := rfl
    rw [if_neg (by rw [ho]; simp), ho, hb, hbk]
    simp only [go_sem]
    have hit := c80 t (nbT t).1 (by have := hpg.len; omega) hpg.hrs
    rw [bkV, hbk] at hit
    have hnm : ∀ x ∈ timesL (nbT t).1, x.2.2.length = t.first.length := fun x hx => by
      obtain ⟨p, hp, e⟩ := timesL_names hx
      rw [e, hpg.nms p hp, namesT_len]
    have hall := again_len hok hpg
    have hand := againL_nodup (timesL (nbT t).1)
    have hlen := hok.len
    generalize hA : Blk.cells [.d (.sl (t.first.map .str)), .d (.sl (t.ch.map Chg.d))] = A at *
    have hAb : ∀ n, BB n A := fun n => by rw [← hA]; simp [BB, VBs, VB]
    generalize hB : Blk.cells [.d (.sl (t.first.map .str)), .d (.sl (t.ch.map Chg.d)), .d (.sl ((nbT t).1.map Page.d))] = B at *
    have hBb : ∀ n, BB n B := fun n => by rw [← hB]; simp [BB, VBs, VB]
    have hbf : ∀ n b, VB n (bfV b) = true := fun n b => by cases b <;> rfl
    generalize (nbT t).1 = P at *
    refine ARng.iter (items := (timesL P).map tmV) (J := fun rest Hc => ∃ Lp Lr, Lp ++ Lr = timesL P ∧ rest = Lr.map tmV ∧ Hc = agH A B (againL Lp) ∧ (∀ b, (againL Lp).before = some b → b.length = t.first.length ∧ b ≠ []))
      (Nat.zero_le _) (fun _ h => nomatch h) rfl hit rfl rfl ?_ ?_ ?_ ?_ ?_
    · rintro rest Hc ⟨Lp, Lr, _, _, rfl, _⟩
      exact ⟨rfl, hAb _, hBb _, trivial, trivial, rfl, rfl, by simp [BB, VBs, hbf], trivial⟩
    · exact ⟨[], timesL P, rfl, rfl, rfl, fun b e => by cases e⟩
    · rintro Hc ⟨Lp, Lr, hL, hr, rfl, _⟩
      have hLr : Lr = [] := List.map_eq_nil_iff.1 hr.symm
      subst hLr
      rw [List.append_nil] at hL
      subst hL
      simp only [go_sem, agH]
      refine ACallV.of rfl ?_
      have hb6 : ∀ k, 7 ≤ k → BB 7 A ∧ BB 7 B ∧ BB 7 (.obj (.map (keyM (againL (timesL P)).been))) ∧ BB 7 (.cells [.obj 2]) ∧ BB 7 (.cells [.obj 3]) ∧ BB 7 (.cells [bfV (againL (timesL P)).before]) := fun k _ => ⟨hAb _, hBb _, trivial, rfl, rfl, by simp [BB, VBs, hbf]⟩
      change ACalls prog 82 [.obj 3] (hM A B (.obj (.map (keyM (againL (timesL P)).been))) (.cells [.obj 2]) (.cells [.obj 3]) (.cells [bfV (againL (timesL P)).before]) (againL (timesL P)).again []) _
      refine c82 (hb6 7 (Nat.le_refl _)) ?_
      simp only [go_sem]
      refine ACallV.of rfl (c81 hand (by omega) (hb6 7 (Nat.le_refl _)) ?_)
      simp only [go_sem, againV, ne_eq, not_true_eq_false]
    · intro xs hxs
      obtain ⟨c, _, rfl⟩ := List.mem_map.1 hxs
      rfl
    · rintro L L' xs rest Hc hxs ⟨Lp, Lr, hL, hr, rfl, hbef⟩
      obtain ⟨x, Lr', rfl⟩ : ∃ x Lr', Lr = x :: Lr' := by
        cases Lr with
        | nil => cases hr
        | cons x r => exact ⟨x, r, rfl⟩
      rw [List.map_cons] at hr
      obtain ⟨rfl, rfl⟩ := List.cons.inj hr
      have hx := hnm x (by rw [← hL]; simp)
      have hsn := againL_snoc Lp x
      have fin : ∀ a, a = againL (Lp ++ [x]) → ∃ Lp2 Lr2, Lp2 ++ Lr2 = timesL P ∧ Lr'.map tmV = Lr2.map tmV ∧ agH A B a = agH A B (againL Lp2) ∧ (∀ b, (againL Lp2).before = some b → b.length = t.first.length ∧ b ≠ []) := fun a h => by
        subst h
        refine ⟨Lp ++ [x], Lr', by rw [List.append_assoc]; exact hL, rfl, rfl, fun b e => ?_⟩
        rw [hsn, agS] at e
        have e := Option.some.inj e
        rw [← e]
        exact ⟨hx, fun h => by rw [h] at hx; simp at hx; omega⟩
      rw [hsn] at fin
      have fin := fin _ rfl
      generalize againL Lp = a at *
      obtain ⟨lo, hi, nms⟩ := x
      dsimp only at fin hx hbef
      refine AWP.run (fun _ => false) tt_ok (fun _ h => by cases h; exact Nat.lt_succ_self _) (by simp [agH]) rfl ?_
      simp only [go_sem, tmV, agH]
      refine AWP.run (fun _ => false) tt_ok (fun _ h => by cases h; exact Nat.lt_succ_self _) (by simp) rfl ?_
      simp only [go_sem, List.length_map]
      refine ALoop.by (S := Nat) (fun i => [(32, .d (.int .i64 i)), (31, .d (.int .i64 nms.length)), (30, .d (.sl (nms.map .str))), (10, .d (.sl (nms.map .str))), (8, .ptr 6 0), (7, .ptr 5 0), (6, .ptr 4 0)])
        (fun i => agH A B ⟨a.been, agF a.been a.before nms a.again i, a.before⟩ ++ [L']) (fun i => nms.length - i) (fun i => i ≤ nms.length) 0 (by simp) (fun _ h => by cases h; exact Nat.lt_succ_self _) (Nat.zero_le _) ?_ ?_
      · exact ForgetTo.same' (by simp) (by simp [EWe, Env.look]) rfl
      · rintro i hi hn
        refine AWP.run (fun _ => false) tt_ok (fun _ h => by cases h; exact Nat.lt_succ_self _) (by simp [agH]) rfl ?_
        simp only [go_sem, agH]
        refine Br_split (fun hd => ?_) (fun hd => ?_) <;> simp only [go_sem, hd]
        · have hlt : i < nms.length := by simpa using hd
          have hix : idx? (nms.map D.str) (i : Int) = some (.str (nms.getD i default)) := by rw [getDG hlt]; simp [idx?, List.getElem?_eq_getElem hlt]
          have hst := agF_succ a.been a.before nms a.again i
          have hlk := key_look (nms.getD i default) a.been
          have hpt := key_put (nms.getD i default) (agF a.been a.before nms a.again i)
          have hnx : IntKind.i64.wrap ((i : Int) + 1) = (i : Int) + 1 := w64 (by omega) (by omega)
          have fin : ∀ M, M = agF a.been a.before nms a.again (i + 1) → ∀ E : Env, EWe E [(32, .d (.int .i64 ((i : Int) + 1))), (31, .d (.int .i64 nms.length)), (30, .d (.sl (nms.map .str))), (10, .d (.sl (nms.map .str))), (8, .ptr 6 0), (7, .ptr 5 0), (6, .ptr 4 0)] →
              ∃ s', s' ≤ nms.length ∧ nms.length - s' < nms.length - i ∧ ForgetTo 8 E [A, B, .obj (.map (keyM a.been)), .obj (.map (keyM M)), .cells [.obj 2], .cells [.obj 3], .cells [bfV a.before], L'] [(32, .d (.int .i64 s')), (31, .d (.int .i64 nms.length)), (30, .d (.sl (nms.map .str))), (10, .d (.sl (nms.map .str))), (8, .ptr 6 0), (7, .ptr 5 0), (6, .ptr 4 0)]
                ([A, B, .obj (.map (keyM a.been)), .obj (.map (keyM (agF a.been a.before nms a.again s'))), .cells [.obj 2], .cells [.obj 3], .cells [bfV a.before]] ++ [L']) := fun M hM E hE => by
            subst hM
            exact ⟨i + 1, hlt, by omega, ForgetTo.same' (by simp) hE rfl⟩
          have fin1 : (newS a.before i (nms.getD i default) && hasS (nms.getD i default) a.been) = true → insS (agF a.been a.before nms a.again i) (nms.getD i default) = agF a.been a.before nms a.again (i + 1) := fun h => by rw [hst, if_pos h]
          have fin0 : (newS a.before i (nms.getD i default) && hasS (nms.getD i default) a.been) = false → agF a.been a.before nms a.again i = agF a.been a.before nms a.again (i + 1) := fun h => by rw [hst, if_neg (by rw [h]; simp)]
          generalize hname : nms.getD i default = name at *
          generalize agF a.been a.before nms a.again i = M at *
          cases hbb : a.before with
          | none =>
            rw [hbb] at fin
            simp only [go_sem, hix, bfV, hlk]
            cases hh : hasS name a.been with
            | true =>
              simp only [go_sem, hpt]
              exact fin _ (by rw [hbb] at fin1; exact fin1 (by rw [hh]; rfl)) _ (by simp [EWe, Env.look, hnx])
            | false =>
              simp only [go_sem]
              exact fin _ (by rw [hbb] at fin0; exact fin0 (by rw [hh]; rfl)) _ (by simp [EWe, Env.look, hnx])
          | some b =>
            obtain ⟨hbl, hb0⟩ := hbef b hbb
            have hib : i < b.length := by omega
            have hix2 : idx? (b.map D.str) (i : Int) = some (.str (b.getD i default)) := by rw [getDG hib]; simp [idx?, List.getElem?_eq_getElem hib]
            have hnw : newS (some b) i name = !decide (b.getD i default = name) := rfl
            rw [hbb] at fin fin0 fin1
            rw [hnw] at fin0 fin1
            obtain ⟨b0, br, hbe⟩ : ∃ x r, b.map D.str = x :: r := by
              cases b with
              | nil => exact absurd rfl hb0
              | cons x r => exact ⟨_, _, rfl⟩
            simp only [bfV, hbe] at fin ⊢
            rw [hbe] at hix2
            simp only [go_sem, hix, hlk, bin_eql_cons, hix2, beq_str]
            cases hh : (!decide (b.getD i default = name)) with
            | true =>
              simp only [go_sem, hlk]
              cases hh2 : hasS name a.been with
              | true =>
                simp only [go_sem, hpt]
                exact fin _ (fin1 (by rw [hh, hh2]; rfl)) _ (by simp [EWe, Env.look, hnx])
              | false =>
                simp only [go_sem]
                exact fin _ (fin0 (by rw [hh, hh2]; rfl)) _ (by simp [EWe, Env.look, hnx])
            | false =>
              simp only [go_sem]
              exact fin _ (fin0 (by rw [hh]; rfl)) _ (by simp [EWe, Env.look, hnx])
        · have hie : i = nms.length := by simp only [decide_eq_false_iff_not] at hd; omega
          subst hie
          simp only [go_sem, List.length_map]
          refine ALoop.by (S := Nat) (fun i => [(58, .d (.int .i64 i)), (57, .d (.int .i64 nms.length)), (56, .d (.sl (nms.map .str))), (10, .d (.sl (nms.map .str))), (8, .ptr 6 0), (7, .ptr 5 0), (6, .ptr 4 0)])
            (fun i => agH A B ⟨beF a.been (nms.take i), agF a.been a.before nms a.again nms.length, a.before⟩ ++ [L']) (fun i => nms.length - i) (fun i => i ≤ nms.length) 0 (by simp) (fun _ h => by cases h; exact Nat.lt_succ_self _) (Nat.zero_le _) ?_ ?_
          · exact ForgetTo.same' (by simp) (by simp [EWe, Env.look]) rfl
          rintro i hi hn
          refine AWP.run (fun _ => false) tt_ok (fun _ h => by cases h; exact Nat.lt_succ_self _) (by simp [agH]) rfl ?_
          simp only [go_sem, agH]
          refine Br_split (fun hd => ?_) (fun hd => ?_) <;> simp only [go_sem, hd]
          · have hlt : i < nms.length := by simpa using hd
            have hix : idx? (nms.map D.str) (i : Int) = some (.str nms[i]) := by simp [idx?, List.getElem?_eq_getElem hlt]
            have hst : beF a.been (nms.take (i + 1)) = insS (beF a.been (nms.take i)) nms[i] := by rw [List.take_succ_eq_append_getElem hlt, beF, List.foldl_append]; rfl
            have hpt := key_put nms[i] (beF a.been (nms.take i))
            have hnx : IntKind.i64.wrap ((i : Int) + 1) = (i : Int) + 1 := w64 (by omega) (by omega)
            generalize nms[i] = name at *
            generalize beF a.been (nms.take i) = M at *
            simp only [go_sem, hix, hpt]
            refine ⟨i + 1, hlt, by omega, ?_⟩
            exact ForgetTo.same' (by simp) (by simp [EWe, Env.look, hnx]) (by rw [hst])
          · have hie : i = nms.length := by simp only [decide_eq_false_iff_not] at hd; omega
            subst hie
            rw [List.take_length]
            obtain ⟨Lp2, Lr2, f1, f2, f3, f4⟩ := fin
            simp only [agS, agH, bfV] at f3
            exact ⟨⟨hAb _, hBb _⟩, Lp2, Lr2, f1, f2, f3, f4⟩
  · have d1 : decide (openE t = 0) = false := decide_eq_false ho
    obtain ⟨x, y, z, hb⟩ := openB_is t
    rw [if_pos ho, hb]
    simp only [go_sem, d1, againV, if_pos ho]
end Go.Aw
end

section
set_option maxRecDepth 100000
namespace Go.Aw
open Go Go.Proofs.Tryz

structure Ord where
  st : Int
  laid : Int
  says : ByteArray
deriving Inhabited, DecidableEq

def Ord.d (o : Ord) : D := .agg [.int .i64 o.st, .int .i64 o.laid, .str o.says]
theorem enc_ord : Enc 3 (Tt 62) Ord.d := fun x => ⟨rfl, rfl⟩
def ordOk (n : Nat) (o : Ord) : Bool := decide (0 ≤ o.st ∧ o.st < n) && decide (0 ≤ o.laid ∧ o.laid ≤ 1000) && nm o.says

theorem c118 {t : Town} {P : List Page} (hn : t.first.length ≤ 1000000) (o : Ord) (hs : o.says.size ≤ 1000) {H : Heap} {Q : V → Heap → Prop} {i : Nat} (hb : H[i]? = some (.cells [.d (.sl (t.first.map .str)), .d (.sl (t.ch.map Chg.d)), .d (.sl (P.map Page.d))]))
    (hB : BBs H.length H) (hq : Q (.d (.bool (!ordOk t.first.length o))) H) : ACalls prog 118 [.d o.d, .ptr i 0] H Q := by
  refine ACalls.run (fun _ => false) tt_ok (fn := f118) (rs := [.tmp 3]) rfl rfl rfl rfl rfl rfl rfl ?_
  have hil := lt_of_getElem? hb
  have hg : ∀ Y : Heap, (H ++ Y)[i]? = some (.cells [.d (.sl (t.first.map .str)), .d (.sl (t.ch.map Chg.d)), .d (.sl (P.map Page.d))]) := fun Y => by rw [List.getElem?_append_left hil]; exact hb
  have hwi := within_st hn o.st
  have c70a := c70 0 (IntKind.i64.wrap ((t.first.length : Int) - 1)) [o.st] (by simp)
  have c77a := c77 o.laid
  have c67a := c67 o.says (by omega)
  rw [hwi] at c70a
  rw [within1] at c77a
  simp only [go_sem, Ord.d, hg, List.length_map, ap0]
  refine c70a.call rfl rfl rfl ?_
  simp only [ordOk] at hq
  cases d1 : decide (0 ≤ o.st ∧ o.st < (t.first.length : Int)) with
  | false =>
    rw [d1] at hq
    simp only [go_sem]
    exact ⟨.inr (by simpa using hB), by simpa using hq⟩
  | true =>
    rw [d1] at hq
    simp only [go_sem, ap0]
    refine c77a.call rfl rfl rfl ?_
    cases d2 : decide (0 ≤ o.laid ∧ o.laid ≤ 1000) with
    | false =>
      rw [d2] at hq
      simp only [go_sem]
      exact ⟨.inr (by simpa using hB), by simpa using hq⟩
    | true =>
      rw [d2] at hq
      simp only [go_sem, ap0]
      refine c67a.call rfl rfl rfl ?_
      simp only [go_sem]
      exact ⟨.inr (by simpa using hB), by simpa using hq⟩

def mustL (t : Town) (l : List Ord) : List ByteArray := l.map fun o => calledT t o.st.toNat o.laid
/-- The numbers of orders whose signs say other names. -/
def agnL (t : Town) (l : List Ord) : List Nat := (List.range l.length).filter fun i => !decide (calledT t (l.getD i default).st.toNat (l.getD i default).laid = (l.getD i default).says)

def agnTo (t : Town) (l : List Ord) (k : Nat) : List Int := natI ((List.range k).filter fun i => !decide (calledT t (l.getD i default).st.toNat (l.getD i default).laid = (l.getD i default).says))
theorem agnTo_succ (t : Town) (l : List Ord) (k : Nat) : agnTo t l (k + 1) = agnTo t l k ++ if calledT t (l.getD k default).st.toNat (l.getD k default).laid = (l.getD k default).says then [] else [(k : Int)] := by
  rw [agnTo, agnTo, natI, natI, List.range_succ, List.filter_append, List.map_append]
  congr 1
  rw [List.filter_cons, List.filter_nil]
  split <;> simp_all

theorem agnTo_len (t : Town) (l : List Ord) (k : Nat) : (agnTo t l k).length ≤ k := by
  have := List.length_filter_le (fun i => !decide (calledT t (l.getD i default).st.toNat (l.getD i default).laid = (l.getD i default).says)) (List.range k)
  rw [agnTo, natI, List.length_map]
  simpa using this

def mustB (t : Town) (l : List Ord) : List ByteArray × List Int × Int :=
  if 8 < l.length then ([], [], 5) else if l.any (fun o => !ordOk t.first.length o) = true then ([], [], 2) else (mustL t l, natI (agnL t l), 0)

theorem c85 {t : Town} (ht : t.Ok) {P : List Page} (hP : PgOk t P) (l : List Ord) (hl : l.length ≤ 100) (hs : ∀ o ∈ l, o.says.size ≤ 1000) :
    PC prog 85 [.d (bookD t P), .d (.sl (l.map Ord.d))] (.tup [.d (.sl ((mustB t l).1.map .str)), .d (.sl ((mustB t l).2.1.map (.int .i64))), .d (.int .i64 (mustB t l).2.2)]) := by
  have hlen := ht.len
  refine PC.run (fun k => k == 4 || k == 5) tt_ok (fn := f85) (rs := [.tmp 4, .tmp 5, .tmp 6]) rfl rfl rfl rfl rfl rfl rfl ?_
  simp only [go_sem, bookD, List.length_map]
  rw [mustB]
  by_cases h8 : 8 < l.length
  · rw [if_pos h8]
    have d1 : decide ((8 : Int) < (l.length : Int)) = true := decide_eq_true (by omega)
    simp only [go_sem, d1]
  · rw [if_neg h8]
    have d1 : decide ((8 : Int) < (l.length : Int)) = false := decide_eq_false (by omega)
    simp only [go_sem, d1]
    refine ACallV.of rfl (c119 enc_ord l (by omega) 118 [] [.ptr 0 0] (fun o => !ordOk t.first.length o) (fun o ho Q h => ACallV.of rfl (c118 (P := P) (by omega) o (hs o ho) rfl (by simp [BBs, BB, VBs, VB]) h)) ?_)
    cases ha : l.any (fun o => !ordOk t.first.length o) with
    | true =>
      rw [if_pos rfl]
      simp only [go_sem]
    | false =>
      rw [if_neg (by simp)]
      simp only [go_sem]
      have hok : ∀ o ∈ l, 0 ≤ o.st ∧ o.st < t.first.length ∧ 0 ≤ o.laid := fun o ho => by
        have : ordOk t.first.length o = true := by
          rw [List.any_eq_false] at ha
          simpa using ha o ho
        simp only [ordOk, Bool.and_eq_true, decide_eq_true_eq] at this
        omega
      refine ALoop.by (S := Nat) (fun i => [(22, .d (.int .i64 i)), (21, .d (.int .i64 l.length)), (20, .d (.sl (l.map Ord.d))), (5, .ref 2 (agnTo t l i).length 0 (agnTo t l i).length), (4, .ref 1 i 0 i), (2, .ptr 0 0)])
        (fun i => [.cells [.d (.sl (t.first.map .str)), .d (.sl (t.ch.map Chg.d)), .d (.sl (P.map Page.d))], .arr 1 (decide (i = 0)) ((mustL t (l.take i)).map .str), .arr 1 (decide ((agnTo t l i).length = 0)) ((agnTo t l i).map (.int .i64))]) (fun i => l.length - i) (fun i => i ≤ l.length) 0 (Nat.zero_le _) (fun _ h => nomatch h) (Nat.zero_le _) ?_ ?_
      · exact ForgetTo.same' (Nat.zero_le _) (by simp [EWe, Env.look, agnTo, natI]) (by simp [agnTo, natI, mustL])
      rintro i hi hn
      refine AWP.run (fun _ => false) tt_ok (fun _ h => nomatch h) (Nat.zero_le _) rfl ?_
      simp only [go_sem]
      refine Br_split (fun hd => ?_) (fun hd => ?_) <;> simp only [go_sem, hd]
      · have hlt : i < l.length := by simpa using hd
        have hix : idx? (l.map Ord.d) (i : Int) = some l[i].d := by simp [idx?, List.getElem?_eq_getElem hlt]
        have hod : l[i].d = .agg [.int .i64 l[i].st, .int .i64 l[i].laid, .str l[i].says] := rfl
        obtain ⟨o1, o2, o3⟩ := hok _ (List.getElem_mem hlt)
        have hst := agnTo_succ t l i
        rw [getDG hlt] at hst
        have hst2 : (mustL t (l.take (i + 1))).map D.str = (mustL t (l.take i)).map D.str ++ [.str (calledT t l[i].st.toNat l[i].laid)] := by rw [List.take_succ_eq_append_getElem hlt, mustL, List.map_append, List.map_append]; rfl
        have hml : ((mustL t (l.take i)).map D.str).length = i := by simp [mustL]; omega
        have hal := agnTo_len t l i
        have haln : ((agnTo t l i).map (D.int .i64)).length = (agnTo t l i).length := by simp
        have c78a := c78 ht hP o3
        simp only [bookD] at c78a
        obtain ⟨k, hk⟩ : ∃ k : Nat, l[i].st = k := ⟨l[i].st.toNat, by omega⟩
        have hkl : k < t.first.length := by omega
        have hix2 : idx? ((namesT t l[i].laid).map D.str) (k : Int) = some (.str (calledT t k l[i].laid)) := by
          rw [← namesT_get hkl, getDG (by rw [namesT_len]; exact hkl)]; simp [idx?, List.getElem?_eq_getElem (show k < (namesT t l[i].laid).length by rw [namesT_len]; exact hkl)]
        have hnx : IntKind.i64.wrap ((i : Int) + 1) = (i : Int) + 1 := w64 (by omega) (by omega)
        rw [hk] at hst hst2 hod
        rw [hod] at hix
        rw [Int.toNat_natCast] at hst hst2
        generalize l[i].laid = ld at *
        generalize l[i].says = sy at *
        generalize calledT t k ld = cn at *
        generalize (namesT t ld).map D.str = NM at *
        generalize (mustL t (l.take i)).map D.str = M at *
        generalize agnTo t l i = A at *
        have i1 : decide (i ≤ 4294967295) = true := decide_eq_true (by omega)
        have i2 : decide (A.length ≤ 4294967295) = true := decide_eq_true (by omega)
        simp only [go_sem, hix]
        refine ADrw.treeG (fun _ => false) tt_ok (by kernel_rfl) (fun k => if k = 0 ∨ k = 2 ∨ k = 5 then some .L else some .S) (.ones [0, 1, 2, 3, 4, 5, 6, 7, 8] .done) (Nat.zero_le _) (fun _ h => nomatch h) rfl rfl (by kernel_rfl) ?_
        simp only [go_sem]
        refine c78a.callS rfl rfl rfl rfl rfl rfl ?_
        simp only [go_sem, hix2, hml, i1, bne, beq_str]
        by_cases he : cn = sy
        · rw [if_pos he, List.append_nil] at hst
          simp only [go_sem, decide_eq_true he]
          refine ⟨i + 1, hlt, by omega, ?_⟩
          exact ForgetTo.drop (H0 := [_, _, _]) (Y := [_]) (Nat.zero_le _) (by rw [hst, hst2]; simp) (by simp [BBs, BB, VBs, VB]) (by simp [EWp, Env.look, pubV, hnx, hst])
        · rw [if_neg he] at hst
          simp only [go_sem, decide_eq_false he, haln, i2]
          refine ⟨i + 1, hlt, by omega, ?_⟩
          exact ForgetTo.drop (H0 := [_, _, _]) (Y := [_]) (Nat.zero_le _) (by rw [hst, hst2]; simp) (by simp [BBs, BB, VBs, VB]) (by simp [EWp, Env.look, pubV, hnx, hst])
      · have hie : i = l.length := by simp only [decide_eq_false_iff_not] at hd; omega
        subst hie
        have hag : agnTo t l l.length = natI (agnL t l) := rfl
        rw [List.take_length, hag]
        have hml : (mustL t l).length = l.length := by simp [mustL]
        have h1 : ((mustL t l).map D.str).take l.length = (mustL t l).map D.str := List.take_of_length_le (by simp [hml])
        have h2 : ((natI (agnL t l)).map (D.int .i64)).take (natI (agnL t l)).length = (natI (agnL t l)).map (D.int .i64) := List.take_of_length_le (by simp)
        simp only [go_sem, List.length_map, hml, h1, h2]

def mustP (t : Town) (l : List Ord) : List ByteArray × List Int × Int := if openE t ≠ 0 then ([], [], openE t) else mustB t l

theorem c35 (t : Town) (hs : t.Small) (l : List Ord) (hl : l.length ≤ 100) (hls : ∀ o ∈ l, o.says.size ≤ 1000) :
    PC prog 35 [.d t.d, .d (.sl (l.map Ord.d))] (.tup [if openE t ≠ 0 then .slx (some true) [] else .d (.sl ((mustP t l).1.map .str)), if openE t ≠ 0 then .slx (some true) [] else .d (.sl ((mustP t l).2.1.map (.int .i64))), .d (.int .i64 (mustP t l).2.2)]) := by
  refine PC.run (fun _ => false) tt_ok (fn := f35) (rs := [.tmp 4, .tmp 5, .tmp 6]) rfl rfl rfl rfl rfl rfl rfl ?_
  simp only [go_sem, Town.d]
  refine (c76 t hs).call rfl rfl rfl ?_
  rw [mustP]
  by_cases ho : openE t = 0
  · obtain ⟨hok, hb, hpg⟩ := open_pg ho
    have hbk : bookD t (nbT t).1 = .agg [.sl (t.first.map .str), .sl (t.ch.map Chg.d), .sl ((nbT t).1.map Page.d)] := rfl
    have c85a := c85 hok hpg l hl hls
    rw [hbk] at c85a
    have hn0 : ¬ openE t ≠ 0 := by rw [ho]; simp
    rw [if_neg hn0, if_neg hn0, if_neg hn0, ho, hb, hbk]
    simp only [go_sem]
    refine c85a.call rfl rfl rfl ?_
    simp only [go_sem]
  · have d1 : decide (openE t = 0) = false := decide_eq_false ho
    obtain ⟨x, y, z, hb⟩ := openB_is t
    rw [if_pos ho, if_pos ho, if_pos ho, hb]
    simp only [go_sem, d1]
end Go.Aw
end

section
set_option maxRecDepth 100000
namespace Go.Aw
open Go Go.Proofs.Tryz

/-- Where all orders are valid: the lists as rows of their own. -/
theorem c85r {t : Town} (ht : t.Ok) {P : List Page} (hP : PgOk t P) (l : List Ord) (hl : l.length ≤ 8) (hs : ∀ o ∈ l, o.says.size ≤ 1000) (ha : l.any (fun o => !ordOk t.first.length o) = false) :
    PCr prog 85 [.d (bookD t P), .d (.sl (l.map Ord.d))] [.cells [.d (.sl (t.first.map .str)), .d (.sl (t.ch.map Chg.d)), .d (.sl (P.map Page.d))], .arr 1 (decide (l.length = 0)) ((mustL t l).map .str), .arr 1 (decide ((natI (agnL t l)).length = 0)) ((natI (agnL t l)).map (.int .i64))]
      (.tup [.ref 1 l.length 0 l.length, .ref 2 (natI (agnL t l)).length 0 (natI (agnL t l)).length, .d (.int .i64 0)]) := by
  have hlen := ht.len
  refine PCr.of_body tt_ok (fn := f85) (rs := [.tmp 4, .tmp 5, .tmp 6]) 3 rfl rfl rfl rfl rfl rfl ?_
  refine AWP.run (fun k => k == 4 || k == 5) tt_ok (fun _ h => nomatch h) (Nat.zero_le _) rfl ?_
  have d1 : decide ((8 : Int) < (l.length : Int)) = false := decide_eq_false (by omega)
  simp only [go_sem, bookD, List.length_map, d1]
  refine ACallV.of rfl (c119 enc_ord l (by omega) 118 [] [.ptr 0 0] (fun o => !ordOk t.first.length o) (fun o ho Q h => ACallV.of rfl (c118 (P := P) (by omega) o (hs o ho) rfl (by simp [BBs, BB, VBs, VB]) h)) ?_)
  rw [ha]
  simp only [go_sem]
  have hok : ∀ o ∈ l, 0 ≤ o.st ∧ o.st < t.first.length ∧ 0 ≤ o.laid := fun o ho => by
    have : ordOk t.first.length o = true := by
      rw [List.any_eq_false] at ha
      simpa using ha o ho
    simp only [ordOk, Bool.and_eq_true, decide_eq_true_eq] at this
    omega
  refine ALoop.by (S := Nat) (fun i => [(22, .d (.int .i64 i)), (21, .d (.int .i64 l.length)), (20, .d (.sl (l.map Ord.d))), (5, .ref 2 (agnTo t l i).length 0 (agnTo t l i).length), (4, .ref 1 i 0 i), (2, .ptr 0 0)])
    (fun i => [.cells [.d (.sl (t.first.map .str)), .d (.sl (t.ch.map Chg.d)), .d (.sl (P.map Page.d))], .arr 1 (decide (i = 0)) ((mustL t (l.take i)).map .str), .arr 1 (decide ((agnTo t l i).length = 0)) ((agnTo t l i).map (.int .i64))]) (fun i => l.length - i) (fun i => i ≤ l.length) 0 (Nat.zero_le _) (fun _ h => nomatch h) (Nat.zero_le _) ?_ ?_
  · exact ForgetTo.same' (Nat.zero_le _) (by simp [EWe, Env.look, agnTo, natI]) (by simp [agnTo, natI, mustL])
  rintro i hi hn
  refine AWP.run (fun _ => false) tt_ok (fun _ h => nomatch h) (Nat.zero_le _) rfl ?_
  simp only [go_sem]
  refine Br_split (fun hd => ?_) (fun hd => ?_) <;> simp only [go_sem, hd]
  · have hlt : i < l.length := by simpa using hd
    have hix : idx? (l.map Ord.d) (i : Int) = some l[i].d := by simp [idx?, List.getElem?_eq_getElem hlt]
    have hod : l[i].d = .agg [.int .i64 l[i].st, .int .i64 l[i].laid, .str l[i].says] := rfl
    obtain ⟨o1, o2, o3⟩ := hok _ (List.getElem_mem hlt)
    have hst := agnTo_succ t l i
    rw [getDG hlt] at hst
    have hst2 : (mustL t (l.take (i + 1))).map D.str = (mustL t (l.take i)).map D.str ++ [.str (calledT t l[i].st.toNat l[i].laid)] := by rw [List.take_succ_eq_append_getElem hlt, mustL, List.map_append, List.map_append]; rfl
    have hml : ((mustL t (l.take i)).map D.str).length = i := by simp [mustL]; omega
    have hal := agnTo_len t l i
    have haln : ((agnTo t l i).map (D.int .i64)).length = (agnTo t l i).length := by simp
    have c78a := c78 ht hP o3
    simp only [bookD] at c78a
    obtain ⟨k, hk⟩ : ∃ k : Nat, l[i].st = k := ⟨l[i].st.toNat, by omega⟩
    have hkl : k < t.first.length := by omega
    have hix2 : idx? ((namesT t l[i].laid).map D.str) (k : Int) = some (.str (calledT t k l[i].laid)) := by
      rw [← namesT_get hkl, getDG (by rw [namesT_len]; exact hkl)]; simp [idx?, List.getElem?_eq_getElem (show k < (namesT t l[i].laid).length by rw [namesT_len]; exact hkl)]
    have hnx : IntKind.i64.wrap ((i : Int) + 1) = (i : Int) + 1 := w64 (by omega) (by omega)
    rw [hk] at hst hst2 hod
    rw [hod] at hix
    rw [Int.toNat_natCast] at hst hst2
    generalize l[i].laid = ld at *
    generalize l[i].says = sy at *
    generalize calledT t k ld = cn at *
    generalize (namesT t ld).map D.str = NM at *
    generalize (mustL t (l.take i)).map D.str = M at *
    generalize agnTo t l i = A at *
    have i1 : decide (i ≤ 4294967295) = true := decide_eq_true (by omega)
    have i2 : decide (A.length ≤ 4294967295) = true := decide_eq_true (by omega)
    simp only [go_sem, hix]
    refine ADrw.treeG (fun _ => false) tt_ok (by kernel_rfl) (fun k => if k = 0 ∨ k = 2 ∨ k = 5 then some .L else some .S) (.ones [0, 1, 2, 3, 4, 5, 6, 7, 8] .done) (Nat.zero_le _) (fun _ h => nomatch h) rfl rfl (by kernel_rfl) ?_
    simp only [go_sem]
    refine c78a.callS rfl rfl rfl rfl rfl rfl ?_
    simp only [go_sem, hix2, hml, i1, bne, beq_str]
    by_cases he : cn = sy
    · rw [if_pos he, List.append_nil] at hst
      simp only [go_sem, decide_eq_true he]
      refine ⟨i + 1, hlt, by omega, ?_⟩
      exact ForgetTo.drop (H0 := [_, _, _]) (Y := [_]) (Nat.zero_le _) (by rw [hst, hst2]; simp) (by simp [BBs, BB, VBs, VB]) (by simp [EWp, Env.look, pubV, hnx, hst])
    · rw [if_neg he] at hst
      simp only [go_sem, decide_eq_false he, haln, i2]
      refine ⟨i + 1, hlt, by omega, ?_⟩
      exact ForgetTo.drop (H0 := [_, _, _]) (Y := [_]) (Nat.zero_le _) (by rw [hst, hst2]; simp) (by simp [BBs, BB, VBs, VB]) (by simp [EWp, Env.look, pubV, hnx, hst])
  · have hie : i = l.length := by simp only [decide_eq_false_iff_not] at hd; omega
    subst hie
    have hag : agnTo t l l.length = natI (agnL t l) := rfl
    rw [List.take_length, hag]
    have hml : (mustL t l).length = l.length := by simp [mustL]
    have h1 : ((mustL t l).map D.str).take l.length = (mustL t l).map D.str := List.take_of_length_le (by simp [hml])
    have h2 : ((natI (agnL t l)).map (D.int .i64)).take (natI (agnL t l)).length = (natI (agnL t l)).map (D.int .i64) := List.take_of_length_le (by simp)
    simp only [go_sem, List.length_map, hml, h1, h2]


theorem c86 (l : List Chg) (hl : l.length ≤ 1000) : PC prog 86 [.d (.sl (l.map Chg.d))] (.slx none (l.map Chg.d)) := by
  refine PC.run (fun _ => false) tt_ok (fn := f86) (rs := [.tmp 2]) rfl rfl rfl rfl rfl rfl rfl ?_
  have hs := sized_chg l
  have htk : (l.map Chg.d).take l.length = l.map Chg.d := List.take_of_length_le (by simp)
  have h0 : (0 : Int) ≤ (l.length : Int) := by omega
  simp only [go_sem, List.length_map, hs, h0, Int.toNat_natCast, htk]

theorem c121 (l : List Int) (hl : l.length ≤ 1000) (v : Int) : PC prog 121 [.d (.sl (l.map (.int .i64))), .d (.int .i64 v)] (.d (.int .i64 (idx (fun x => decide (v = x)) l 0))) := by
  refine PC.run (fun _ => false) tt_ok (fn := f121) (rs := [.tmp 4]) rfl rfl rfl rfl rfl rfl rfl ?_
  simp only [go_sem, List.length_map]
  refine ALoop.by (S := Nat) (fun i => [(8, .d (.int .i64 i)), (7, .d (.int .i64 l.length)), (1, .d (.int .i64 v)), (0, .d (.sl (l.map (.int .i64))))]) (fun _ => []) (fun i => l.length - i) (fun i => i ≤ l.length ∧ idx (fun x => decide (v = x)) (l.drop i) i = idx (fun x => decide (v = x)) l 0) 0 (Nat.zero_le _) (fun _ h => nomatch h) ⟨Nat.zero_le _, rfl⟩ ?_ ?_
  · exact ForgetTo.same' (Nat.zero_le _) (by simp [EWe, Env.look]) rfl
  rintro i ⟨hi, hx⟩ hn
  refine AWP.run (fun _ => false) tt_ok (fun _ h => nomatch h) hn rfl ?_
  simp only [go_sem]
  refine Br_split (fun h => ?_) (fun h => ?_) <;> simp only [go_sem, h]
  · have hlt : i < l.length := by simpa using h
    rw [idx_drop _ hlt] at hx
    have hix : idx? (l.map (D.int .i64)) (i : Int) = some (.int .i64 l[i]) := by simp [idx?, List.getElem?_eq_getElem hlt]
    have hnx : IntKind.i64.wrap ((i : Int) + 1) = (i : Int) + 1 := w64 (by omega) (by omega)
    simp only [go_sem, hix]
    refine Br_split (fun h => ?_) (fun h => ?_) <;> simp only [go_sem, h]
    · rw [h] at hx
      simp only [if_true] at hx
      rw [hx]
    · rw [h] at hx
      simp only [Bool.false_eq_true, if_false] at hx
      exact ⟨i + 1, ⟨hlt, hx⟩, by omega, ForgetTo.same' (Nat.zero_le _) (by simp [EWe, Env.look, hnx]) rfl⟩
  · have hlt : ¬ i < l.length := by simpa using h
    have : l.drop i = [] := List.drop_eq_nil_of_le (by omega)
    rw [this] at hx
    simp only [idx] at hx
    rw [← hx]

def hasI (v : Int) (l : List Int) : Bool := l.any fun x => decide (v = x)

theorem c89 (l : List Int) (hl : l.length ≤ 1000) (v : Int) : PC prog 89 [.d (.sl (l.map (.int .i64))), .d (.int .i64 v)] (.d (.bool (hasI v l))) := by
  refine PC.run (fun _ => false) tt_ok (fn := f89) (rs := [.tmp 4]) rfl rfl rfl rfl rfl rfl rfl ?_
  simp only [go_sem]
  refine (c121 l hl v).call rfl rfl rfl ?_
  simp only [go_sem]
  rw [idx_ge _ _ _ (Int.le_refl 0)]
  rfl

theorem c88 (l : List Int) (hl : l.length ≤ 1000) (v : Int) {H : Heap} {i : Nat} {Q : V → Heap → Prop} (hi : H[i]? = some (.cells [.d (.sl (l.map (.int .i64)))])) (hB : BBs H.length H) (hq : Q (.d (.bool (hasI v l))) H) : ACalls prog 88 [.d (.int .i64 v), .ptr i 0] H Q := by
  refine ACalls.run (fun _ => false) tt_ok (fn := f88) (rs := [.tmp 3]) rfl rfl rfl rfl rfl rfl rfl ?_
  simp only [go_sem, hi]
  refine (c89 l hl v).call rfl rfl rfl ?_
  simp only [go_sem]
  exact hq
/-- The heap of a call of DeleteFunc: a row among others; the closure looks at a cell. -/
structure DelOk (H : Heap) (id : Nat) (c : Nat) (w : List Int) : Prop where
  hid : id < H.length
  ne : c ≠ id
  cell : H[c]? = some (.cells [.d (.sl (w.map (.int .i64)))])
  len : w.length ≤ 1000
  bb : ∀ b : Blk, BB H.length b → BBs H.length (H.set id b)

def rowN (nl : Bool) (l : List Int) : Blk := .arr 1 nl (l.map (.int .i64))

theorem del_call {H : Heap} {id c : Nat} {w : List Int} (h : DelOk H id c w) (nl : Bool) (l : List Int) (v : Int) {Q : V → Heap → Prop} (hq : Q (.d (.bool (hasI v w))) (H.set id (rowN nl l))) : ACallV prog (.fn (.func 88) [] [.ptr c 0]) [.d (.int .i64 v)] (H.set id (rowN nl l)) Q :=
  ACallV.of rfl (c88 w h.len v (by rw [List.getElem?_set_ne (fun e => h.ne e.symm)]; exact h.cell) (by rw [List.length_set]; exact h.bb _ trivial) hq)

theorem c120r {H : Heap} {id c n : Nat} {w : List Int} (h : DelOk H id c w) {nl : Bool} {l : List Int} (hl : l.length = n) (hn : n ≤ 1000) {Q : V → Heap → Prop} (hq : Q (.d (.int .i64 (idx (fun v => hasI v w) l 0))) (H.set id (rowN nl l))) :
    ACalls prog 120 [.ref id n 0 n, .fn (.func 88) [] [.ptr c 0]] (H.set id (rowN nl l)) Q := by
  have hg : ∀ b : Blk, (H.set id b)[id]? = some b := fun b => by rw [List.getElem?_set_self h.hid]
  have hHl : ∀ b : Blk, (H.set id b).length = H.length := fun b => by simp
  have hln : (l.map (D.int .i64)).length = n := by simp [hl]
  refine ACalls.run (fun _ => false) tt_ok (fn := f120) (rs := [.tmp 4]) rfl rfl rfl rfl rfl rfl rfl ?_
  simp only [go_sem, hHl, hg, rowN, hln]
  refine ALoop.by (S := Nat) (fun i => [(8, .d (.int .i64 i)), (7, .d (.int .i64 n)), (1, .fn (.func 88) [] [.ptr c 0]), (0, .ref id n 0 n)]) (fun _ => H.set id (rowN nl l)) (fun i => n - i) (fun i => i ≤ n ∧ idx (fun v => hasI v w) (l.drop i) i = idx (fun v => hasI v w) l 0) 0 (by simp) (fun _ h => nomatch h) ⟨Nat.zero_le _, rfl⟩ ?_ ?_
  · exact ForgetTo.same' (by simp) (by simp [EWe, Env.look]) rfl
  rintro i ⟨hi, hx⟩ hn'
  refine AWP.run (fun _ => false) tt_ok (fun _ h => nomatch h) hn' rfl ?_
  simp only [go_sem, hHl, hg, rowN]
  refine Br_split (fun hd => ?_) (fun hd => ?_) <;> simp only [go_sem, hd]
  · have hlt : i < n := by simpa using hd
    have hlt2 : i < l.length := by omega
    rw [idx_drop _ hlt2] at hx
    have hix : (l.map (D.int .i64))[i]? = some (.int .i64 l[i]) := by simp [List.getElem?_eq_getElem hlt2]
    have hnx : IntKind.i64.wrap ((i : Int) + 1) = (i : Int) + 1 := w64 (by omega) (by omega)
    have c1 : (0 : Int) ≤ (i : Int) := by omega
    have c2 : (i : Int) < (n : Int) := by omega
    simp only [go_sem, hHl, hg, rowN, hln, c1, c2, Int.toNat_natCast, hix]
    refine del_call h nl l l[i] ?_
    simp only [go_sem, hHl, rowN]
    refine Br_split (fun h => ?_) (fun h => ?_) <;> simp only [go_sem, h]
    · rw [h] at hx
      simp only [if_true] at hx
      rw [hx]
      refine ⟨.inl (by simp), ?_⟩
      rw [List.take_of_length_le (by simp)]
      exact hq
    · rw [h] at hx
      simp only [Bool.false_eq_true, if_false] at hx
      exact ⟨i + 1, ⟨hlt, hx⟩, by omega, ForgetTo.same' (by simp) (by simp [EWe, Env.look, hnx]) rfl⟩
  · have hlt : ¬ i < n := by simpa using hd
    have : l.drop i = [] := List.drop_eq_nil_of_le (by omega)
    rw [this] at hx
    simp only [idx] at hx
    rw [← hx] at hq
    refine ⟨.inl (by simp), ?_⟩
    rw [List.take_of_length_le (by simp)]
    exact hq

def keepI (w : List Int) (l : List Int) : List Int := l.filter fun v => !hasI v w

theorem idx_none {α : Type} (p : α → Bool) : ∀ (l : List α) (i : Int), 0 ≤ i → idx p l i = -1 → ∀ x ∈ l, p x = false
  | [], _, _, _, x, h => by simp at h
  | y :: l, i, hi, h, x, hx => by
    rw [idx] at h
    split at h
    · omega
    · rename_i hy
      rcases List.mem_cons.1 hx with rfl | hx
      · simpa using hy
      · exact idx_none p l (i + 1) (by omega) h x hx

theorem idx_some {α : Type} (p : α → Bool) : ∀ (l : List α) (i k : Int), 0 ≤ i → idx p l i = k → k ≠ -1 → ∃ j : Nat, k = i + j ∧ j < l.length ∧ (∀ q, q < j → ∀ x, l[q]? = some x → p x = false) ∧ ∃ x, l[j]? = some x ∧ p x = true
  | [], i, k, _, h, hk => by rw [idx] at h; omega
  | y :: l, i, k, hi, h, hk => by
    rw [idx] at h
    split at h
    · rename_i hy
      exact ⟨0, by omega, by simp, fun q hq => by omega, y, rfl, hy⟩
    · rename_i hy
      obtain ⟨j, h1, h2, h3, x, h4, h5⟩ := idx_some p l (i + 1) k (by omega) h hk
      refine ⟨j + 1, by omega, by simpa using h2, fun q hq z hz => ?_, x, by simpa using h4, h5⟩
      cases q with
      | zero => simp at hz; subst hz; simpa using hy
      | succ q => exact h3 q (by omega) z (by simpa using hz)

theorem c87 {H : Heap} {id c n : Nat} {w : List Int} (h : DelOk H id c w) {nl : Bool} {l : List Int} (hl : l.length = n) (hn : n ≤ 1000)
    {Q : V → Heap → Prop} (hq : Q (.ref id n 0 (keepI w l).length) (H.set id (rowN nl (keepI w l ++ List.replicate (n - (keepI w l).length) 0)))) :
    ACalls prog 87 [.ref id n 0 n, .fn (.func 88) [] [.ptr c 0]] (H.set id (rowN nl l)) Q := by
  have hg : ∀ b : Blk, (H.set id b)[id]? = some b := fun b => by rw [List.getElem?_set_self h.hid]
  have hs : ∀ b b' : Blk, (H.set id b).set id b' = H.set id b' := fun b b' => by rw [List.set_set]
  have hHl : ∀ b : Blk, (H.set id b).length = H.length := fun b => by simp
  have hid := h.hid
  have hln : (l.map (D.int .i64)).length = n := by simp [hl]
  have fin : ∀ (M : List Int) (k : Nat), M.length = n → k ≤ n → M.take k = keepI w l → M.drop k = List.replicate (n - k) 0 → BBq H.length (H.set id (rowN nl M)) ∧ Q (.ref id n 0 k) ((H.set id (rowN nl M)).take H.length) := fun M k h1 h2 h3 h4 => by
    have hk : (keepI w l).length = k := by rw [← h3, List.length_take]; omega
    have hM : keepI w l ++ List.replicate (n - (keepI w l).length) 0 = M := by rw [hk, ← h3, ← h4, List.take_append_drop]
    rw [hM, hk] at hq
    refine ⟨.inl (by simp), ?_⟩
    rw [List.take_of_length_le (by simp)]
    exact hq
  refine ACalls.run (fun _ => false) tt_ok (fn := f87) (rs := [.tmp 4]) rfl rfl rfl rfl rfl rfl rfl ?_
  simp only [go_sem, hHl]
  refine ACallV.of rfl (c120r h hl hn ?_)
  simp only [go_sem, hHl]
  by_cases hneg : idx (fun v => hasI v w) l 0 = -1
  · have hk : keepI w l = l := List.filter_eq_self.2 fun x hx => by rw [idx_none _ l 0 (Int.le_refl _) hneg x hx]; rfl
    rw [hneg]
    simp only [go_sem, hHl, hid, if_true]
    exact (fin l n hl (Nat.le_refl _) (by rw [hk, ← hl, List.take_length]) (by rw [Nat.sub_self, ← hl, List.drop_length]; rfl)).2
  · obtain ⟨i0, e0, h1, h2, x, h3, h4⟩ := idx_some _ l 0 _ (Int.le_refl _) rfl hneg
    have d1 : decide (idx (fun v => hasI v w) l 0 = -1) = false := decide_eq_false hneg
    rw [Int.zero_add] at e0
    rw [e0] at d1 ⊢
    have w0 : IntKind.i64.wrap ((i0 : Int) + 1) = ((i0 + 1 : Nat) : Int) := by rw [w64 (by omega) (by omega)]; omega
    have hkeep0 : keepI w (l.take (i0 + 1)) = l.take i0 := by
      rw [List.take_succ_eq_append_getElem h1, keepI, List.filter_append, List.filter_eq_self.2 fun y hy => ?_]
      · have : l[i0] = x := by rw [List.getElem?_eq_getElem h1] at h3; exact Option.some.inj h3
        rw [this, List.filter_cons, h4]; simp
      · obtain ⟨q, hq, rfl⟩ := List.getElem_of_mem hy
        rw [List.length_take] at hq
        rw [List.getElem_take]
        rw [h2 q (by omega) l[q] (List.getElem?_eq_getElem (by omega))]; rfl
    simp only [go_sem, hHl, d1, w0]
    refine ALoop.by (S := Nat × Nat × List Int) (fun s => [(6, .d (.int .i64 s.1)), (5, .d (.int .i64 s.2.1)), (1, .fn (.func 88) [] [.ptr c 0]), (0, .ref id n 0 n)]) (fun s => H.set id (rowN nl s.2.2)) (fun s => n - s.1)
      (fun s => s.1 ≤ n ∧ s.2.2.length = n ∧ s.2.1 + 1 ≤ s.1 ∧ s.2.2.take s.2.1 = keepI w (l.take s.1) ∧ ∀ q, s.1 ≤ q → q < n → s.2.2.getD q default = l.getD q default) (i0 + 1, i0, l) (by simp) (fun _ h => nomatch h) ⟨by show i0 + 1 ≤ n; omega, hl, Nat.le_refl _, hkeep0.symm, fun _ _ _ => rfl⟩ ?_ ?_
    · exact ForgetTo.same' (by simp) (by simp [EWe, Env.look]) rfl
    clear hkeep0
    rintro ⟨j, i, M⟩ ⟨hj, hMl, hij, hMt, hMj⟩ hn2
    dsimp only at hj hMl hij hMt hMj hn2 ⊢
    have hln2 : (M.map (D.int .i64)).length = n := by simp [hMl]
    refine AWP.run (fun _ => false) tt_ok (fun _ h => nomatch h) (by simp) rfl ?_
    simp only [go_sem, hHl, hg, rowN, hln2]
    cases he : decide ((j : Int) < (n : Int)) with
    | true =>
      have hjn : j < n := by simp only [decide_eq_true_eq] at he; omega
      have hjl : j < l.length := by omega
      have hv := hMj j (Nat.le_refl _) hjn
      have hR : (M.map (D.int .i64))[j]? = some (.int .i64 l[j]) := by rw [List.getElem?_map, List.getElem?_eq_getElem (by omega), ← getDG hjl, ← hv, getDG (by omega)]; rfl
      have hRi : ∃ x, (M.map (D.int .i64))[i]? = some (.int .i64 x) := ⟨M[i]'(by omega), by rw [List.getElem?_map, List.getElem?_eq_getElem (by omega)]; rfl⟩
      obtain ⟨x, hRi⟩ := hRi
      have hks : keepI w (l.take (j + 1)) = keepI w (l.take j) ++ if hasI l[j] w = true then [] else [l[j]] := by
        rw [List.take_succ_eq_append_getElem hjl, keepI, keepI, List.filter_append]
        congr 1
        rw [List.filter_cons, List.filter_nil]
        split <;> simp_all
      have hset : (M.set i l[j]).map (D.int .i64) = (M.map (D.int .i64)).set i (.int .i64 l[j]) := by rw [List.map_set]
      have c1 : (0 : Int) ≤ (j : Int) := by omega
      have c2 : (j : Int) < (n : Int) := by omega
      have c3 : (0 : Int) ≤ (i : Int) := by omega
      have c4 : (i : Int) < (n : Int) := by omega
      have hnj : IntKind.i64.wrap ((j : Int) + 1) = ((j + 1 : Nat) : Int) := by rw [w64 (by omega) (by omega)]; omega
      have hni : IntKind.i64.wrap ((i : Int) + 1) = ((i + 1 : Nat) : Int) := by rw [w64 (by omega) (by omega)]; omega
      have hdc := fun Q => del_call h nl M l[j] (Q := Q)
      simp only [rowN] at hdc
      generalize l[j] = v at *
      generalize hRR : M.map (D.int .i64) = R at *
      simp only [go_sem, hHl, hg, hln2, c1, c2, Int.toNat_natCast, hR]
      refine hdc _ ?_
      cases hh : hasI v w with
      | true =>
        rw [hh, if_pos rfl, List.append_nil] at hks
        simp only [go_sem, hHl, hnj]
        refine ⟨(j + 1, i, M), ⟨by show j + 1 ≤ n; omega, hMl, by show i + 1 ≤ j + 1; omega, by rw [hks]; exact hMt, fun q h1 h2 => hMj q (by simp only at h1; omega) h2⟩, by show n - (j + 1) < n - j; omega, ?_⟩
        exact ForgetTo.same' (by simp) (by simp [EWe, Env.look]) (by simp only [hRR])
      | false =>
        rw [hh, if_neg (by simp)] at hks
        simp only [go_sem, hHl, hg, hs, hln2, c3, c4, Int.toNat_natCast, hRi, hni, hnj]
        refine ⟨(j + 1, i + 1, M.set i v), ⟨by show j + 1 ≤ n; omega, by simp [hMl], by show i + 1 + 1 ≤ j + 1; omega, ?_, fun q h1 h2 => ?_⟩, by show n - (j + 1) < n - j; omega, ?_⟩
        · show (M.set i v).take (i + 1) = keepI w (l.take (j + 1))
          rw [hks, List.take_succ_eq_append_getElem (by simp; omega), List.getElem_set_self, List.take_set_of_le (Nat.le_refl _), hMt]
        · show (M.set i v).getD q default = l.getD q default
          simp only at h1
          rw [List.getD_eq_getElem?_getD, List.getElem?_set_ne (by omega), ← List.getD_eq_getElem?_getD]
          exact hMj q (by omega) h2
        · exact ForgetTo.same' (by simp) (by simp [EWe, Env.look]) (by simp only [hset])
    | false =>
      have hje : j = n := by simp only [decide_eq_false_iff_not] at he; omega
      have g5 : (0 : Int) ≤ (i : Int) := by omega
      have g7 : i ≤ n := by omega
      have g8 : i < n ∨ i = 0 := .inl (by omega)
      have g9 : i + (n - i) = n := by omega
      have g11 : i < n := by omega
      have e2 : n ≤ n := Nat.le_refl _
      rw [hje, ← hl, List.take_length] at hMt
      have hlen : (M.take i ++ List.replicate (n - i) 0).length = n := by simp; omega
      have hmm : (M.take i ++ List.replicate (n - i) (0 : Int)).map (D.int .i64) = (M.map (D.int .i64)).take i ++ List.replicate (n - i) (.int .i64 0) := by simp
      have := fin (M.take i ++ List.replicate (n - i) 0) i hlen g7 (by rw [List.take_append_of_le_length (by simp; omega), List.take_take, Nat.min_self, hMt]) (by rw [List.drop_append_of_le_length (by simp; omega)]; simp)
      rw [rowN, hmm] at this
      have hln3 : ((M.map (D.int .i64)).take i ++ List.replicate (n - i) (D.int .i64 0)).length = n := by simp; omega
      generalize M.map (D.int .i64) = R at *
      simp only [go_sem, hHl, hg, hs, hln2, hln3, g5, g7, g8, g9, g11, Int.toNat_natCast, Nat.zero_add, e2, hid, if_true]
      exact this.2
end Go.Aw
end

section
set_option maxRecDepth 100000
namespace Go.Aw
open Go Go.Proofs.Tryz

def withT (t : Town) (c : Chg) : Town := ⟨t.first, t.ch ++ [c]⟩

def changedP (t : Town) (l : List Ord) (c : Chg) : List Int × Int :=
  if openE t ≠ 0 then ([], openE t) else if (mustB t l).2.2 ≠ 0 then ([], (mustB t l).2.2) else if t.ch.length ≥ 8 then ([], 8) else if chgOk t.first.length c = false then ([], 2)
  else if openE (withT t c) ≠ 0 then ([], openE (withT t c)) else (keepI (natI (agnL t l)) (natI (agnL (withT t c) l)), 0)

def chdV (p : List Int × Int) : V := if p.2 ≠ 0 then .slx (some true) [] else .d (.sl (p.1.map (.int .i64)))

theorem mustB_z {t : Town} {l : List Ord} (h : (mustB t l).2.2 = 0) : l.length ≤ 8 ∧ l.any (fun o => !ordOk t.first.length o) = false ∧ mustB t l = (mustL t l, natI (agnL t l), 0) := by
  rw [mustB] at h ⊢
  split at h
  · cases h
  · split at h
    · cases h
    · rename_i h1 h2
      rw [if_neg h1, if_neg h2]
      exact ⟨by omega, by simpa using h2, rfl⟩

theorem del8 {b0 b1 b2 b4 b5 b6 : Blk} {w l : List Int} {n : Nat} {nl : Bool} (hl : l.length = n) (hn : n ≤ 1000) (hw : w.length ≤ 1000) (hb : BB 8 b0 ∧ BB 8 b1 ∧ BB 8 b2 ∧ BB 8 b4 ∧ BB 8 b5 ∧ BB 8 b6) {Q : V → Heap → Prop}
    (hq : Q (.ref 7 n 0 (keepI w l).length) [b0, b1, b2, .cells [.d (.sl (w.map (.int .i64)))], b4, b5, b6, rowN nl (keepI w l ++ List.replicate (n - (keepI w l).length) 0)]) :
    ACalls prog 87 [.ref 7 n 0 n, .fn (.func 88) [] [.ptr 3 0]] [b0, b1, b2, .cells [.d (.sl (w.map (.int .i64)))], b4, b5, b6, .arr 1 nl (l.map (.int .i64))] Q :=
  c87 (H := [b0, b1, b2, .cells [.d (.sl (w.map (.int .i64)))], b4, b5, b6, .arr 1 nl (l.map (.int .i64))]) (id := 7) (c := 3) (n := n) (w := w) (l := l) (nl := nl)
    ⟨by simp, by omega, rfl, hw, fun b h => ⟨hb.1, hb.2.1, hb.2.2.1, rfl, hb.2.2.2.1, hb.2.2.2.2.1, hb.2.2.2.2.2, h, trivial⟩⟩ hl hn hq

theorem c36 (t : Town) (hs : t.Small) (l : List Ord) (hl : l.length ≤ 100) (hls : ∀ o ∈ l, o.says.size ≤ 1000) (c : Chg) (hc : c.name.size ≤ 1000) :
    PC prog 36 [.d t.d, .d (.sl (l.map Ord.d)), .d c.d] (.tup [chdV (changedP t l c), .d (.int .i64 (changedP t l c).2)]) := by
  have hsf := hs.f
  refine PC.run (fun _ => false) tt_ok (fn := f36) (rs := [.tmp 6, .tmp 7]) rfl rfl rfl rfl rfl rfl rfl ?_
  simp only [go_sem, Town.d, Chg.d]
  refine (c76 t hs).call rfl rfl rfl ?_
  rw [changedP]
  by_cases ho : openE t = 0
  · obtain ⟨hok, hb, hpg⟩ := open_pg ho
    have hbk : bookD t (nbT t).1 = .agg [.sl (t.first.map .str), .sl (t.ch.map Chg.d), .sl ((nbT t).1.map Page.d)] := rfl
    have c85a := c85 hok hpg l hl hls
    rw [hbk] at c85a
    rw [if_neg (by rw [ho]; simp), ho, hb, hbk]
    simp only [go_sem]
    refine c85a.call rfl rfl rfl ?_
    simp only [go_sem]
    by_cases hm : (mustB t l).2.2 = 0
    · obtain ⟨hl8, hany, hmb⟩ := mustB_z hm
      rw [if_neg (by rw [hm]; simp), hm]
      have hmb2 : (mustB t l).2.1 = natI (agnL t l) := by rw [hmb]
      rw [hmb2]
      simp only [go_sem, List.length_map]
      by_cases h8 : t.ch.length ≥ 8
      · rw [if_pos h8]
        have d1 : decide ((8 : Int) ≤ (t.ch.length : Int)) = true := decide_eq_true (by omega)
        simp only [go_sem, d1, chdV]
      · rw [if_neg h8]
        have d1 : decide ((8 : Int) ≤ (t.ch.length : Int)) = false := decide_eq_false (by omega)
        have c69a := c69 c t.first.length (by omega)
        rw [chgW_eq (by omega)] at c69a
        simp only [Chg.d] at c69a
        simp only [go_sem, d1, List.length_map]
        refine c69a.call rfl rfl rfl ?_
        cases hck : chgOk t.first.length c with
        | false =>
          rw [if_pos rfl]
          simp only [go_sem, chdV]
        | true =>
          rw [if_neg (by simp)]
          have hsz := sized_chg t.ch
          have hcl := hok.chl
          have hd5 : decide (t.ch.length ≤ 4294967295) = true := decide_eq_true (by omega)
          have hwt : (withT t c).d = .agg [.sl (t.first.map .str), .sl (t.ch.map Chg.d ++ [.agg [.int .i64 c.at', .int .i64 c.st, .str c.name]])] := by
            simp only [Town.d, withT, List.map_append]; rfl
          have hws : (withT t c).Small := ⟨hs.f, by simp [withT]; omega, hs.fn, fun d hd => by
            rcases List.mem_append.1 hd with h | h
            · exact hs.cn d h
            · rw [List.mem_singleton.1 h]; exact hc⟩
          have c76a := c76 (withT t c) hws
          rw [hwt] at c76a
          have c86a := c86 t.ch (by omega)
          simp only [go_sem]
          refine ADrw.treeG (fun _ => false) tt_ok (by kernel_rfl) (fun k => if k = 1 ∨ k = 3 then some .L else if k = 7 then some .W else some .S) (.ones [0, 1, 2, 3, 4, 5, 6, 7] .done) (Nat.zero_le _) (fun _ h => nomatch h) rfl rfl (by kernel_rfl) ?_
          simp only [go_sem]
          refine c86a.callS rfl rfl rfl rfl rfl rfl ?_
          simp only [go_sem, hsz, List.length_map, hd5]
          refine c76a.call rfl rfl rfl ?_
          by_cases ho2 : openE (withT t c) = 0
          · obtain ⟨hok2, hb2, hpg2⟩ := open_pg ho2
            have hbk2 : bookD (withT t c) (nbT (withT t c)).1 = .agg [.sl (t.first.map .str), .sl (t.ch.map Chg.d ++ [.agg [.int .i64 c.at', .int .i64 c.st, .str c.name]]), .sl ((nbT (withT t c)).1.map Page.d)] := by
              simp only [bookD, withT, List.map_append]; rfl
            have c85b := c85r hok2 hpg2 l hl8 hls hany
            rw [hbk2] at c85b
            rw [if_neg (by rw [ho2]; simp), ho2, hb2, hbk2]
            simp only [go_sem]
            refine c85b.call' rfl rfl rfl ?_
            simp only [go_sem]
            have hal : ∀ t' : Town, (natI (agnL t' l)).length ≤ l.length := fun t' => agnTo_len t' l l.length
            have h1 := hal t
            have h2 := hal (withT t c)
            generalize natI (agnL (withT t c) l) = A2 at *
            generalize natI (agnL t l) = A1 at *
            refine ACallV.of rfl (del8 rfl (by omega) (by omega) ?_ ?_)
            · exact ⟨by simp [BB, VBs, VB], by simp [BB, VBs, VB], by simp [BB, VBs, VB], by simp [BB, VBs, VB], by simp [BB, VBs, VB], trivial⟩
            have hkl : (keepI A1 A2).length ≤ A2.length := List.length_filter_le _ _
            have hkr : (keepI A1 A2 ++ List.replicate (A2.length - (keepI A1 A2).length) 0).length = A2.length := by simp; omega
            have hkt : ((keepI A1 A2 ++ List.replicate (A2.length - (keepI A1 A2).length) 0).map (D.int .i64)).take (keepI A1 A2).length = (keepI A1 A2).map (.int .i64) := by
              rw [List.map_append, List.take_append_of_le_length (by simp), List.take_of_length_le (by simp)]
            simp only [go_sem, rowN, List.length_map, hkr, hkt, chdV]
          · have d1 : decide (openE (withT t c) = 0) = false := decide_eq_false ho2
            obtain ⟨x, y, z, hb⟩ := openB_is (withT t c)
            rw [if_pos ho2, hb]
            simp only [go_sem, d1, chdV, if_pos ho2]
    · rw [if_pos hm]
      have d1 : decide ((mustB t l).2.2 = 0) = false := decide_eq_false hm
      simp only [go_sem, d1, chdV, if_pos hm]
  · have d1 : decide (openE t = 0) = false := decide_eq_false ho
    obtain ⟨x, y, z, hb⟩ := openB_is t
    rw [if_pos ho, hb]
    simp only [go_sem, d1, chdV, if_pos ho]
end Go.Aw
end

section
set_option maxRecDepth 100000
namespace Go.Aw
open Go Go.Proofs.Tryz

/-- How many letters must be put in, left out, or written as others: of beginnings. -/
def ftRow (prev : Nat → Nat) (x : UInt8) (b : List UInt8) (i : Nat) : Nat → Nat
  | 0 => i + 1
  | k + 1 => min (min (prev k + if x = b.getD k 0 then 0 else 1) (ftRow prev x b i k + 1)) (prev (k + 1) + 1)

def ftA (a b : List UInt8) : Nat → Nat → Nat
  | 0 => fun k => k
  | i + 1 => ftRow (ftA a b i) (a.getD i 0) b i

theorem ftA_succ (a b : List UInt8) (i k : Nat) : ftA a b (i + 1) (k + 1) = min (min (ftA a b i k + if a.getD i 0 = b.getD k 0 then 0 else 1) (ftA a b (i + 1) k + 1)) (ftA a b i (k + 1) + 1) := rfl
theorem ftA_zero (a b : List UInt8) (i : Nat) : ftA a b (i + 1) 0 = i + 1 := rfl

theorem ftA_le (a b : List UInt8) : ∀ i k, ftA a b i k ≤ i + k
  | 0, k => by show k ≤ 0 + k; omega
  | i + 1, 0 => by rw [ftA_zero]; omega
  | i + 1, k + 1 => by
    have := ftA_le a b i (k + 1)
    rw [ftA_succ]; omega

def faultsP (a b : ByteArray) : Nat := ftA a.data.toList b.data.toList a.size b.size

/-! A block of eleven integers. -/

def rowC (f : Nat → Int) : List V := (List.range 11).map fun j => .d (.int .i64 (f j))

theorem rowC_len (f : Nat → Int) : (rowC f).length = 11 := by simp [rowC]
theorem rowC_head (f : Nat → Int) {j : Nat} (h : j < 11) : headV (List.drop j (rowC f)) = some (.d (.int .i64 (f j))) := by
  rw [List.drop_eq_getElem_cons (by rw [rowC_len]; exact h)]
  simp [headV, rowC]
theorem rowC_set (f : Nat → Int) {j : Nat} (h : j < 11) (v : Int) : splice (rowC f) j [.d (.int .i64 v)] = rowC fun m => if m = j then v else f m := by
  refine List.ext_getElem? fun m => ?_
  rw [splice, List.length_singleton, List.append_assoc, List.getElem?_append, List.length_take, rowC_len, Nat.min_eq_left (by omega)]
  by_cases h1 : m < j
  · rw [if_pos h1, List.getElem?_take_of_lt h1]
    simp only [rowC, List.getElem?_map]
    rw [List.getElem?_range (by omega)]
    simp [show ¬ m = j by omega]
  · rw [if_neg h1, List.singleton_append]
    by_cases h2 : m = j
    · subst h2
      rw [Nat.sub_self]
      simp [rowC, List.getElem?_range h]
    · rw [show m - j = (m - j - 1) + 1 by omega, List.getElem?_cons_succ, List.getElem?_drop, show j + 1 + (m - j - 1) = m by omega]
      simp only [rowC, List.getElem?_map]
      by_cases h3 : m < 11
      · rw [List.getElem?_range h3]; simp [h2]
      · rw [List.getElem?_eq_none (by simp; omega)]; rfl

theorem rowC_ext {f g : Nat → Int} (h : ∀ j, j < 11 → f j = g j) : rowC f = rowC g := by
  refine List.map_congr_left fun j hj => ?_
  rw [h j (by simpa using hj)]

theorem aindex_str {T : Nat → Ty} {z s : ByteArray} {k : IntKind} {i : Nat} (h : i < s.size) : aindex T (.sc (.str z)) (.d (.str s)) (.d (.int k (i : Int))) = some (.d (.int .u8 ((s.data.toList.getD i 0).toNat : Int))) := by
  have h1 : (0 : Int) ≤ (i : Int) := by omega
  have h2 : s[i]? = some (s.data.toList.getD i 0) := by
    rw [getElem?_pos s i h, List.getD_eq_getElem?_getD, List.getElem?_eq_getElem (by simpa using h)]
    rfl
  simp only [aindex, h1, if_true, Int.toNat_natCast, h2]

/-- The row while it turns: the first ones are of the next beginning. -/
def ftB (a b : List UInt8) (i j : Nat) : Nat := if j ≤ b.length then ftA a b i j else j
def mixC (a b : List UInt8) (i k : Nat) : List V := rowC fun j => if j ≤ k then (ftA a b (i + 1) j : Nat) else (ftB a b i j : Nat)

theorem c90 (a b : ByteArray) (ha : a.size ≤ 10) (hb : b.size ≤ 10) : PC prog 90 [.d (.str a), .d (.str b)] (.d (.int .i64 (faultsP a b))) := by
  have hbl : b.data.toList.length = b.size := by simp
  refine PC.run (fun _ => false) tt_ok (fn := f90) (rs := [.tmp 4]) rfl rfl rfl rfl rfl rfl rfl ?_
  simp only [go_sem]
  refine ALoop.by (S := Nat) (fun i => [(11, .d (.int .i64 i)), (5, .ptr 0 0), (1, .d (.str b)), (0, .d (.str a))]) (fun i => [.cells (rowC fun j => if j < i then (j : Int) else 0)]) (fun i => 11 - i) (fun i => i ≤ 11) 0 (Nat.zero_le _) (fun _ h => nomatch h) (Nat.zero_le _) ?_ ?_
  · exact ForgetTo.same' (Nat.zero_le _) (by simp [EWe, Env.look]) rfl
  rintro i hi hn
  refine AWP.run (fun _ => false) tt_ok (fun _ h => nomatch h) (Nat.zero_le _) rfl ?_
  simp only [go_sem]
  cases d1 : decide ((i : Int) < 11) with
  | true =>
    have hlt : i < 11 := by simp only [decide_eq_true_eq] at d1; omega
    have hnx : IntKind.i64.wrap ((i : Int) + 1) = (i : Int) + 1 := w64 (by omega) (by omega)
    have c1 : (0 : Int) ≤ (i : Int) := by omega
    have c2 : (i : Int) < 11 := by omega
    have hr := rowC_set (fun j => if j < i then (j : Int) else 0) hlt (i : Int)
    have hl := rowC_len (fun j => if j < i then (j : Int) else 0)
    have hst : (rowC fun m => if m = i then (i : Int) else if m < i then (m : Int) else 0) = rowC fun j => if j < i + 1 then (j : Int) else 0 := rowC_ext fun j _ => by
      by_cases h1 : j = i
      · rw [if_pos h1, if_pos (by omega), h1]
      · rw [if_neg h1]
        by_cases h2 : j < i
        · rw [if_pos h2, if_pos (by omega)]
        · rw [if_neg h2, if_neg (by omega)]
    have h11 : i + 1 ≤ 11 := hlt
    generalize rowC (fun j => if j < i then (j : Int) else 0) = R at *
    simp only [go_sem, c1, c2, Int.toNat_natCast, Nat.mul_one, Nat.zero_add, hl, h11, hr]
    refine ⟨i + 1, hlt, by omega, ?_⟩
    exact ForgetTo.same' (Nat.zero_le _) (by simp [EWe, Env.look, hnx]) (by rw [hst])
  | false =>
    have hie : i = 11 := by simp only [decide_eq_false_iff_not] at d1; omega
    subst hie
    have h0 : (rowC fun j => if j < 11 then (j : Int) else 0) = rowC fun j => (ftB a.data.toList b.data.toList 0 j : Nat) := rowC_ext fun j hj => by
      rw [if_pos hj, ftB]; split <;> rfl
    rw [h0]
    simp only [go_sem]
    refine ALoop.by (S := Nat) (fun i => [(20, .d (.int .i64 i)), (19, .d (.int .i64 a.size)), (5, .ptr 0 0), (1, .d (.str b)), (0, .d (.str a))]) (fun i => [.cells (rowC fun j => (ftB a.data.toList b.data.toList i j : Nat))]) (fun i => a.size - i) (fun i => i ≤ a.size) 0 (Nat.zero_le _) (fun _ h => nomatch h) (Nat.zero_le _) ?_ ?_
    · exact ForgetTo.same' (Nat.zero_le _) (by simp [EWe, Env.look]) rfl
    clear h0
    rintro i hi hn
    refine AWP.run (fun _ => false) tt_ok (fun _ h => nomatch h) (Nat.zero_le _) rfl ?_
    simp only [go_sem]
    cases d2 : decide ((i : Int) < (a.size : Int)) with
    | true =>
      have hlt : i < a.size := by simp only [decide_eq_true_eq] at d2; omega
      have hnx : IntKind.i64.wrap ((i : Int) + 1) = ((i + 1 : Nat) : Int) := by rw [w64 (by omega) (by omega)]; omega
      have hai := aindex_str (T := Tt) (z := ⟨#[]⟩) (k := .i64) hlt
      have hl := rowC_len (fun j => ((ftB a.data.toList b.data.toList i j : Nat) : Int))
      have hh := rowC_head (fun j => ((ftB a.data.toList b.data.toList i j : Nat) : Int)) (j := 0) (by omega)
      rw [show ftB a.data.toList b.data.toList i 0 = ftA a.data.toList b.data.toList i 0 from if_pos (Nat.zero_le _)] at hh
      have hr := rowC_set (fun j => ((ftB a.data.toList b.data.toList i j : Nat) : Int)) (j := 0) (by omega) ((i + 1 : Nat) : Int)
      have hm0 : (rowC fun m => if m = 0 then ((i + 1 : Nat) : Int) else (ftB a.data.toList b.data.toList i m : Nat)) = mixC a.data.toList b.data.toList i 0 := rowC_ext fun j _ => by
        cases j with
        | zero => rfl
        | succ j => rfl
      rw [hm0] at hr
      rw [List.drop_zero] at hh
      clear hm0
      generalize hB0 : (rowC fun j => ((ftB a.data.toList b.data.toList i j : Nat) : Int)) = R at *
      simp only [go_sem, hl, hh, hr, hnx]
      subst hB0
      refine ALoop.by (S := Nat) (fun k => [(30, .d (.int .i64 k)), (29, .d (.int .i64 b.size)), (20, .d (.int .i64 i)), (19, .d (.int .i64 a.size)), (8, .d (.int .i64 (ftA a.data.toList b.data.toList i k : Nat))), (7, .d (.int .i64 i)), (5, .ptr 0 0), (1, .d (.str b)), (0, .d (.str a))]) (fun k => [.cells (mixC a.data.toList b.data.toList i k)]) (fun k => b.size - k) (fun k => k ≤ b.size) 0 (Nat.zero_le _) (fun _ h => nomatch h) (Nat.zero_le _) ?_ ?_
      · exact ForgetTo.same' (Nat.zero_le _) (by simp [EWe, Env.look]) rfl
      clear hh hr hl
      rintro k hk hn
      refine AWP.run (fun _ => false) tt_ok (fun _ h => nomatch h) (Nat.zero_le _) rfl ?_
      simp only [go_sem]
      cases d3 : decide ((k : Int) < (b.size : Int)) with
      | true =>
        have hkl : k < b.size := by simp only [decide_eq_true_eq] at d3; omega
        have hbk := aindex_str (T := Tt) (z := ⟨#[]⟩) (k := .i64) hkl
        have hk1 : IntKind.i64.wrap ((k : Int) + 1) = ((k + 1 : Nat) : Int) := by rw [w64 (by omega) (by omega)]; omega
        have hsu := ftA_succ a.data.toList b.data.toList i k
        have l1 := ftA_le a.data.toList b.data.toList i k
        have l2 := ftA_le a.data.toList b.data.toList (i + 1) k
        have l3 := ftA_le a.data.toList b.data.toList i (k + 1)
        have hl : (mixC a.data.toList b.data.toList i k).length = 11 := rowC_len _
        have hh0 : headV (List.drop k (mixC a.data.toList b.data.toList i k)) = some (.d (.int .i64 (ftA a.data.toList b.data.toList (i + 1) k : Nat))) := by
          rw [mixC, rowC_head _ (by omega), if_pos (Nat.le_refl _)]
        have hh1 : headV (List.drop (k + 1) (mixC a.data.toList b.data.toList i k)) = some (.d (.int .i64 (ftA a.data.toList b.data.toList i (k + 1) : Nat))) := by
          rw [mixC, rowC_head _ (by omega), if_neg (by omega), ftB, if_pos (by rw [hbl]; omega)]
        have hst : ∀ v : Int, v = (ftA a.data.toList b.data.toList (i + 1) (k + 1) : Nat) → splice (mixC a.data.toList b.data.toList i k) (k + 1) [.d (.int .i64 v)] = mixC a.data.toList b.data.toList i (k + 1) := fun v hv => by
          rw [mixC, rowC_set _ (by omega)]
          refine rowC_ext fun j _ => ?_
          by_cases h1 : j = k + 1
          · rw [if_pos h1, if_pos (by omega), h1, hv]
          · rw [if_neg h1]
            by_cases h2 : j ≤ k
            · rw [if_pos h2, if_pos (by omega)]
            · rw [if_neg h2, if_neg (by omega)]
        have hcm : decide (((a.data.toList.getD i 0).toNat : Int) = ((b.data.toList.getD k 0).toNat : Int)) = decide (a.data.toList.getD i 0 = b.data.toList.getD k 0) := by
          rw [Bool.eq_iff_iff, decide_eq_true_eq, decide_eq_true_eq, ← UInt8.toNat_inj]; omega
        have c1 : (0 : Int) ≤ ((k + 1 : Nat) : Int) := by omega
        have c2 : ((k + 1 : Nat) : Int) < 11 := by omega
        have c3 : (0 : Int) ≤ (k : Int) := by omega
        have c4 : (k : Int) < 11 := by omega
        have c5 : k + 1 + 1 ≤ 11 := by omega
        generalize mixC a.data.toList b.data.toList i k = M at *
        generalize hM2 : mixC a.data.toList b.data.toList i (k + 1) = M2 at *
        generalize ftA a.data.toList b.data.toList i k = f0 at *
        generalize hf1 : ftA a.data.toList b.data.toList i (k + 1) = f1 at *
        generalize ftA a.data.toList b.data.toList (i + 1) k = f2 at *
        generalize ftA a.data.toList b.data.toList (i + 1) (k + 1) = f3 at *
        generalize a.data.toList.getD i 0 = x at *
        generalize b.data.toList.getD k 0 = y at *
        simp only [go_sem]
        refine ADrw.treeG (fun _ => false) tt_ok (by kernel_rfl) (fun k => some .S) (.ones [0, 1, 2, 3, 4, 5, 6] .done) (Nat.zero_le _) (fun _ h => nomatch h) rfl rfl (by kernel_rfl) ?_
        simp only [go_sem, hai, hbk, hcm]
        have wf1 : IntKind.i64.wrap ((f0 : Int) + 1) = (f0 : Int) + 1 := w64 (by omega) (by omega)
        have wf2 : IntKind.i64.wrap ((f2 : Int) + 1) = (f2 : Int) + 1 := w64 (by omega) (by omega)
        have wf3 : IntKind.i64.wrap ((f1 : Int) + 1) = (f1 : Int) + 1 := w64 (by omega) (by omega)
        by_cases hxy : x = y
        · rw [if_pos hxy] at hsu
          have hst := hst (min (min (f0 : Int) ((f2 : Int) + 1)) ((f1 : Int) + 1)) (by rw [hsu]; omega)
          simp only [go_sem, decide_eq_true hxy, hk1, c1, c2, Int.toNat_natCast, Nat.mul_one, hh1]
          refine ADrw.treeG (fun _ => false) tt_ok (by kernel_rfl) (fun k => if k = 5 ∨ k = 10 then some .L else if k = 14 then some .W else some .S) (.ones [0, 1, 2, 3, 4, 5, 6, 7, 8, 9, 10, 11, 12, 13, 14] .done) (Nat.zero_le _) (fun _ h => nomatch h) rfl rfl (by kernel_rfl) ?_
          simp only [go_sem, hk1, c1, c2, c3, c4, c5, Int.toNat_natCast, Nat.mul_one, hl, hh0, hh1, wf2, wf3, hst]
          refine ⟨k + 1, hkl, by omega, ?_⟩
          exact ForgetTo.same' (Nat.zero_le _) (by simp [EWe, Env.look, hf1]) (by rw [hM2])
        · rw [if_neg hxy] at hsu
          have hst := hst (min (min ((f0 : Int) + 1) ((f2 : Int) + 1)) ((f1 : Int) + 1)) (by rw [hsu]; omega)
          simp only [go_sem, decide_eq_false hxy, hk1, c1, c2, Int.toNat_natCast, Nat.mul_one, hh1, wf1]
          refine ADrw.treeG (fun _ => false) tt_ok (by kernel_rfl) (fun k => if k = 5 ∨ k = 10 then some .L else if k = 14 then some .W else some .S) (.ones [0, 1, 2, 3, 4, 5, 6, 7, 8, 9, 10, 11, 12, 13, 14] .done) (Nat.zero_le _) (fun _ h => nomatch h) rfl rfl (by kernel_rfl) ?_
          simp only [go_sem, hk1, c1, c2, c3, c4, c5, Int.toNat_natCast, Nat.mul_one, hl, hh0, hh1, wf2, wf3, hst]
          refine ⟨k + 1, hkl, by omega, ?_⟩
          exact ForgetTo.same' (Nat.zero_le _) (by simp [EWe, Env.look, hf1]) (by rw [hM2])
      | false =>
        have hke : k = b.size := by simp only [decide_eq_false_iff_not] at d3; omega
        subst hke
        have hmx : mixC a.data.toList b.data.toList i b.size = rowC (fun j => ((ftB a.data.toList b.data.toList (i + 1) j : Nat) : Int)) := by
          refine rowC_ext fun j _ => ?_
          by_cases h1 : j ≤ b.size
          · rw [if_pos h1, ftB, if_pos (by rw [hbl]; exact h1)]
          · rw [if_neg h1, ftB, ftB, if_neg (by rw [hbl]; exact h1), if_neg (by rw [hbl]; exact h1)]
        simp only [go_sem, hnx]
        refine ⟨i + 1, hlt, by omega, ?_⟩
        exact ForgetTo.same' (Nat.zero_le _) (by simp [EWe, Env.look]) (by rw [hmx])
    | false =>
      have hie : i = a.size := by simp only [decide_eq_false_iff_not] at d2; omega
      subst hie
      have hh := rowC_head (fun j => ((ftB a.data.toList b.data.toList a.size j : Nat) : Int)) (j := b.size) (by omega)
      rw [show ftB a.data.toList b.data.toList a.size b.size = ftA a.data.toList b.data.toList a.size b.size from if_pos (by rw [hbl]; exact Nat.le_refl _)] at hh
      have c1 : (0 : Int) ≤ (b.size : Int) := by omega
      have c2 : (b.size : Int) < 11 := by omega
      simp only [go_sem, c1, c2, Int.toNat_natCast, Nat.mul_one, Nat.zero_add, hh, faultsP]
end Go.Aw
end

section
set_option maxRecDepth 100000
namespace Go.Aw
open Go Go.Proofs.Tryz

/-- The streets with the fewest faults so far. -/
def nearS (n : Nat) (k : Nat) (s : Nat × List Int) : Nat × List Int := if n < s.1 then (n, [(k : Int)]) else if n = s.1 then (s.1, s.2 ++ [(k : Int)]) else s
def nearF (word : ByteArray) (names : List ByteArray) (i : Nat) : Nat × List Int := (List.range i).foldl (fun s k => nearS (faultsP word (names.getD k default)) k s) (11, [])
theorem nearF_succ (word : ByteArray) (names : List ByteArray) (i : Nat) : nearF word names (i + 1) = nearS (faultsP word (names.getD i default)) i (nearF word names i) := by
  rw [nearF, List.range_succ, List.foldl_append]; rfl

theorem nearS_len (n k : Nat) (s : Nat × List Int) : (nearS n k s).2.length ≤ s.2.length + 1 := by
  rw [nearS]
  split
  · simp
  · split
    · simp
    · omega
theorem nearF_len (word : ByteArray) (names : List ByteArray) : ∀ i, (nearF word names i).2.length ≤ i
  | 0 => Nat.zero_le _
  | i + 1 => by
    have := nearF_len word names i
    have := nearS_len (faultsP word (names.getD i default)) i (nearF word names i)
    rw [nearF_succ]; omega

def nearP (t : Town) (word : ByteArray) (hour : Int) : List Int × Int × Int :=
  if openE t ≠ 0 then ([], 0, openE t) else if nm word = false then ([], 0, 4) else if ¬(0 ≤ hour ∧ hour ≤ 1000) then ([], 0, 3)
  else ((nearF word (namesT t hour) t.first.length).2, (nearF word (namesT t hour) t.first.length).1, 0)

theorem nm_size {s : ByteArray} (h : nm s = true) : 1 ≤ s.size ∧ s.size ≤ 10 := by
  simp only [nm, Bool.and_eq_true, decide_eq_true_eq] at h
  exact h.2

theorem called_nm {t : Town} (ht : t.Ok) {s : Nat} (hs : s < t.first.length) (h : Int) : nm (calledT t s h) = true := by
  rcases called_cases ht s h with ⟨c, hc, _, e⟩ | hf
  · rw [← e]; exact ht.nm hc
  · rw [hf h (Int.le_refl _), getDG hs]; exact ht.nms _ (List.getElem_mem _)

theorem names_nm {t : Town} (ht : t.Ok) {h : Int} {x : ByteArray} (hx : x ∈ namesT t h) : nm x = true := by
  obtain ⟨s, hs, rfl⟩ := List.mem_map.1 hx
  exact called_nm ht (by simpa using hs) h

theorem c43 (t : Town) (hs : t.Small) (word : ByteArray) (hw : word.size ≤ 1000) (hour : Int) :
    PC prog 43 [.d t.d, .d (.str word), .d (.int .i64 hour)] (.tup [.d (.sl ((nearP t word hour).1.map (.int .i64))), .d (.int .i64 (nearP t word hour).2.1), .d (.int .i64 (nearP t word hour).2.2)]) := by
  have hsf := hs.f
  refine PC.run (fun k => k == 6) tt_ok (fn := f43) (rs := [.tmp 6, .tmp 7, .tmp 8]) rfl rfl rfl rfl rfl rfl rfl ?_
  simp only [go_sem, Town.d]
  refine (c76 t hs).call rfl rfl rfl ?_
  rw [nearP]
  by_cases ho : openE t = 0
  · obtain ⟨hok, hb, hpg⟩ := open_pg ho
    have hbk : bookD t (nbT t).1 = .agg [.sl (t.first.map .str), .sl (t.ch.map Chg.d), .sl ((nbT t).1.map Page.d)] := rfl
    rw [if_neg (by rw [ho]; simp), ho, hb, hbk]
    simp only [go_sem]
    refine (c67 word (by omega)).call rfl rfl rfl ?_
    cases hn : nm word with
    | false =>
      rw [if_pos rfl]
      simp only [go_sem]
    | true =>
      rw [if_neg (by simp)]
      simp only [go_sem]
      refine (c77 hour).call rfl rfl rfl ?_
      rw [within1]
      by_cases h2 : 0 ≤ hour ∧ hour ≤ 1000
      · rw [if_neg (by simpa using h2), decide_eq_true h2]
        simp only [go_sem]
        have c78a := c78 hok hpg h2.1
        rw [hbk] at c78a
        refine c78a.call rfl rfl rfl ?_
        simp only [go_sem, List.length_map, namesT_len]
        have hw10 := (nm_size hn).2
        have hnms : ∀ x ∈ namesT t hour, x.size ≤ 10 := fun x hx => (nm_size (names_nm hok hx)).2
        have hnl := namesT_len t hour
        generalize namesT t hour = N at *
        generalize t.first.length = L at *
        refine ALoop.by (S := Nat × Heap × Nat) (fun s => [(34, .d (.int .i64 s.1)), (33, .d (.int .i64 L)), (32, .d (.sl (N.map .str))), (7, .d (.int .i64 (nearF word N s.1).1)), (6, .ref s.2.2 (nearF word N s.1).2.length 0 (nearF word N s.1).2.length), (1, .d (.str word))])
          (fun s => s.2.1) (fun s => L - s.1) (fun s => s.1 ≤ L ∧ s.2.1[s.2.2]? = some (.arr 1 (decide ((nearF word N s.1).2.length = 0)) ((nearF word N s.1).2.map (.int .i64)))) (0, _, 1) (Nat.zero_le _) (fun _ h => nomatch h) ⟨Nat.zero_le _, ?_⟩ (ForgetTo.same' (Nat.zero_le _) ⟨rfl, rfl, rfl, rfl, rfl, rfl, trivial⟩ rfl) ?_
        · rfl
        rintro ⟨i, H, id⟩ ⟨hi, hid⟩ hn0
        dsimp only at hi hid hn0 ⊢
        have hln := nearF_len word N i
        refine AWP.run (fun k => k == 6) tt_ok (fun _ h => nomatch h) (Nat.zero_le _) rfl ?_
        simp only [go_sem]
        refine Br_split (fun hd => ?_) (fun hd => ?_) <;> simp only [go_sem, hd]
        · have hlt : i < L := by simpa using hd
          have hlN : i < N.length := by omega
          have hix : idx? (N.map D.str) (i : Int) = some (.str (N.getD i default)) := by rw [getDG hlN]; simp [idx?, List.getElem?_eq_getElem hlN]
          have hsz : (N.getD i default).size ≤ 10 := by rw [getDG hlN]; exact hnms _ (List.getElem_mem hlN)
          have hsu := nearF_succ word N i
          have hnx : IntKind.i64.wrap ((i : Int) + 1) = ((i + 1 : Nat) : Int) := by rw [w64 (by omega) (by omega)]; omega
          have c90a := c90 word (N.getD i default) hw10 hsz
          have hidl := lt_of_getElem? hid
          have hall : ((nearF word N i).2.map (D.int .i64)).length = (nearF word N i).2.length := by simp
          generalize faultsP word (N.getD i default) = n at *
          generalize N.getD i default = name at *
          generalize nearF word N i = st at *
          obtain ⟨le, out⟩ := st
          dsimp only at hid hln hsu hall ⊢
          simp only [go_sem, hix]
          refine c90a.call rfl rfl rfl ?_
          simp only [go_sem]
          by_cases h3 : n < le
          · have d1 : decide ((n : Int) < (le : Int)) = true := decide_eq_true (by omega)
            rw [nearS, if_pos h3] at hsu
            simp only [go_sem, d1, ap0, as0]
            refine ⟨(i + 1, H ++ [.arr 1 false [.int .i64 i]], H.length), ⟨hlt, ?_⟩, by show L - (i + 1) < L - i; omega, ?_⟩
            · show (H ++ [Blk.arr 1 false [.int .i64 i]])[H.length]? = _
              rw [ap0, hsu]; rfl
            · exact ForgetTo.same' (Nat.zero_le _) (by simp [EWe, Env.look, hnx, hsu]) rfl
          · have d1 : decide ((n : Int) < (le : Int)) = false := decide_eq_false (by omega)
            rw [nearS, if_neg h3] at hsu
            by_cases h4 : n = le
            · rw [if_pos h4] at hsu
              have d2 : decide ((n : Int) = (le : Int)) = true := decide_eq_true (by omega)
              have i2 : decide (out.length ≤ 4294967295) = true := decide_eq_true (by omega)
              simp only [go_sem, d1, d2, hid, hall, i2]
              refine ⟨(i + 1, H.set id (.arr 1 false (out.map (D.int .i64) ++ [.int .i64 i])), id), ⟨hlt, ?_⟩, by show L - (i + 1) < L - i; omega, ?_⟩
              · show (H.set id _)[id]? = _
                rw [List.getElem?_set_self hidl, hsu]; simp
              · exact ForgetTo.same' (Nat.zero_le _) (by simp [EWe, Env.look, hnx, hsu]) (by simp)
            · rw [if_neg h4] at hsu
              have d2 : decide ((n : Int) = (le : Int)) = false := decide_eq_false (by omega)
              simp only [go_sem, d1, d2]
              refine ⟨(i + 1, H, id), ⟨hlt, by rw [hsu]; exact hid⟩, by show L - (i + 1) < L - i; omega, ?_⟩
              exact ForgetTo.same' (Nat.zero_le _) (by simp [EWe, Env.look, hnx, hsu]) rfl
        · have hie : i = L := by simp only [decide_eq_false_iff_not] at hd; omega
          subst hie
          have htk : ((nearF word N i).2.map (D.int .i64)).take (nearF word N i).2.length = (nearF word N i).2.map (.int .i64) := List.take_of_length_le (by simp)
          simp only [go_sem, hid, List.length_map, htk, Nat.not_lt_zero, if_false]
      · rw [if_pos h2, decide_eq_false h2]
        simp only [go_sem]
  · have d1 : decide (openE t = 0) = false := decide_eq_false ho
    obtain ⟨x, y, z, hb⟩ := openB_is t
    rw [if_pos ho, hb]
    simp only [go_sem, d1]
/-- The numbers of what is so, up to a place. -/
def numTo (l : List Bool) (k : Nat) : List Int := natI ((List.range k).filter fun i => l.getD i false)
def numP (l : List Bool) : List Int := numTo l l.length
theorem numTo_succ (l : List Bool) (k : Nat) : numTo l (k + 1) = numTo l k ++ if l.getD k false = true then [(k : Int)] else [] := by
  rw [numTo, numTo, natI, natI, List.range_succ, List.filter_append, List.map_append]
  congr 1
  rw [List.filter_cons, List.filter_nil]
  split <;> simp_all
theorem numTo_len (l : List Bool) (k : Nat) : (numTo l k).length ≤ k := by
  have := List.length_filter_le (fun i => l.getD i false) (List.range k)
  rw [numTo, natI, List.length_map]
  simpa using this

theorem c91 (l : List Bool) (hl : l.length ≤ 1000) : PC prog 91 [.d (.sl (l.map .bool))] (.d (.sl ((numP l).map (.int .i64)))) := by
  refine PC.run (fun k => k == 2) tt_ok (fn := f91) (rs := [.tmp 2]) rfl rfl rfl rfl rfl rfl rfl ?_
  simp only [go_sem, List.length_map]
  refine ALoop.by (S := Nat) (fun i => [(7, .d (.int .i64 i)), (6, .d (.int .i64 l.length)), (5, .d (.sl (l.map .bool))), (2, .ref 0 (numTo l i).length 0 (numTo l i).length)]) (fun i => [.arr 1 (decide ((numTo l i).length = 0)) ((numTo l i).map (.int .i64))]) (fun i => l.length - i) (fun i => i ≤ l.length) 0 (Nat.zero_le _) (fun _ h => nomatch h) (Nat.zero_le _) ?_ ?_
  · exact ForgetTo.same' (Nat.zero_le _) (by simp [EWe, Env.look, numTo, natI]) (by simp [numTo, natI])
  rintro i hi hn
  refine AWP.run (fun k => k == 2) tt_ok (fun _ h => nomatch h) (Nat.zero_le _) rfl ?_
  simp only [go_sem]
  refine Br_split (fun hd => ?_) (fun hd => ?_) <;> simp only [go_sem, hd]
  · have hlt : i < l.length := by simpa using hd
    have hix : idx? (l.map D.bool) (i : Int) = some (.bool (l.getD i false)) := by simp [idx?, List.getD_eq_getElem?_getD, List.getElem?_eq_getElem hlt]
    have hst := numTo_succ l i
    have hln := numTo_len l i
    have hnx : IntKind.i64.wrap ((i : Int) + 1) = (i : Int) + 1 := w64 (by omega) (by omega)
    have hall : ((numTo l i).map (D.int .i64)).length = (numTo l i).length := by simp
    generalize numTo l i = M at *
    have i2 : decide (M.length ≤ 4294967295) = true := decide_eq_true (by omega)
    simp only [go_sem, hix]
    cases hb : l.getD i false with
    | true =>
      rw [hb, if_pos rfl] at hst
      simp only [go_sem, hall, i2]
      refine ⟨i + 1, hlt, by omega, ?_⟩
      exact ForgetTo.same' (Nat.zero_le _) (by simp [EWe, Env.look, hnx, hst]) (by simp [hst])
    | false =>
      rw [hb, if_neg (by simp), List.append_nil] at hst
      simp only [go_sem]
      refine ⟨i + 1, hlt, by omega, ?_⟩
      exact ForgetTo.same' (Nat.zero_le _) (by simp [EWe, Env.look, hnx, hst]) (by simp [hst])
  · have hie : i = l.length := by simp only [decide_eq_false_iff_not] at hd; omega
    subst hie
    have htk : ((numTo l l.length).map (D.int .i64)).take (numTo l l.length).length = (numTo l l.length).map (.int .i64) := List.take_of_length_le (by simp)
    simp only [go_sem, List.length_map, htk, numP]
end Go.Aw
end

section
set_option maxRecDepth 100000
namespace Go.Aw
open Go Go.Proofs.Tryz

theorem ACalls.of_bodyQ {P : Program} {T : Nat → Ty} (hT : TOK P T) {f : FuncId} {fn : Func} {c : Code} {N : Nat} {rs : List ResultVar} {vs : List V} {Q : V → Heap → Prop} (hf : P.funcs[f]? = some fn) (hb : fn.body = some c) (hN : fn.ntmps = N) (hrs : fn.results.toList = rs)
    (hnm : (fn.name == "runtime.NumGoroutine") = false) (hlen : decide (vs.length ≤ N) = true) (h : AWP P N 0 none c (envOf 0 vs) [] (FnPost T rs 0 Q)) : ACalls P f vs [] Q := by
  subst hN; subst hrs
  exact .of_body hT hf hb hnm (by simpa using hlen) h

structure Ask where
  lo : Int
  hi : Int
  most : Int

def Ask.d (a : Ask) : D := .agg [.int .i64 a.lo, .int .i64 a.hi, .int .i64 a.most]

/-- The heap of Meant: two rows, the cells that hold them. -/
structure MnH (t : Town) (word : ByteArray) (a : Ask) (H : Heap) (r1 r2 c1 c2 : Nat) (E S : List Bool) : Prop where
  g1 : H[1]? = some (.cells [.d (.str word)])
  g2 : H[2]? = some (.cells [.d (.int .i64 a.lo), .d (.int .i64 a.hi), .d (.int .i64 a.most)])
  g3 : H[3]? = some (.cells [.d (.sl (t.first.map .str)), .d (.sl (t.ch.map Chg.d)), .d (.sl ((nbT t).1.map Page.d))])
  gc1 : H[c1]? = some (.cells [.ref r1 t.first.length 0 t.first.length])
  gc2 : H[c2]? = some (.cells [.ref r2 t.first.length 0 t.first.length])
  gr1 : H[r1]? = some (.arr 1 false (E.map .bool))
  gr2 : H[r2]? = some (.arr 1 false (S.map .bool))
  ne : (4 ≤ r1 ∧ 4 ≤ r2 ∧ 4 ≤ c1 ∧ 4 ≤ c2) ∧ r1 ≠ r2 ∧ r1 ≠ c1 ∧ r1 ≠ c2 ∧ r2 ≠ c1 ∧ r2 ≠ c2
  len : E.length = t.first.length ∧ S.length = t.first.length
  bb : BBs H.length H

theorem MnH.set1 {t : Town} {word : ByteArray} {a : Ask} {H : Heap} {r1 r2 c1 c2 : Nat} {E S : List Bool} (h : MnH t word a H r1 r2 c1 c2 E S) {E' : List Bool} (hl : E'.length = t.first.length) : MnH t word a (H.set r1 (.arr 1 false (E'.map .bool))) r1 r2 c1 c2 E' S := by
  obtain ⟨⟨n1, n2, n3, n4⟩, n5, n6, n7, n8, n9⟩ := h.ne
  refine ⟨?_, ?_, ?_, ?_, ?_, ?_, ?_, h.ne, ⟨hl, h.len.2⟩, ?_⟩
  · rw [List.getElem?_set_ne (by omega)]; exact h.g1
  · rw [List.getElem?_set_ne (by omega)]; exact h.g2
  · rw [List.getElem?_set_ne (by omega)]; exact h.g3
  · rw [List.getElem?_set_ne (by omega)]; exact h.gc1
  · rw [List.getElem?_set_ne (by omega)]; exact h.gc2
  · rw [List.getElem?_set_self (lt_of_getElem? h.gr1)]
  · rw [List.getElem?_set_ne (by omega)]; exact h.gr2
  · rw [List.length_set]; exact BBs_set h.bb trivial

theorem MnH.set2 {t : Town} {word : ByteArray} {a : Ask} {H : Heap} {r1 r2 c1 c2 : Nat} {E S : List Bool} (h : MnH t word a H r1 r2 c1 c2 E S) {S' : List Bool} (hl : S'.length = t.first.length) : MnH t word a (H.set r2 (.arr 1 false (S'.map .bool))) r1 r2 c1 c2 E S' := by
  obtain ⟨⟨n1, n2, n3, n4⟩, n5, n6, n7, n8, n9⟩ := h.ne
  refine ⟨?_, ?_, ?_, ?_, ?_, ?_, ?_, h.ne, ⟨h.len.1, hl⟩, ?_⟩
  · rw [List.getElem?_set_ne (by omega)]; exact h.g1
  · rw [List.getElem?_set_ne (by omega)]; exact h.g2
  · rw [List.getElem?_set_ne (by omega)]; exact h.g3
  · rw [List.getElem?_set_ne (by omega)]; exact h.gc1
  · rw [List.getElem?_set_ne (by omega)]; exact h.gc2
  · rw [List.getElem?_set_ne (by omega)]; exact h.gr1
  · rw [List.getElem?_set_self (lt_of_getElem? h.gr2)]
  · rw [List.length_set]; exact BBs_set h.bb trivial

/-- A block that is there, with more blocks behind. -/
theorem get_app {H : Heap} {i : Nat} {b : Blk} (h : H[i]? = some b) (Y : Heap) : (H ++ Y)[i]? = some b := by rw [List.getElem?_append_left (lt_of_getElem? h)]; exact h
theorem set_app {H : Heap} {i : Nat} {b : Blk} (h : H[i]? = some b) (Y : Heap) (X : Blk) : (H ++ Y).set i X = H.set i X ++ Y := List.set_append_left _ _ (lt_of_getElem? h)

structure MnS where
  H : Heap
  r1 : Nat
  r2 : Nat
  c1 : Nat
  c2 : Nat

def mnE (s : MnS) : Env := [(11, .ptr s.c2 0), (10, .ptr s.c1 0), (9, .ptr 3 0), (5, .ptr 2 0), (4, .ptr 1 0)]

theorem mn_leaf {t : Town} {word : ByteArray} {a : Ask} {H H0 : Heap} {r1 r2 c1 c2 : Nat} {E : Env} {B S : List Bool} {e : Prop} (hF : ForgetTo 0 E H0 (mnE ⟨H, r1, r2, c1, c2⟩) H) (he : e) (hM : MnH t word a H r1 r2 c1 c2 B S) :
    ∃ s : MnS, (e ∧ MnH t word a s.H s.r1 s.r2 s.c1 s.c2 B S) ∧ ForgetTo 0 E H0 (mnE s) s.H := ⟨⟨H, r1, r2, c1, c2⟩, ⟨he, hM⟩, hF⟩

/-- When the call of Meant fails. -/
def mnErr (t : Town) (word : ByteArray) (a : Ask) : Int :=
  if openE t ≠ 0 then openE t else if nm word = false then 4 else if ¬((0 ≤ a.lo ∧ a.lo ≤ 1000) ∧ (0 ≤ a.hi ∧ a.hi ≤ 1000) ∧ a.lo ≤ a.hi) ∨ ¬(0 ≤ a.most ∧ a.most ≤ 3) then 3 else 0

abbrev P42 (t : Town) (word : ByteArray) (a : Ask) (v : V) : V → Heap → Prop := fun r H' => H' = [] ∧ r = if mnErr t word a ≠ 0 then .tup [.slx (some true) [], .slx (some true) [], .d (.int .i64 (mnErr t word a))] else v

theorem c42_a (t : Town) (hs : t.Small) (word : ByteArray) (hw : word.size ≤ 1000) (a : Ask) (v : V)
    (hrest : openE t = 0 → mnErr t word a = 0 → ∀ s : MnS, MnH t word a s.H s.r1 s.r2 s.c1 s.c2 (List.replicate t.first.length false) (List.replicate t.first.length false) → 0 ≤ s.H.length → AWP prog f42.ntmps 0 none (restC 4 (bodyOf f42)) (mnE s) s.H (FnPost Tt [.tmp 6, .tmp 7, .tmp 8] 0 (P42 t word a v))) :
    ACalls prog 42 [.d t.d, .d (.str word), .d a.d] [] (P42 t word a v) := by
  have hsf := hs.f
  refine ACalls.of_bodyQ tt_ok (fn := f42) (c := bodyOf f42) (rs := [.tmp 6, .tmp 7, .tmp 8]) rfl rfl rfl rfl rfl rfl ?_
  refine AWP.stepS (S := MnS) 4 mnE (fun s => s.H) (fun s => openE t = 0 ∧ mnErr t word a = 0 ∧ MnH t word a s.H s.r1 s.r2 s.c1 s.c2 (List.replicate t.first.length false) (List.replicate t.first.length false)) (fun k => k == 61 || k == 65) tt_ok (fun _ h => nomatch h) (Nat.zero_le _) rfl ?_ (fun s h hn => hrest h.1 h.2.1 s h.2.2 hn)
  clear hrest
  simp only [go_sem, Town.d, Ask.d]
  refine (c76 t hs).call rfl rfl rfl ?_
  by_cases ho : openE t = 0
  · obtain ⟨hok, hb, hpg⟩ := open_pg ho
    have hbk : bookD t (nbT t).1 = .agg [.sl (t.first.map .str), .sl (t.ch.map Chg.d), .sl ((nbT t).1.map Page.d)] := rfl
    rw [ho, hb, hbk]
    simp only [go_sem]
    refine (c67 word (by omega)).call rfl rfl rfl ?_
    cases hn : nm word with
    | false =>
      have he : mnErr t word a = 4 := by rw [mnErr, if_neg (by rw [ho]; simp), if_pos hn]
      simp only [go_sem, P42, he, show (4 : Int) ≠ 0 from by omega, ne_eq, not_false_eq_true, if_true]
    | true =>
      have he : mnErr t word a = if ¬((0 ≤ a.lo ∧ a.lo ≤ 1000) ∧ (0 ≤ a.hi ∧ a.hi ≤ 1000) ∧ a.lo ≤ a.hi) ∨ ¬(0 ≤ a.most ∧ a.most ≤ 3) then 3 else 0 := by rw [mnErr, if_neg (by rw [ho]; simp), if_neg (by rw [hn]; simp)]
      have c77a := c77 a.lo
      have c77b := c77 a.hi
      have c70a := c70 0 3 [a.most] (by simp)
      rw [within1] at c77a c77b c70a
      have bad : (¬((0 ≤ a.lo ∧ a.lo ≤ 1000) ∧ (0 ≤ a.hi ∧ a.hi ≤ 1000) ∧ a.lo ≤ a.hi) ∨ ¬(0 ≤ a.most ∧ a.most ≤ 3)) → mnErr t word a = 3 := fun h => by rw [he, if_pos h]
      simp only [go_sem]
      refine c77a.call rfl rfl rfl ?_
      by_cases h1 : 0 ≤ a.lo ∧ a.lo ≤ 1000
      · rw [decide_eq_true h1]
        simp only [go_sem]
        refine c77b.call rfl rfl rfl ?_
        by_cases h2 : 0 ≤ a.hi ∧ a.hi ≤ 1000
        · rw [decide_eq_true h2]
          by_cases h3 : a.lo ≤ a.hi
          · have d1 : decide (a.hi < a.lo) = false := decide_eq_false (by omega)
            simp only [go_sem, d1]
            refine c70a.call rfl rfl rfl ?_
            by_cases h4 : 0 ≤ a.most ∧ a.most ≤ 3
            · rw [decide_eq_true h4]
              have he0 : mnErr t word a = 0 := by rw [he, if_neg]; rintro (h | h); exact h ⟨h1, h2, h3⟩; exact h h4
              have w0 : (0 : Int) ≤ (t.first.length : Int) := by omega
              have w1 : (t.first.length : Int) ≤ 4294967296 := by omega
              have hrp : List.replicate t.first.length (D.bool false) = (List.replicate t.first.length false).map .bool := by simp
              simp only [go_sem]
              refine ADrw.treeG (fun k => k == 61 || k == 65) tt_ok (by kernel_rfl) (fun k => if k = 1 ∨ k = 5 then some .L else if k = 10 ∨ k = 11 then some .W else if k = 3 ∨ k = 7 ∨ k = 8 ∨ k = 9 then some .A else some .S) (.ones [0, 1, 2, 4] (.four 3 (.three 5 (.ones [6] (.three 7 (.two 8 (.ones [9, 10, 11] .done) 9 (.ones [8, 10, 11] .done)) 8 (.two 7 (.ones [9, 10, 11] .done) 9 (.two 7 (.ones [10, 11] .done) 10 (.ones [7, 11] .done))) 9 (.two 7 (.ones [8, 10, 11] .done) 8 (.two 7 (.ones [10, 11] .done) 10 (.ones [7, 11] .done))))) 8 (.two 5 (.ones [6] (.two 7 (.ones [9, 10, 11] .done) 9 (.two 7 (.ones [10, 11] .done) 10 (.ones [7, 11] .done)))) 9 (.two 5 (.ones [6] (.two 7 (.ones [10, 11] .done) 10 (.ones [7, 11] .done))) 10 (.ones [5, 6, 7, 11] .done))) 9 (.two 5 (.ones [6] (.two 7 (.ones [8, 10, 11] .done) 8 (.two 7 (.ones [10, 11] .done) 10 (.ones [7, 11] .done)))) 8 (.two 5 (.ones [6] (.two 7 (.ones [10, 11] .done) 10 (.ones [7, 11] .done))) 10 (.ones [5, 6, 7, 11] .done)))) 5 (.ones [6] (.four 3 (.three 7 (.two 8 (.ones [9, 10, 11] .done) 9 (.ones [8, 10, 11] .done)) 8 (.two 7 (.ones [9, 10, 11] .done) 9 (.two 7 (.ones [10, 11] .done) 10 (.ones [7, 11] .done))) 9 (.two 7 (.ones [8, 10, 11] .done) 8 (.two 7 (.ones [10, 11] .done) 10 (.ones [7, 11] .done)))) 7 (.three 3 (.two 8 (.ones [9, 10, 11] .done) 9 (.ones [8, 10, 11] .done)) 8 (.two 3 (.ones [9, 10, 11] .done) 9 (.ones [3, 10, 11] .done)) 9 (.two 3 (.ones [8, 10, 11] .done) 8 (.ones [3, 10, 11] .done))) 8 (.three 3 (.two 7 (.ones [9, 10, 11] .done) 9 (.two 7 (.ones [10, 11] .done) 10 (.ones [7, 11] .done))) 7 (.two 3 (.ones [9, 10, 11] .done) 9 (.ones [3, 10, 11] .done)) 9 (.two 3 (.two 7 (.ones [10, 11] .done) 10 (.ones [7, 11] .done)) 7 (.ones [3, 10, 11] .done))) 9 (.three 3 (.two 7 (.ones [8, 10, 11] .done) 8 (.two 7 (.ones [10, 11] .done) 10 (.ones [7, 11] .done))) 7 (.two 3 (.ones [8, 10, 11] .done) 8 (.ones [3, 10, 11] .done)) 8 (.two 3 (.two 7 (.ones [10, 11] .done) 10 (.ones [7, 11] .done)) 7 (.ones [3, 10, 11] .done))))) 8 (.three 3 (.two 5 (.ones [6] (.two 7 (.ones [9, 10, 11] .done) 9 (.two 7 (.ones [10, 11] .done) 10 (.ones [7, 11] .done)))) 9 (.two 5 (.ones [6] (.two 7 (.ones [10, 11] .done) 10 (.ones [7, 11] .done))) 10 (.ones [5, 6, 7, 11] .done))) 5 (.ones [6] (.three 3 (.two 7 (.ones [9, 10, 11] .done) 9 (.two 7 (.ones [10, 11] .done) 10 (.ones [7, 11] .done))) 7 (.two 3 (.ones [9, 10, 11] .done) 9 (.ones [3, 10, 11] .done)) 9 (.two 3 (.two 7 (.ones [10, 11] .done) 10 (.ones [7, 11] .done)) 7 (.ones [3, 10, 11] .done)))) 9 (.two 3 (.two 5 (.ones [6] (.two 7 (.ones [10, 11] .done) 10 (.ones [7, 11] .done))) 10 (.ones [5, 6, 7, 11] .done)) 5 (.ones [6] (.two 3 (.two 7 (.ones [10, 11] .done) 10 (.ones [7, 11] .done)) 7 (.ones [3, 10, 11] .done))))) 9 (.three 3 (.two 5 (.ones [6] (.two 7 (.ones [8, 10, 11] .done) 8 (.two 7 (.ones [10, 11] .done) 10 (.ones [7, 11] .done)))) 8 (.two 5 (.ones [6] (.two 7 (.ones [10, 11] .done) 10 (.ones [7, 11] .done))) 10 (.ones [5, 6, 7, 11] .done))) 5 (.ones [6] (.three 3 (.two 7 (.ones [8, 10, 11] .done) 8 (.two 7 (.ones [10, 11] .done) 10 (.ones [7, 11] .done))) 7 (.two 3 (.ones [8, 10, 11] .done) 8 (.ones [3, 10, 11] .done)) 8 (.two 3 (.two 7 (.ones [10, 11] .done) 10 (.ones [7, 11] .done)) 7 (.ones [3, 10, 11] .done)))) 8 (.two 3 (.two 5 (.ones [6] (.two 7 (.ones [10, 11] .done) 10 (.ones [7, 11] .done))) 10 (.ones [5, 6, 7, 11] .done)) 5 (.ones [6] (.two 3 (.two 7 (.ones [10, 11] .done) 10 (.ones [7, 11] .done)) 7 (.ones [3, 10, 11] .done))))))) (Nat.zero_le _) (fun _ h => nomatch h) rfl rfl (by kernel_rfl) ?_
              have hmk : (hasSl (D.bool false) && (zcells (D.bool false)).all V.one) = false := rfl
              simp only [go_sem, List.length_map, w0, w1, Int.toNat_natCast, hrp, hmk]
              clear c77a c77b c70a bad he
              repeat' apply And.intro
              all_goals
                exact mn_leaf (ForgetTo.same' (Nat.zero_le _) ⟨rfl, rfl, rfl, rfl, rfl, trivial⟩ rfl) he0 ⟨rfl, rfl, rfl, rfl, rfl, rfl, rfl, by decide, ⟨by simp, by simp⟩, ⟨rfl, rfl, rfl, rfl, by trivial, by trivial, by trivial, by trivial, trivial⟩⟩
            · have he3 := bad (.inr h4)
              rw [decide_eq_false h4]
              simp only [go_sem, P42, he3, show (3 : Int) ≠ 0 from by omega, ne_eq, not_false_eq_true, if_true]
          · have d1 : decide (a.hi < a.lo) = true := decide_eq_true (by omega)
            have he3 := bad (.inl fun h => h3 h.2.2)
            simp only [go_sem, d1, P42, he3, show (3 : Int) ≠ 0 from by omega, ne_eq, not_false_eq_true, if_true]
        · have he3 := bad (.inl fun h => h2 h.2.1)
          rw [decide_eq_false h2]
          simp only [go_sem, P42, he3, show (3 : Int) ≠ 0 from by omega, ne_eq, not_false_eq_true, if_true]
      · have he3 := bad (.inl fun h => h1 h.1)
        rw [decide_eq_false h1]
        simp only [go_sem, P42, he3, show (3 : Int) ≠ 0 from by omega, ne_eq, not_false_eq_true, if_true]
  · have d1 : decide (openE t = 0) = false := decide_eq_false ho
    have he : mnErr t word a = openE t := by rw [mnErr, if_pos ho]
    obtain ⟨x, y, z, hb⟩ := openB_is t
    rw [hb]
    simp only [go_sem, d1, P42, he, ho, ne_eq, not_false_eq_true, if_true]
end Go.Aw
end

section
set_option maxRecDepth 100000
namespace Go.Aw
open Go Go.Proofs.Tryz

def isW (word : ByteArray) (a : Ask) (names : List ByteArray) (k : Nat) : Bool := decide ((faultsP word (names.getD k default) : Int) ≤ a.most)
def evTo (word : ByteArray) (a : Ask) (names : List ByteArray) (E : List Bool) (i : Nat) : List Bool := (List.range E.length).map fun k => if k < i then E.getD k false && isW word a names k else E.getD k false
def soTo (word : ByteArray) (a : Ask) (names : List ByteArray) (E : List Bool) (i : Nat) : List Bool := (List.range E.length).map fun k => if k < i then E.getD k false || isW word a names k else E.getD k false

theorem evTo_len (word : ByteArray) (a : Ask) (names : List ByteArray) (E : List Bool) (i : Nat) : (evTo word a names E i).length = E.length := by simp [evTo]
theorem soTo_len (word : ByteArray) (a : Ask) (names : List ByteArray) (E : List Bool) (i : Nat) : (soTo word a names E i).length = E.length := by simp [soTo]

/-- A list told place by place, one place further. -/
theorem mapTo_succ (n i : Nat) (f g : Nat → Bool) : ((List.range n).map fun k => if k < i + 1 then g k else f k).map D.bool = (((List.range n).map fun k => if k < i then g k else f k).map D.bool).set i (.bool (g i)) := by
  refine List.ext_getElem? fun m => ?_
  rw [List.getElem?_set]
  simp only [List.getElem?_map, List.length_map, List.length_range]
  by_cases h : i = m
  · subst h
    rw [if_pos rfl]
    by_cases hn : i < n
    · rw [if_pos hn, List.getElem?_range hn]; simp
    · rw [if_neg hn, List.getElem?_eq_none (by simp; omega)]; rfl
  · rw [if_neg h]
    by_cases hn : m < n
    · rw [List.getElem?_range hn]
      simp only [Option.map_some]
      by_cases h2 : m < i
      · rw [if_pos h2, if_pos (by omega)]
      · rw [if_neg h2, if_neg (by omega)]
    · rw [List.getElem?_eq_none (by simp; omega)]; rfl

theorem mapTo_get {n i : Nat} (hi : i < n) (f g : Nat → Bool) : (((List.range n).map fun k => if k < i then g k else f k).map D.bool)[i]? = some (.bool (f i)) := by
  simp only [List.getElem?_map, List.getElem?_range hi, Option.map_some, Nat.lt_irrefl, if_false]

theorem mapTo_zero (E : List Bool) (g : Nat → Bool) : ((List.range E.length).map fun k => if k < 0 then g k else E.getD k false) = E := by
  refine List.ext_getElem (by simp) fun i h1 h2 => ?_
  simp [List.getD_eq_getElem?_getD, List.getElem?_eq_getElem h2]

def mnStep (word : ByteArray) (a : Ask) (s : List Bool × List Bool) (x : Int × Int × List ByteArray) : List Bool × List Bool :=
  if x.2.1 < a.lo ∨ a.hi < x.1 then s else (evTo word a x.2.2 s.1 s.1.length, soTo word a x.2.2 s.2 s.2.length)

def mnF (word : ByteArray) (a : Ask) (n : Nat) (L : List (Int × Int × List ByteArray)) : List Bool × List Bool := L.foldl (mnStep word a) (List.replicate n true, List.replicate n false)
theorem mnF_snoc (word : ByteArray) (a : Ask) (n : Nat) (L : List (Int × Int × List ByteArray)) (x : Int × Int × List ByteArray) : mnF word a n (L ++ [x]) = mnStep word a (mnF word a n L) x := by rw [mnF, List.foldl_append]; rfl

def meantP (t : Town) (word : ByteArray) (a : Ask) : List Int × List Int × Int :=
  if mnErr t word a ≠ 0 then ([], [], mnErr t word a) else (numP (mnF word a t.first.length (timesL (nbT t).1)).1, numP (mnF word a t.first.length (timesL (nbT t).1)).2, 0)

def meantV (t : Town) (word : ByteArray) (a : Ask) : V := .tup [.d (.sl ((meantP t word a).1.map (.int .i64))), .d (.sl ((meantP t word a).2.1.map (.int .i64))), .d (.int .i64 0)]

theorem c42_d {t : Town} {word : ByteArray} {a : Ask} (he : mnErr t word a = 0) {s : MnS} {E S : List Bool} (hM : MnH t word a s.H s.r1 s.r2 s.c1 s.c2 E S) (hr : numP E = (meantP t word a).1 ∧ numP S = (meantP t word a).2.1) (hn : t.first.length ≤ 100) :
    AWP prog f42.ntmps 0 none (restC 6 (bodyOf f42)) (mnE s) s.H (FnPost Tt [.tmp 6, .tmp 7, .tmp 8] 0 (P42 t word a (meantV t word a))) := by
  obtain ⟨H, r1, r2, c1, c2⟩ := s
  obtain ⟨⟨n1, n2, n3, n4⟩, n5, n6, n7, n8, n9⟩ := hM.ne
  obtain ⟨l1, l2⟩ := hM.len
  have e1 := hM.gc1
  have e2 := hM.gc2
  have e3 := hM.gr1
  have e4 := hM.gr2
  simp only at e1 e2 e3 e4
  have cE := c91 E (by omega)
  have cS := c91 S (by omega)
  rw [hr.1] at cE
  rw [hr.2] at cS
  have hEl : (E.map D.bool).length = t.first.length := by simp [l1]
  have hSl : (S.map D.bool).length = t.first.length := by simp [l2]
  have hEk : (E.map D.bool).take t.first.length = E.map D.bool := List.take_of_length_le (by omega)
  have hSk : (S.map D.bool).take t.first.length = S.map D.bool := List.take_of_length_le (by omega)
  refine AWP.runS (fun _ => false) tt_ok (fun _ h => nomatch h) (Nat.zero_le _) rfl ?_
  simp only [mnE]
  simp only [go_sem]
  refine ADrw.treeG (fun _ => false) tt_ok (by kernel_rfl) (fun k => if k = 0 ∨ k = 2 then some .L else if k = 1 ∨ k = 3 then some .W else some .S) (.ones [0] (.two 1 (.ones [2, 3, 4, 5, 6] .done) 2 (.ones [1, 3, 4, 5, 6] .done))) (Nat.zero_le _) (fun _ h => nomatch h) rfl rfl (by kernel_rfl) ?_
  simp only [go_sem, e1, e2]
  have s1 : ∀ X : Blk, (H.set r1 X)[c2]? = H[c2]? := fun X => List.getElem?_set_ne (by omega)
  have s2 : ∀ X : Blk, (H.set r1 X)[r2]? = H[r2]? := fun X => List.getElem?_set_ne (by omega)
  refine ⟨?_, ?_⟩
  · refine PC.callF r1 cE e3 rfl (by simp [frzVs, frzV, dz, hEl, hEk]) rfl rfl ?_
    simp only [go_sem, s1, e2]
    refine PC.callF r2 cS (by rw [s2]; exact e4) rfl (by simp [frzVs, frzV, dz, hSl, hSk]) rfl rfl ?_
    simp only [go_sem, P42, he, meantV, ne_eq, not_true_eq_false, if_false]
  · refine PC.callF r1 cE e3 rfl (by simp [frzVs, frzV, dz, hEl, hEk]) rfl rfl ?_
    simp only [go_sem, s1, e2]
    refine PC.callF r2 cS (by rw [s2]; exact e4) rfl (by simp [frzVs, frzV, dz, hSl, hSk]) rfl rfl ?_
    simp only [go_sem, P42, he, meantV, ne_eq, not_true_eq_false, if_false]
theorem c42_c {t : Town} {word : ByteArray} {a : Ask} (ho : openE t = 0) (he : mnErr t word a = 0) (hw : word.size ≤ 10) {s : MnS} (hM : MnH t word a s.H s.r1 s.r2 s.c1 s.c2 (List.replicate t.first.length true) (List.replicate t.first.length false)) :
    AWP prog f42.ntmps 0 none (restC 5 (bodyOf f42)) (mnE s) s.H (FnPost Tt [.tmp 6, .tmp 7, .tmp 8] 0 (P42 t word a (meantV t word a))) := by
  obtain ⟨hok, hb, hpg⟩ := open_pg ho
  have hl6 := hok.len
  obtain ⟨H0, r1, r2, c1, c2⟩ := s
  have hne := hM.ne
  obtain ⟨⟨n1, n2, n3, n4⟩, n5, n6, n7, n8, n9⟩ := hne
  refine AWP.stepS (S := Heap) 1 (fun H => mnE ⟨H, r1, r2, c1, c2⟩) (fun H => H) (fun H => MnH t word a H r1 r2 c1 c2 (mnF word a t.first.length (timesL (nbT t).1)).1 (mnF word a t.first.length (timesL (nbT t).1)).2) (fun _ => false) tt_ok (fun _ h => nomatch h) (Nat.zero_le _) rfl ?_ (fun H h hn => by
    have := c42_d (s := ⟨H, r1, r2, c1, c2⟩) he h (by rw [meantP, if_neg (by rw [he]; simp)]; exact ⟨rfl, rfl⟩) (by omega)
    exact this)
  have hbk : bookD t (nbT t).1 = .agg [.sl (t.first.map .str), .sl (t.ch.map Chg.d), .sl ((nbT t).1.map Page.d)] := rfl
  have hit := c80 t (nbT t).1 (by have := hpg.len; omega) hpg.hrs
  rw [bkV, hbk] at hit
  have hnm : ∀ x ∈ timesL (nbT t).1, x.2.2.length = t.first.length ∧ ∀ y ∈ x.2.2, y.size ≤ 10 := fun x hx => by
    obtain ⟨p, hp, e⟩ := timesL_names hx
    rw [e, hpg.nms p hp, namesT_len]
    exact ⟨rfl, fun y hy => (nm_size (names_nm hok hy)).2⟩
  have g3 := hM.g3
  simp only [mnE]
  simp only at g3
  generalize hP : (nbT t).1 = P at *
  simp only [go_sem, g3]
  refine ARng.iter (items := (timesL P).map tmV) (J := fun rest Hc => ∃ Lp Lr, Lp ++ Lr = timesL P ∧ rest = Lr.map tmV ∧ MnH t word a Hc r1 r2 c1 c2 (mnF word a t.first.length Lp).1 (mnF word a t.first.length Lp).2 ∧ Hc.length = H0.length)
    (Nat.zero_le _) (fun _ h => nomatch h) rfl hit rfl ?_ ?_ ?_ ?_ ?_ ?_
  · simp [VBs, VB]
    have := lt_of_getElem? hM.gc1
    have := lt_of_getElem? hM.gc2
    simp only at *
    omega
  · rintro rest Hc ⟨Lp, Lr, _, _, hm, hl⟩
    exact ⟨hl, by rw [← hl]; exact hm.bb⟩
  · exact ⟨[], timesL P, rfl, rfl, hM, rfl⟩
  · rintro Hc ⟨Lp, Lr, hL, hr, hm, hl⟩
    have hLr : Lr = [] := List.map_eq_nil_iff.1 hr.symm
    subst hLr
    rw [List.append_nil] at hL
    subst hL
    simp only [go_sem]
    exact ⟨Hc, hm, ForgetTo.same' (Nat.zero_le _) ⟨rfl, rfl, rfl, rfl, rfl, trivial⟩ rfl⟩
  · intro xs hxs
    obtain ⟨c, _, rfl⟩ := List.mem_map.1 hxs
    rfl
  · rintro L L' xs rest Hc hxs ⟨Lp, Lr, hL, hr, hm, hl⟩
    obtain ⟨x, Lr', rfl⟩ : ∃ x Lr', Lr = x :: Lr' := by
      cases Lr with
      | nil => cases hr
      | cons x r => exact ⟨x, r, rfl⟩
    rw [List.map_cons] at hr
    obtain ⟨rfl, rfl⟩ := List.cons.inj hr
    obtain ⟨hxl, hxs⟩ := hnm x (by rw [← hL]; simp)
    have hsn := mnF_snoc word a t.first.length Lp x
    have fin : ∀ Hc2, MnH t word a Hc2 r1 r2 c1 c2 (mnF word a t.first.length (Lp ++ [x])).1 (mnF word a t.first.length (Lp ++ [x])).2 → Hc2.length = H0.length → ∃ Lp2 Lr2, Lp2 ++ Lr2 = timesL P ∧ Lr'.map tmV = Lr2.map tmV ∧ MnH t word a Hc2 r1 r2 c1 c2 (mnF word a t.first.length Lp2).1 (mnF word a t.first.length Lp2).2 ∧ Hc2.length = H0.length := fun Hc2 h1 h2 =>
      ⟨Lp ++ [x], Lr', by rw [List.append_assoc]; exact hL, rfl, h1, h2⟩
    rw [hsn, mnStep] at fin
    generalize mnF word a t.first.length Lp = st at *
    obtain ⟨E, S⟩ := st
    obtain ⟨lo, hi, nms⟩ := x
    dsimp only at fin hxl hxs hm
    obtain ⟨m1, m2⟩ := hm.len
    have ap : ∀ {i : Nat} {b : Blk}, Hc[i]? = some b → ∀ Y : Heap, (Hc ++ Y)[i]? = some b := fun h Y => get_app h Y
    have hHl : (Hc ++ [L']).length = H0.length + 1 := by simp [hl]
    refine AWP.run (fun _ => false) tt_ok (fun _ h => by cases h; exact Nat.lt_succ_self _) (by simp [hl]) rfl ?_
    simp only [go_sem, tmV, ← hl, ap0, ap1, as0, as1]
    have hsc : ∀ A B : Blk, Hc ++ [A] ++ [B] = Hc ++ [A, B] := fun A B => by simp
    have hl1 : ∀ A : Blk, (Hc ++ [A]).length = Hc.length + 1 := fun A => by simp
    refine ⟨by rw [hsc, ap0], ?_⟩
    rw [hsc, as0]
    generalize hSC : Blk.cells [.d (.int .i64 lo), .d (.int .i64 hi)] = SC at *
    have hbb : BBs Hc.length Hc := hm.bb
    have q1 := fun Y => get_app hm.g1 Y
    have q2 := fun Y => get_app hm.g2 Y
    have qc1 := fun Y => get_app hm.gc1 Y
    have qc2 := fun Y => get_app hm.gc2 Y
    have pst : ∀ (Hc2 : Heap) (SC : Blk), Hc2.length = Hc.length → MnH t word a Hc2 r1 r2 c1 c2 (if hi < a.lo ∨ a.hi < lo then (E, S) else (evTo word a nms E E.length, soTo word a nms S S.length)).1 (if hi < a.lo ∨ a.hi < lo then (E, S) else (evTo word a nms E E.length, soTo word a nms S S.length)).2 →
        (Hc2 ++ [L', SC])[Hc.length]? = some L' ∧ BBs Hc.length ((Hc2 ++ [L', SC]).take Hc.length) ∧ ∃ Lp2 Lr2, Lp2 ++ Lr2 = timesL P ∧ Lr'.map tmV = Lr2.map tmV ∧ MnH t word a ((Hc2 ++ [L', SC]).take Hc.length) r1 r2 c1 c2 (mnF word a t.first.length Lp2).1 (mnF word a t.first.length Lp2).2 ∧ ((Hc2 ++ [L', SC]).take Hc.length).length = Hc.length := fun Hc2 SC h1 h2 => by
      rw [← h1, List.take_left]
      refine ⟨by rw [ap0], h2.bb, ?_⟩
      have := fin Hc2 h2 (by rw [h1, hl])
      rw [← hl, ← h1] at this
      exact this
    clear fin
    by_cases hsk : hi < a.lo ∨ a.hi < lo
    · rw [if_pos hsk] at pst
      have pst := pst Hc SC rfl hm
      rw [← hSC] at pst
      refine AWP.run (fun _ => false) tt_ok (fun _ h => by cases h; exact Nat.lt_succ_self _) (by simp) rfl ?_
      by_cases hs1 : hi < a.lo
      · simp only [go_sem, hl1, q2, ap1, ← hSC, decide_eq_true hs1]
        exact pst
      · have hs2 : a.hi < lo := by omega
        simp only [go_sem, hl1, q2, ap1, ← hSC, decide_eq_false hs1, decide_eq_true hs2]
        exact pst
    · rw [if_neg hsk] at pst
      have hs1 : ¬ hi < a.lo := fun h => hsk (.inl h)
      have hs2 : ¬ a.hi < lo := fun h => hsk (.inr h)
      refine AWP.run (fun _ => false) tt_ok (fun _ h => by cases h; exact Nat.lt_succ_self _) (by simp) rfl ?_
      simp only [go_sem, hl1, q2, ap1, ← hSC, decide_eq_false hs1, decide_eq_false hs2, List.length_map]
      have hEz : evTo word a nms E 0 = E := mapTo_zero E _
      have hSz : soTo word a nms S 0 = S := mapTo_zero S _
      refine ALoop.by (S := Nat × Heap) (fun s => [(95, .d (.int .i64 s.1)), (94, .d (.int .i64 nms.length)), (93, .d (.sl (nms.map .str))), (11, .ptr c2 0), (10, .ptr c1 0), (5, .ptr 2 0), (4, .ptr 1 0)]) (fun s => s.2 ++ [L', .cells [.d (.int .i64 lo), .d (.int .i64 hi)]]) (fun s => nms.length - s.1)
        (fun s => s.1 ≤ nms.length ∧ MnH t word a s.2 r1 r2 c1 c2 (evTo word a nms E s.1) (soTo word a nms S s.1) ∧ s.2.length = Hc.length) (0, Hc) (by simp) (fun _ h => by cases h; exact Nat.lt_succ_self _) ⟨Nat.zero_le _, by rw [hEz, hSz]; exact hm, rfl⟩ (ForgetTo.same' (by simp) ⟨rfl, rfl, rfl, rfl, rfl, rfl, rfl, trivial⟩ rfl) ?_
      rintro ⟨i, H1⟩ ⟨hi1, hm1, hl2⟩ hn2
      dsimp only at hi1 hm1 hl2 hn2 ⊢
      have q1 := fun Y => get_app hm1.g1 Y
      have q2 := fun Y => get_app hm1.g2 Y
      have qc1 := fun Y => get_app hm1.gc1 Y
      have qc2 := fun Y => get_app hm1.gc2 Y
      have qr1 := fun Y => get_app hm1.gr1 Y
      have qr2 := fun Y => get_app hm1.gr2 Y
      have sr1 := fun Y X => set_app hm1.gr1 Y X
      obtain ⟨k1, k2⟩ := hm1.len
      refine AWP.run (fun _ => false) tt_ok (fun _ h => by cases h; exact Nat.lt_succ_self _) (by simp [hl2]) rfl ?_
      simp only [go_sem]
      refine Br_split (fun hd => ?_) (fun hd => ?_) <;> simp only [go_sem, hd]
      · have hlt : i < nms.length := by simpa using hd
        have hix : idx? (nms.map D.str) (i : Int) = some (.str (nms.getD i default)) := by rw [getDG hlt]; simp [idx?, List.getElem?_eq_getElem hlt]
        have hsz : (nms.getD i default).size ≤ 10 := by rw [getDG hlt]; exact hxs _ (List.getElem_mem hlt)
        have hnx : IntKind.i64.wrap ((i : Int) + 1) = ((i + 1 : Nat) : Int) := by rw [w64 (by omega) (by omega)]; omega
        have c90a := c90 word (nms.getD i default) hw hsz
        have hiE : i < E.length := by omega
        have hiS : i < S.length := by omega
        have gE : ((evTo word a nms E i).map D.bool)[i]? = some (.bool (E.getD i false)) := mapTo_get hiE _ _
        have gS : ((soTo word a nms S i).map D.bool)[i]? = some (.bool (S.getD i false)) := mapTo_get hiS _ _
        have uE : (evTo word a nms E (i + 1)).map D.bool = ((evTo word a nms E i).map D.bool).set i (.bool (E.getD i false && isW word a nms i)) := mapTo_succ _ _ _ _
        have uS : (soTo word a nms S (i + 1)).map D.bool = ((soTo word a nms S i).map D.bool).set i (.bool (S.getD i false || isW word a nms i)) := mapTo_succ _ _ _ _
        have hisw : isW word a nms i = decide ((faultsP word (nms.getD i default) : Int) ≤ a.most) := rfl
        have lE : ((evTo word a nms E i).map D.bool).length = t.first.length := by simp [k1]
        have lS : ((soTo word a nms S i).map D.bool).length = t.first.length := by simp [k2]
        have hm2 := (hm1.set1 (E' := evTo word a nms E (i + 1)) (by rw [evTo_len]; exact m1)).set2 (S' := soTo word a nms S (i + 1)) (by rw [soTo_len]; exact m2)
        rw [uE, uS] at hm2
        have ht2 : ((H1.set r1 (.arr 1 false (((evTo word a nms E i).map D.bool).set i (.bool (E.getD i false && isW word a nms i))))).set r2 (.arr 1 false (((soTo word a nms S i).map D.bool).set i (.bool (S.getD i false || isW word a nms i))))).length = Hc.length := by simp [hl2]
        have qs2 : ∀ (X : Blk) (Y : Heap), (H1.set r1 X ++ Y)[r2]? = some (.arr 1 false ((soTo word a nms S i).map .bool)) := fun X Y => get_app (by rw [List.getElem?_set_ne (by omega)]; exact hm1.gr2) Y
        have qsc2 : ∀ (X : Blk) (Y : Heap), (H1.set r1 X ++ Y)[c2]? = some (.cells [.ref r2 t.first.length 0 t.first.length]) := fun X Y => get_app (by rw [List.getElem?_set_ne (by omega)]; exact hm1.gc2) Y
        have sr2 : ∀ (X X2 : Blk) (Y : Heap), (H1.set r1 X ++ Y).set r2 X2 = (H1.set r1 X).set r2 X2 ++ Y := fun X X2 Y => List.set_append_left _ _ (by have := lt_of_getElem? hm1.gr2; simpa using this)
        simp only [go_sem, hix]
        refine ADrw.treeG (fun _ => false) tt_ok (by kernel_rfl) (fun k => if k = 0 ∨ k = 4 then some .L else some .S) (.ones [0, 1, 2, 3, 4, 5, 6] .done) (by simp [hl2]) (fun _ h => by cases h; exact Nat.lt_succ_self _) rfl rfl (by kernel_rfl) ?_
        simp only [go_sem, q1]
        refine c90a.callS rfl rfl rfl rfl rfl rfl ?_
        simp only [go_sem, q2]
        have c1i : (0 : Int) ≤ (i : Int) := by omega
        have c2i : (i : Int) < (t.first.length : Int) := by omega
        have fin : ∀ (x y : Bool) (Ev : Env), x = (E.getD i false && isW word a nms i) → y = (S.getD i false || isW word a nms i) → EWe Ev [(95, .d (.int .i64 ((i + 1 : Nat) : Int))), (94, .d (.int .i64 nms.length)), (93, .d (.sl (nms.map .str))), (11, .ptr c2 0), (10, .ptr c1 0), (5, .ptr 2 0), (4, .ptr 1 0)] →
            ∃ s' : Nat × Heap, (s'.1 ≤ nms.length ∧ MnH t word a s'.2 r1 r2 c1 c2 (evTo word a nms E s'.1) (soTo word a nms S s'.1) ∧ s'.2.length = Hc.length) ∧ nms.length - s'.1 < nms.length - i ∧
              ForgetTo (Hc.length + 1) Ev ((H1.set r1 (.arr 1 false (((evTo word a nms E i).map D.bool).set i (.bool x)))).set r2 (.arr 1 false (((soTo word a nms S i).map D.bool).set i (.bool y))) ++ [L', .cells [.d (.int .i64 lo), .d (.int .i64 hi)]])
                [(95, .d (.int .i64 s'.1)), (94, .d (.int .i64 nms.length)), (93, .d (.sl (nms.map .str))), (11, .ptr c2 0), (10, .ptr c1 0), (5, .ptr 2 0), (4, .ptr 1 0)] (s'.2 ++ [L', .cells [.d (.int .i64 lo), .d (.int .i64 hi)]]) := fun x y Ev hx hy hE => by
          subst hx hy
          exact ⟨(i + 1, _), ⟨hlt, hm2, ht2⟩, by show nms.length - (i + 1) < nms.length - i; omega, ForgetTo.same' (by simp [hl2]) hE rfl⟩
        clear hm2 ht2 uE uS
        generalize (evTo word a nms E i).map D.bool = EM at *
        generalize (soTo word a nms S i).map D.bool = SM at *
        refine ADrw.treeG (fun _ => false) tt_ok (by kernel_rfl) (fun k => if k = 0 ∨ k = 2 ∨ k = 4 ∨ k = 6 ∨ k = 7 ∨ k = 11 ∨ k = 13 ∨ k = 14 ∨ k = 18 ∨ k = 20 then some .L else if k = 19 ∨ k = 21 then some .W else some .S) (.ones [0, 1, 3, 4, 5, 6, 7, 8, 9, 10, 11, 12, 13, 14, 15, 16, 17, 18] (.two 2 (.ones [19, 20, 21] .done) 19 (.ones [2, 20, 21] .done))) (by simp [hl2]) (fun _ h => by cases h; exact Nat.lt_succ_self _) rfl rfl (by kernel_rfl) ?_
        simp only [go_sem, qc1, qc2, qr1, qr2, c1i, c2i, Int.toNat_natCast, lE, lS, gE, gS]
        cases hb1 : E.getD i false <;> cases hb2 : S.getD i false <;> simp only [go_sem, hb1, hb2, qc1, qc2, qr1, qr2, sr1, qs2, qsc2, sr2, c1i, c2i, Int.toNat_natCast, lE, lS, gE, gS, hnx]
        all_goals exact fin _ _ _ (by rw [hb1, hisw]; simp) (by rw [hb2, hisw]; simp) (by simp [EWe, Env.look])
      · have hie : i = nms.length := by simp only [decide_eq_false_iff_not] at hd; omega
        have hm3 : MnH t word a H1 r1 r2 c1 c2 (evTo word a nms E E.length) (soTo word a nms S S.length) := by
          rw [m1, m2, ← hxl, ← hie]; exact hm1
        exact pst H1 _ hl2 hm3

theorem c42 (t : Town) (hs : t.Small) (word : ByteArray) (hw : word.size ≤ 1000) (a : Ask) :
    ACalls prog 42 [.d t.d, .d (.str word), .d a.d] [] (P42 t word a (meantV t word a)) := by
  refine c42_a t hs word hw a (meantV t word a) fun ho he s hM hn => ?_
  have hw10 : word.size ≤ 10 := by
    have : nm word = true := by
      cases h : nm word with
      | true => rfl
      | false => rw [mnErr, if_neg (by rw [ho]; simp), if_pos h] at he; cases he
    exact (nm_size this).2
  obtain ⟨hok, _, _⟩ := open_pg ho
  have hl6 := hok.len
  obtain ⟨H0, r1, r2, c1, c2⟩ := s
  have hz : ((List.range t.first.length).map fun k => if k < 0 then true else false) = List.replicate t.first.length false := by
    refine List.ext_getElem (by simp) fun i h1 h2 => ?_
    simp
  have hf : ((List.range t.first.length).map fun k => if k < t.first.length then true else false) = List.replicate t.first.length true := by
    refine List.ext_getElem (by simp) fun i h1 h2 => ?_
    simp at h1 ⊢
    exact h1
  refine AWP.stepS (S := Heap) 1 (fun H => mnE ⟨H, r1, r2, c1, c2⟩) (fun H => H) (fun H => MnH t word a H r1 r2 c1 c2 (List.replicate t.first.length true) (List.replicate t.first.length false)) (fun _ => false) tt_ok (fun _ h => nomatch h) (Nat.zero_le _) rfl ?_ (fun H h hn => c42_c (s := ⟨H, r1, r2, c1, c2⟩) ho he hw10 h)
  simp only at hM
  simp only [mnE]
  have e1 := hM.gc1
  have e3 := hM.gr1
  simp only [go_sem, e1, e3, List.length_map, List.length_replicate]
  refine ALoop.by (S := Nat × Heap) (fun s => [(68, .d (.int .i64 s.1)), (67, .d (.int .i64 t.first.length)), (11, .ptr c2 0), (10, .ptr c1 0), (9, .ptr 3 0), (5, .ptr 2 0), (4, .ptr 1 0)]) (fun s => s.2) (fun s => t.first.length - s.1)
    (fun s => s.1 ≤ t.first.length ∧ MnH t word a s.2 r1 r2 c1 c2 ((List.range t.first.length).map fun k => if k < s.1 then true else false) (List.replicate t.first.length false)) (0, H0) (Nat.zero_le _) (fun _ h => nomatch h) ⟨Nat.zero_le _, by rw [hz]; exact hM⟩ (ForgetTo.same' (Nat.zero_le _) ⟨rfl, rfl, rfl, rfl, rfl, rfl, rfl, trivial⟩ rfl) ?_
  rintro ⟨i, H⟩ ⟨hi, hm⟩ hn2
  dsimp only at hi hm hn2 ⊢
  have e1 := hm.gc1
  have e3 := hm.gr1
  refine AWP.run (fun _ => false) tt_ok (fun _ h => nomatch h) (Nat.zero_le _) rfl ?_
  simp only [go_sem]
  refine Br_split (fun hd => ?_) (fun hd => ?_) <;> simp only [go_sem, hd]
  · have hlt : i < t.first.length := by simpa using hd
    have hnx : IntKind.i64.wrap ((i : Int) + 1) = ((i + 1 : Nat) : Int) := by rw [w64 (by omega) (by omega)]; omega
    have c1i : (0 : Int) ≤ (i : Int) := by omega
    have c2i : (i : Int) < (t.first.length : Int) := by omega
    have gE := mapTo_get hlt (fun _ => false) (fun _ => true)
    have uE := mapTo_succ t.first.length i (fun _ => false) (fun _ => true)
    have hm2 := hm.set1 (E' := (List.range t.first.length).map fun k => if k < i + 1 then true else false) (by simp)
    rw [uE] at hm2
    have lE : (((List.range t.first.length).map fun k => if k < i then true else false).map D.bool).length = t.first.length := by simp
    generalize ((List.range t.first.length).map fun k => if k < i then true else false).map D.bool = EM at *
    simp only [go_sem, e1, e3, c1i, c2i, Int.toNat_natCast, lE, gE, hnx]
    exact ⟨(i + 1, _), ⟨hlt, hm2⟩, by show t.first.length - (i + 1) < t.first.length - i; omega, ForgetTo.same' (Nat.zero_le _) ⟨rfl, rfl, rfl, rfl, rfl, rfl, rfl, trivial⟩ rfl⟩
  · have hie : i = t.first.length := by simp only [decide_eq_false_iff_not] at hd; omega
    subst hie
    rw [hf] at hm
    exact ⟨H, hm, ForgetTo.same' (Nat.zero_le _) ⟨rfl, rfl, rfl, rfl, rfl, trivial⟩ rfl⟩
end Go.Aw
end

section
set_option maxRecDepth 100000
namespace Go.Aw
open Go Go.Proofs.Tryz

structure Seen where
  st : Int
  name : ByteArray
deriving Inhabited, DecidableEq

def Seen.d (x : Seen) : D := .agg [.int .i64 x.st, .str x.name]
theorem enc_seen : Enc 2 (Tt 89) Seen.d := fun x => ⟨rfl, rfl⟩
def seenOk (n : Nat) (x : Seen) : Bool := decide (0 ≤ x.st ∧ x.st < n) && nm x.name

theorem c122 {t : Town} (hn : t.first.length ≤ 1000000) (o : Seen) (hs : o.name.size ≤ 1000) {H : Heap} {Q : V → Heap → Prop} {i : Nat} (hb : H[i]? = some (townB t))
    (hB : BBs H.length H) (hq : Q (.d (.bool (!seenOk t.first.length o))) H) : ACalls prog 122 [.d o.d, .ptr i 0] H Q := by
  refine ACalls.run (fun _ => false) tt_ok (fn := f122) (rs := [.tmp 3]) rfl rfl rfl rfl rfl rfl rfl ?_
  have hil := lt_of_getElem? hb
  have hg : ∀ Y : Heap, (H ++ Y)[i]? = some (townB t) := fun Y => get_app hb Y
  simp only [townB] at hg
  have hwi := within_st hn o.st
  have c70a := c70 0 (IntKind.i64.wrap ((t.first.length : Int) - 1)) [o.st] (by simp)
  have c67a := c67 o.name (by omega)
  rw [hwi] at c70a
  simp only [go_sem, Seen.d, hg, List.length_map, ap0]
  refine c70a.call rfl rfl rfl ?_
  simp only [seenOk] at hq
  cases d1 : decide (0 ≤ o.st ∧ o.st < (t.first.length : Int)) with
  | false =>
    rw [d1] at hq
    simp only [go_sem]
    exact ⟨.inr (by simpa using hB), by simpa using hq⟩
  | true =>
    rw [d1] at hq
    simp only [go_sem, ap0]
    refine c67a.call rfl rfl rfl ?_
    simp only [go_sem]
    exact ⟨.inr (by simpa using hB), by simpa using hq⟩

def listE (t : Town) (l : List Seen) : Int :=
  if openE t ≠ 0 then openE t else if 6 < l.length then 5 else if l.any (fun x => !seenOk t.first.length x) = true then 2 else 0
def listB (t : Town) (l : List Seen) : D := if listE t l ≠ 0 then .agg [.sl [], .sl [], .sl [], .sl []] else .agg [.sl (t.first.map .str), .sl (t.ch.map Chg.d), .sl ((nbT t).1.map Page.d), .sl (l.map Seen.d)]

theorem c93 (t : Town) (hs : t.Small) (l : List Seen) (hl : l.length ≤ 100) (hls : ∀ x ∈ l, x.name.size ≤ 1000) : PC prog 93 [.d t.d, .d (.sl (l.map Seen.d))] (.tup [.d (listB t l), .d (.int .i64 (listE t l))]) := by
  have hsf := hs.f
  refine PC.run (fun _ => false) tt_ok (fn := f93) (rs := [.cell 4 159, .tmp 5]) rfl rfl rfl rfl rfl rfl rfl ?_
  simp only [go_sem, Town.d]
  refine (c76 t hs).call rfl rfl rfl ?_
  have hE : ∀ e : Int, listE t l = e → e ≠ 0 → listB t l = .agg [.sl [], .sl [], .sl [], .sl []] := fun e h1 h2 => by rw [listB, if_pos (by rw [h1]; exact h2)]
  by_cases ho : openE t = 0
  · obtain ⟨hok, hb, hpg⟩ := open_pg ho
    have hbk : bookD t (nbT t).1 = .agg [.sl (t.first.map .str), .sl (t.ch.map Chg.d), .sl ((nbT t).1.map Page.d)] := rfl
    have e0 : listE t l = if 6 < l.length then 5 else if l.any (fun x => !seenOk t.first.length x) = true then 2 else 0 := by rw [listE, if_neg (by rw [ho]; simp)]
    rw [ho, hb, hbk]
    simp only [go_sem, List.length_map]
    by_cases h6 : 6 < l.length
    · have e1 : listE t l = 5 := by rw [e0, if_pos h6]
      have d1 : decide ((6 : Int) < (l.length : Int)) = true := decide_eq_true (by omega)
      rw [hE 5 e1 (by omega), e1]
      simp only [go_sem, d1]
    · have d1 : decide ((6 : Int) < (l.length : Int)) = false := decide_eq_false (by omega)
      simp only [go_sem, d1]
      refine ACallV.of rfl (c123 enc_seen l (by omega) 122 [] [.ptr 0 0] (fun o => !seenOk t.first.length o) (fun o ho Q h => ACallV.of rfl (c122 (t := t) (by omega) o (hls o ho) rfl (by simp [BBs, BB, VBs, VB]) h)) ?_)
      cases ha : l.any (fun x => !seenOk t.first.length x) with
      | true =>
        have e1 : listE t l = 2 := by rw [e0, if_neg h6, if_pos ha]
        rw [hE 2 e1 (by omega), e1]
        simp only [go_sem]
      | false =>
        have e1 : listE t l = 0 := by rw [e0, if_neg h6, if_neg (by rw [ha]; simp)]
        have e2 : listB t l = .agg [.sl (t.first.map .str), .sl (t.ch.map Chg.d), .sl ((nbT t).1.map Page.d), .sl (l.map Seen.d)] := by rw [listB, if_neg (by rw [e1]; simp)]
        rw [e1, e2]
        simp only [go_sem]
  · have d1 : decide (openE t = 0) = false := decide_eq_false ho
    have e1 : listE t l = openE t := by rw [listE, if_pos ho]
    obtain ⟨x, y, z, hb⟩ := openB_is t
    rw [hE _ e1 ho, e1, hb]
    simp only [go_sem, d1]

/-- The numbers of lines that are not so by some names. -/
def wrTo (l : List Seen) (names : List ByteArray) (k : Nat) : List Int := natI ((List.range k).filter fun i => !decide (names.getD (l.getD i default).st.toNat default = (l.getD i default).name))
def wrI (l : List Seen) (names : List ByteArray) : List Int := wrTo l names l.length
theorem wrTo_succ (l : List Seen) (names : List ByteArray) (k : Nat) : wrTo l names (k + 1) = wrTo l names k ++ if names.getD (l.getD k default).st.toNat default = (l.getD k default).name then [] else [(k : Int)] := by
  rw [wrTo, wrTo, natI, natI, List.range_succ, List.filter_append, List.map_append]
  congr 1
  rw [List.filter_cons, List.filter_nil]
  split <;> simp_all
theorem wrTo_len (l : List Seen) (names : List ByteArray) (k : Nat) : (wrTo l names k).length ≤ k := by
  have := List.length_filter_le (fun i => !decide (names.getD (l.getD i default).st.toNat default = (l.getD i default).name)) (List.range k)
  rw [wrTo, natI, List.length_map]
  simpa using this

def wrV (l : List Int) : V :=
  match l with
  | [] => .slx (some true) []
  | x :: r => .ref 2 (r.length + 1) 0 (r.length + 1)
def wrH (A X : Blk) (l : List Int) : Heap :=
  match l with
  | [] => [A]
  | x :: r => [A, X, .arr 1 false ((x :: r).map (.int .i64))]

theorem c95 (B1 B2 B3 : List D) (l : List Seen) (names : List ByteArray) (hl : l.length ≤ 1000) (hok : ∀ x ∈ l, 0 ≤ x.st ∧ x.st < names.length) :
    PC prog 95 [.d (.agg [.sl B1, .sl B2, .sl B3, .sl (l.map Seen.d)]), .d (.sl (names.map .str))] (lvI (wrI l names)) := by
  refine PC.run (fun k => k == 26) tt_ok (fn := f95) (rs := [.tmp 4]) rfl rfl rfl rfl rfl rfl rfl ?_
  simp only [go_sem, List.length_map]
  generalize hA : Blk.cells [.d (.sl B1), .d (.sl B2), .d (.sl B3), .d (.sl (l.map Seen.d))] = A
  have hAb : ∀ n, BB n A := fun n => by rw [← hA]; simp [BB, VBs, VB]
  refine ALoop.by (S := Nat × Blk) (fun s => [(10, .d (.int .i64 s.1)), (9, .d (.int .i64 l.length)), (8, .d (.sl (l.map Seen.d))), (4, wrV (wrTo l names s.1)), (1, .d (.sl (names.map .str)))]) (fun s => wrH A s.2 (wrTo l names s.1)) (fun s => l.length - s.1) (fun s => s.1 ≤ l.length ∧ BB 1 s.2) (0, A) (Nat.zero_le _) (fun _ h => nomatch h) ⟨Nat.zero_le _, hAb 1⟩ ?_ ?_
  · exact ForgetTo.same' (Nat.zero_le _) (by simp [EWe, Env.look, wrTo, natI, wrV]) (by simp [wrTo, natI, wrH])
  rintro ⟨i, X⟩ ⟨hi, hX⟩ hn
  dsimp only at hi hX hn ⊢
  have hX3 : ∀ n, 1 ≤ n → BB n X := fun n h => BB_le h hX
  refine AWP.run (fun k => k == 26) tt_ok (fun _ h => nomatch h) (Nat.zero_le _) rfl ?_
  simp only [go_sem]
  refine Br_split (fun hd => ?_) (fun hd => ?_) <;> simp only [go_sem, hd]
  · have hlt : i < l.length := by simpa using hd
    have hix : idx? (l.map Seen.d) (i : Int) = some l[i].d := by simp [idx?, List.getElem?_eq_getElem hlt]
    have hod : l[i].d = .agg [.int .i64 l[i].st, .str l[i].name] := rfl
    obtain ⟨o1, o2⟩ := hok _ (List.getElem_mem hlt)
    have hst := wrTo_succ l names i
    rw [getDG hlt] at hst
    have hal := wrTo_len l names i
    obtain ⟨k, hk⟩ : ∃ k : Nat, l[i].st = k := ⟨l[i].st.toNat, by omega⟩
    have hkl : k < names.length := by omega
    have hix2 : idx? (names.map D.str) (k : Int) = some (.str (names.getD k default)) := by rw [getDG hkl]; simp [idx?, List.getElem?_eq_getElem hkl]
    have hnx : IntKind.i64.wrap ((i : Int) + 1) = (i : Int) + 1 := w64 (by omega) (by omega)
    rw [hk] at hst hod
    rw [hod] at hix
    rw [Int.toNat_natCast] at hst
    generalize l[i].name = sy at *
    generalize hcn : names.getD k default = cn at *
    generalize wrTo l names i = W at *
    cases W with
    | nil =>
      simp only [go_sem, hix, wrV, wrH]
      refine ADrw.treeG (fun k => k == 26) tt_ok (by kernel_rfl) (fun k => if k = 2 ∨ k = 6 then some .L else some .S) (.ones [0, 1, 2, 3, 4, 5, 6, 7] .done) (Nat.zero_le _) (fun _ h => nomatch h) rfl rfl (by kernel_rfl) ?_
      simp only [go_sem, hix2, bne, beq_str]
      by_cases he : cn = sy
      · rw [if_pos he, List.append_nil] at hst
        simp only [go_sem, decide_eq_true he]
        refine ⟨(i + 1, X), ⟨hlt, hX⟩, by show l.length - (i + 1) < l.length - i; omega, ?_⟩
        exact ForgetTo.drop (H0 := [_]) (Y := [_]) (Nat.zero_le _) (by rw [hst]; rfl) (by rw [hst]; exact ⟨hAb _, trivial⟩) (by simp [EWp, Env.look, pubV, hnx, hst, wrV])
      · rw [if_neg he] at hst
        simp only [go_sem, decide_eq_false he]
        refine ⟨(i + 1, .cells [.d (.int .i64 k), .d (.str sy)]), ⟨hlt, rfl⟩, by show l.length - (i + 1) < l.length - i; omega, ?_⟩
        exact ForgetTo.same' (Nat.zero_le _) (by simp [EWe, Env.look, hnx, hst, wrV]) (by rw [hst]; rfl)
    | cons w r =>
      have hr1 : decide (r.length ≤ 4294967294) = true := by simp only [decide_eq_true_eq, List.length_cons] at hal ⊢; omega
      have hln : ((w :: r).map (D.int .i64)).length = r.length + 1 := by simp
      simp only [go_sem, hix, wrV, wrH]
      generalize hY : (w :: r).map (D.int .i64) = Y at *
      refine ADrw.treeG (fun k => k == 26) tt_ok (by kernel_rfl) (fun k => if k = 2 ∨ k = 6 then some .L else some .S) (.ones [0, 1, 2, 3, 4, 5, 6, 7] .done) (Nat.zero_le _) (fun _ h => nomatch h) rfl rfl (by kernel_rfl) ?_
      simp only [go_sem, hix2, bne, beq_str]
      by_cases he : cn = sy
      · rw [if_pos he, List.append_nil] at hst
        simp only [go_sem, decide_eq_true he]
        refine ⟨(i + 1, X), ⟨hlt, hX⟩, by show l.length - (i + 1) < l.length - i; omega, ?_⟩
        exact ForgetTo.drop (H0 := [_, _, _]) (Y := [_]) (Nat.zero_le _) (by rw [hst]; rfl) (by rw [hst]; exact ⟨hAb _, hX3 _ (by simp [wrH]), trivial, trivial⟩) (by simp [EWp, Env.look, pubV, hnx, hst, wrV, wrH])
      · rw [if_neg he] at hst
        simp only [go_sem, decide_eq_false he, hln, hr1]
        refine ⟨(i + 1, X), ⟨hlt, hX⟩, by show l.length - (i + 1) < l.length - i; omega, ?_⟩
        exact ForgetTo.drop (H0 := [_, _, _]) (Y := [_]) (Nat.zero_le _) (by rw [hst]; simp [wrH]) (by rw [hst]; exact ⟨hAb _, hX3 _ (by simp [wrH]), trivial, trivial⟩) (by simp [EWp, Env.look, pubV, hnx, hst, wrV, wrH])
  · have hie : i = l.length := by simp only [decide_eq_false_iff_not] at hd; omega
    subst hie
    rw [wrI]
    cases wrTo l names l.length with
    | nil => simp only [go_sem, wrV, wrH, lvI]
    | cons y r =>
      have hln : ((y :: r).map (D.int .i64)).length = r.length + 1 := by simp
      have htk : ((y :: r).map (D.int .i64)).take (r.length + 1) = (y :: r).map (D.int .i64) := List.take_of_length_le (by simp)
      simp only [wrV, wrH, lvI]
      generalize (y :: r).map (D.int .i64) = Y at *
      simp only [go_sem, hln, htk]
end Go.Aw
end

section
set_option maxRecDepth 100000
namespace Go.Aw
open Go Go.Proofs.Tryz

/-- Lists of integers compared. -/
def cmpLI : List Int → List Int → Int
  | [], [] => 0
  | [], _ :: _ => -1
  | _ :: _, [] => 1
  | x :: a, y :: b => if cmpI x y = 0 then cmpLI a b else cmpI x y

theorem c96 (a b : List Int) (ha : a.length ≤ 1000) (hb : b.length ≤ 1000) : PC prog 96 [.d (.sl (a.map (.int .i64))), .d (.sl (b.map (.int .i64)))] (.d (.int .i64 (cmpLI a b))) := by
  refine PC.run (fun _ => false) tt_ok (fn := f96) (rs := [.tmp 4]) rfl rfl rfl rfl rfl rfl rfl ?_
  simp only [go_sem, List.length_map]
  refine ALoop.by (S := Nat) (fun i => [(11, .d (.int .i64 i)), (10, .d (.int .i64 a.length)), (9, .d (.sl (a.map (.int .i64)))), (1, .d (.sl (b.map (.int .i64)))), (0, .d (.sl (a.map (.int .i64))))]) (fun _ => []) (fun i => a.length - i) (fun i => i ≤ a.length ∧ i ≤ b.length ∧ cmpLI (a.drop i) (b.drop i) = cmpLI a b) 0 (Nat.zero_le _) (fun _ h => nomatch h) ⟨Nat.zero_le _, Nat.zero_le _, rfl⟩ ?_ ?_
  · exact ForgetTo.same' (Nat.zero_le _) (by simp [EWe, Env.look]) rfl
  rintro i ⟨hi, hib, hc⟩ hn
  refine AWP.run (fun _ => false) tt_ok (fun _ h => nomatch h) (Nat.zero_le _) rfl ?_
  simp only [go_sem, List.length_map]
  refine Br_split (fun hd => ?_) (fun hd => ?_) <;> simp only [go_sem, hd]
  · have hlt : i < a.length := by simpa using hd
    have hix : idx? (a.map (D.int .i64)) (i : Int) = some (.int .i64 a[i]) := by simp [idx?, List.getElem?_eq_getElem hlt]
    rw [List.drop_eq_getElem_cons hlt] at hc
    simp only [go_sem, hix, List.length_map]
    by_cases h1 : i < b.length
    · have d1 : decide ((b.length : Int) ≤ (i : Int)) = false := decide_eq_false (by omega)
      have hiy : idx? (b.map (D.int .i64)) (i : Int) = some (.int .i64 b[i]) := by simp [idx?, List.getElem?_eq_getElem h1]
      have hnx : IntKind.i64.wrap ((i : Int) + 1) = (i : Int) + 1 := w64 (by omega) (by omega)
      rw [List.drop_eq_getElem_cons h1, cmpLI] at hc
      simp only [go_sem, d1, hiy]
      refine (c107 a[i] b[i]).call rfl rfl rfl ?_
      simp only [go_sem]
      by_cases h2 : cmpI a[i] b[i] = 0
      · rw [if_pos h2] at hc
        simp only [go_sem, decide_eq_true h2]
        exact ⟨i + 1, ⟨hlt, h1, hc⟩, by omega, ForgetTo.same' (Nat.zero_le _) (by simp [EWe, Env.look, hnx]) rfl⟩
      · rw [if_neg h2] at hc
        simp only [go_sem, decide_eq_false h2, hc, decide_eq_false (show ¬ cmpLI a b = 0 by rw [← hc]; exact h2)]
    · have d1 : decide ((b.length : Int) ≤ (i : Int)) = true := decide_eq_true (by omega)
      rw [show b.drop i = [] from List.drop_eq_nil_of_le (by omega), cmpLI] at hc
      simp only [go_sem, d1, ← hc]
  · have hie : i = a.length := by simp only [decide_eq_false_iff_not] at hd; omega
    subst hie
    rw [List.drop_length] at hc
    by_cases h1 : a.length < b.length
    · rw [List.drop_eq_getElem_cons h1, cmpLI] at hc
      simp only [go_sem, decide_eq_true (show (a.length : Int) < (b.length : Int) by omega), ← hc]
    · rw [show b.drop a.length = [] from List.drop_eq_nil_of_le (by omega), cmpLI] at hc
      simp only [go_sem, decide_eq_false (show ¬ (a.length : Int) < (b.length : Int) by omega), ← hc]

structure Spn where
  lo : Int
  hi : Int
deriving Inhabited, DecidableEq
def Spn.d (x : Spn) : D := .agg [.int .i64 x.lo, .int .i64 x.hi]

/-- Hours more. -/
def hrS (acc : List Spn) (lo hi : Int) : List Spn :=
  match acc.getLast? with
  | some y => if y.hi + 1 = lo then acc.dropLast ++ [⟨y.lo, hi⟩] else acc ++ [⟨lo, hi⟩]
  | none => acc ++ [⟨lo, hi⟩]

def hrP (l : List Seen) (L : List (Int × Int × List ByteArray)) : List Spn := L.foldl (fun acc x => if wrI l x.2.2 = [] then hrS acc x.1 x.2.1 else acc) []
theorem hrP_snoc (l : List Seen) (L : List (Int × Int × List ByteArray)) (x : Int × Int × List ByteArray) : hrP l (L ++ [x]) = if wrI l x.2.2 = [] then hrS (hrP l L) x.1 x.2.1 else hrP l L := by rw [hrP, List.foldl_append]; rfl

theorem hrS_len (acc : List Spn) (lo hi : Int) : (hrS acc lo hi).length ≤ acc.length + 1 := by
  rw [hrS]
  split
  · split
    · simp
    · simp
  · simp
theorem hrP_len (l : List Seen) (L : List (Int × Int × List ByteArray)) : (hrP l L).length ≤ L.length := by
  induction L using snoc_ind with
  | h0 => exact Nat.le_refl _
  | h1 L x ih =>
    rw [hrP_snoc, List.length_append, List.length_singleton]
    have := hrS_len (hrP l L) x.1 x.2.1
    split <;> omega

theorem timesL_hi : ∀ {P : List Page} (hb : ∀ p ∈ P, 0 ≤ p.hour ∧ p.hour ≤ 1000) {x : Int × Int × List ByteArray}, x ∈ timesL P → (0 ≤ x.1 ∧ x.1 ≤ 1000) ∧ -1 ≤ x.2.1 ∧ x.2.1 ≤ 1000
  | [], _, _, h => by simp [timesL] at h
  | p :: r, hb, x, h => by
    rw [timesL] at h
    rcases List.mem_cons.1 h with rfl | h
    · refine ⟨hb p List.mem_cons_self, ?_⟩
      cases r with
      | nil => exact ⟨by show (-1 : Int) ≤ 1000; omega, Int.le_refl _⟩
      | cons q r => have := hb q (by simp); show -1 ≤ q.hour - 1 ∧ q.hour - 1 ≤ 1000; omega
    · exact timesL_hi (fun p hp => hb p (List.mem_cons_of_mem _ hp)) h

theorem hrS_mem {acc : List Spn} {lo hi : Int} {p : Int → Prop} (h : ∀ y ∈ acc, p y.hi) (h1 : p hi) : ∀ y ∈ hrS acc lo hi, p y.hi := by
  intro y hy
  rw [hrS] at hy
  split at hy
  · split at hy
    · rcases List.mem_append.1 hy with hy | hy
      · exact h y (List.dropLast_subset _ hy)
      · rw [List.mem_singleton.1 hy]; exact h1
    · rcases List.mem_append.1 hy with hy | hy
      · exact h y hy
      · rw [List.mem_singleton.1 hy]; exact h1
  · rcases List.mem_append.1 hy with hy | hy
    · exact h y hy
    · rw [List.mem_singleton.1 hy]; exact h1

theorem hrP_mem {l : List Seen} {p : Int → Prop} (L : List (Int × Int × List ByteArray)) : (∀ x ∈ L, p x.2.1) → ∀ y ∈ hrP l L, p y.hi := by
  induction L using snoc_ind with
  | h0 => intro _ y hy; simp [hrP] at hy
  | h1 L x ih =>
    intro h
    have ih := ih fun z hz => h z (List.mem_append_left _ hz)
    rw [hrP_snoc]
    split
    · exact hrS_mem ih (h x (by simp))
    · exact ih

theorem c94 {t : Town} {P : List Page} (hl9 : P.length ≤ 9) (hb : ∀ p ∈ P, 0 ≤ p.hour ∧ p.hour ≤ 1000) (hnl : ∀ p ∈ P, p.names.length = t.first.length) (l : List Seen) (hl : l.length ≤ 1000) (hok : ∀ x ∈ l, 0 ≤ x.st ∧ x.st < t.first.length) :
    PCr prog 94 [.d (.agg [.sl (t.first.map .str), .sl (t.ch.map Chg.d), .sl (P.map Page.d), .sl (l.map Seen.d)])]
      [.cells [.d (.sl (t.first.map .str)), .d (.sl (t.ch.map Chg.d)), .d (.sl (P.map Page.d)), .d (.sl (l.map Seen.d))], .cells [.ref 2 (hrP l (timesL P)).length 0 (hrP l (timesL P)).length], .arr 2 (decide ((hrP l (timesL P)).length = 0)) ((hrP l (timesL P)).map Spn.d)]
      (.ref 2 (hrP l (timesL P)).length 0 (hrP l (timesL P)).length) := by
  refine PCr.of_body tt_ok (fn := f94) (rs := [.cell 2 90]) 3 rfl rfl rfl rfl rfl rfl ?_
  refine AWP.run (fun _ => false) tt_ok (fun _ h => nomatch h) (Nat.zero_le _) rfl ?_
  simp only [go_sem]
  change AWP _ _ _ _ _ _ _ _
  refine AWP.nilrow 1 0 2 rfl rfl (Nat.zero_le _) ?_
  have hit := c80 t P (by omega) hb
  rw [bkV, bookD] at hit
  have hnm : ∀ x ∈ timesL P, x.2.2.length = t.first.length := fun x hx => by
    obtain ⟨p, hp, e⟩ := timesL_names hx
    rw [e, hnl p hp]
  have hll := timesL_len P
  have hlen := hrP_len l
  have hhi : ∀ Lp Lr : List (Int × Int × List ByteArray), Lp ++ Lr = timesL P → ∀ y ∈ hrP l Lp, -1 ≤ y.hi ∧ y.hi ≤ 1000 := fun Lp Lr h => hrP_mem (p := fun n => -1 ≤ n ∧ n ≤ 1000) Lp fun x hx => (timesL_hi hb (x := x) (by rw [← h]; exact List.mem_append_left _ hx)).2
  generalize hA : Blk.cells [.d (.sl (t.first.map .str)), .d (.sl (t.ch.map Chg.d)), .d (.sl (P.map Page.d)), .d (.sl (l.map Seen.d))] = A at *
  have hAb : ∀ n, BB n A := fun n => by rw [← hA]; simp [BB, VBs, VB]
  refine ARng.iter (items := (timesL P).map tmV) (J := fun rest Hc => ∃ Lp Lr, Lp ++ Lr = timesL P ∧ rest = Lr.map tmV ∧ Hc = [A, .cells [.ref 2 (hrP l Lp).length 0 (hrP l Lp).length], .arr 2 (decide ((hrP l Lp).length = 0)) ((hrP l Lp).map Spn.d)])
    (Nat.zero_le _) (fun _ h => nomatch h) rfl hit rfl rfl ?_ ?_ ?_ ?_ ?_
  · rintro rest Hc ⟨Lp, Lr, _, _, rfl⟩
    exact ⟨rfl, hAb _, by simp [BB, VBs, VB], trivial, trivial⟩
  · exact ⟨[], timesL P, rfl, rfl, rfl⟩
  · rintro Hc ⟨Lp, Lr, hL, hr, rfl⟩
    have hLr : Lr = [] := List.map_eq_nil_iff.1 hr.symm
    subst hLr
    rw [List.append_nil] at hL
    subst hL
    simp only [go_sem]
  · intro xs hxs
    obtain ⟨c, _, rfl⟩ := List.mem_map.1 hxs
    rfl
  · rintro L L' xs rest Hc hxs ⟨Lp, Lr, hL, hr, rfl⟩
    obtain ⟨x, Lr', rfl⟩ : ∃ x Lr', Lr = x :: Lr' := by
      cases Lr with
      | nil => cases hr
      | cons x r => exact ⟨x, r, rfl⟩
    rw [List.map_cons] at hr
    obtain ⟨rfl, rfl⟩ := List.cons.inj hr
    have hx := hnm x (by rw [← hL]; simp)
    have hxb := timesL_hi hb (x := x) (by rw [← hL]; simp)
    have hle := hlen Lp
    have hmm := hhi Lp _ hL
    have hLl := congrArg List.length hL
    rw [List.length_append, hll] at hLl
    have hsn := hrP_snoc l Lp x
    have fin : ∀ acc, acc = hrP l (Lp ++ [x]) → ∃ Lp2 Lr2, Lp2 ++ Lr2 = timesL P ∧ Lr'.map tmV = Lr2.map tmV ∧ [A, .cells [.ref 2 acc.length 0 acc.length], .arr 2 (decide (acc.length = 0)) (acc.map Spn.d)] =
        [A, .cells [.ref 2 (hrP l Lp2).length 0 (hrP l Lp2).length], .arr 2 (decide ((hrP l Lp2).length = 0)) ((hrP l Lp2).map Spn.d)] := fun acc h => by
      subst h
      exact ⟨Lp ++ [x], Lr', by rw [List.append_assoc]; exact hL, rfl, rfl⟩
    rw [hsn] at fin
    generalize hrP l Lp = acc at *
    obtain ⟨lo, hi, nms⟩ := x
    dsimp only at fin hx hxb
    have c95a := c95 (t.first.map .str) (t.ch.map Chg.d) (P.map Page.d) l nms hl (by rw [hx]; exact hok)
    generalize wrI l nms = W at *
    refine AWP.run (fun _ => false) tt_ok (fun _ h => by cases h; exact Nat.lt_succ_self _) (by simp) rfl ?_
    simp only [go_sem, tmV, ← hA]
    refine AWP.run (fun _ => false) tt_ok (fun _ h => by cases h; exact Nat.lt_succ_self _) (by simp) rfl ?_
    have hal : (acc.map Spn.d).length = acc.length := by simp
    simp only [go_sem]
    cases W with
    | cons w r =>
      rw [if_neg (by simp)] at fin
      have fin := fin _ rfl
      rw [← hA] at fin
      refine c95a.call rfl rfl rfl ?_
      simp only [go_sem, lvI, bin_neq_ne]
      exact fin
    | nil =>
      rw [if_pos rfl] at fin
      refine c95a.call rfl rfl rfl ?_
      simp only [go_sem, lvI, bin_neq_nil]
      rcases List.eq_nil_or_concat acc with rfl | ⟨ac, y, rfl⟩
      · have fin := fin _ rfl
        rw [hrS, ← hA] at fin
        have w1 : IntKind.i64.wrap ((0 : Int) - 1) = -1 := rfl
        simp only [go_sem, w1]
        refine ADrw.treeG (fun _ => false) tt_ok (by kernel_rfl) (fun k => if k = 3 ∨ k = 5 ∨ k = 7 ∨ k = 10 then some .L else some .S) (.ones [0, 1, 2, 3, 4, 5, 6, 7, 8, 9, 10, 11, 12] .done) (by simp) (fun _ h => by cases h; exact Nat.lt_succ_self _) rfl rfl (by kernel_rfl) ?_
        simp only [go_sem, w1, show decide ((0 : Int) ≤ -1) = false from rfl]
        exact fin
      · rw [List.concat_eq_append] at *
        have hl1 : (ac ++ [y]).length = ac.length + 1 := by simp
        have w1 : IntKind.i64.wrap (((ac ++ [y]).length : Int) - 1) = (ac.length : Int) := by rw [hl1, w64 (by omega) (by omega)]; omega
        have d0 : decide ((0 : Int) ≤ (ac.length : Int)) = true := decide_eq_true (by omega)
        have hg : ((ac ++ [y]).map Spn.d)[ac.length]? = some (.agg [.int .i64 y.lo, .int .i64 y.hi]) := by simp [Spn.d]
        have hset : ((ac ++ [y]).map Spn.d).set ac.length (.agg [.int .i64 y.lo, .int .i64 hi]) = (ac ++ [(⟨y.lo, hi⟩ : Spn)]).map Spn.d := by simp [Spn.d]
        have hyb := hmm y (by simp)
        have w2 : IntKind.i64.wrap (y.hi + 1) = y.hi + 1 := w64 (by omega) (by omega)
        have c1 : (0 : Int) ≤ (ac.length : Int) := by omega
        have c2 : (ac.length : Int) < ((ac.length + 1 : Nat) : Int) := by omega
        rw [hl1] at hal w1
        have hh : hrS (ac ++ [y]) lo hi = if y.hi + 1 = lo then ac ++ [⟨y.lo, hi⟩] else ac ++ [y] ++ [⟨lo, hi⟩] := by simp [hrS]
        rw [hh] at fin
        simp only [go_sem, hl1, w1, hal]
        refine ADrw.treeG (fun _ => false) tt_ok (by kernel_rfl) (fun k => if k = 3 ∨ k = 5 ∨ k = 7 ∨ k = 10 then some .L else some .S) (.ones [0, 1, 2, 3, 4, 5, 6, 7, 8, 9, 10, 11, 12] .done) (by simp) (fun _ h => by cases h; exact Nat.lt_succ_self _) rfl rfl (by kernel_rfl) ?_
        simp only [go_sem, d0, hal, c1, c2, Int.toNat_natCast, hg, w2]
        by_cases hn : y.hi + 1 = lo
        · rw [if_pos hn] at fin
          have fin := fin _ rfl
          have hll2 : (ac ++ [(⟨y.lo, hi⟩ : Spn)]).length = ac.length + 1 := by simp
          rw [hll2, ← hset, ← hA] at fin
          simp only [go_sem, decide_eq_true hn, hal, c1, c2, Int.toNat_natCast, hg]
          exact fin
        · rw [if_neg hn] at fin
          have fin := fin _ rfl
          have hll2 : (ac ++ [y] ++ [(⟨lo, hi⟩ : Spn)]).length = ac.length + 1 + 1 := by simp
          rw [hll2, List.map_append, ← hA] at fin
          generalize (ac ++ [y]).map Spn.d = M at *
          have d5 : decide (ac.length ≤ 4294967294) = true := decide_eq_true (by omega)
          simp only [go_sem, decide_eq_false hn, hal, d5]
          exact fin

def hoursP (t : Town) (l : List Seen) : List Spn × Int :=
  if listE t l ≠ 0 then ([], listE t l) else if hrP l (timesL (nbT t).1) = [] then ([], 7) else (hrP l (timesL (nbT t).1), 0)
def hoursV (p : List Spn × Int) : V := if p.2 ≠ 0 then .slx (some true) [] else .d (.sl (p.1.map Spn.d))

theorem list_z {t : Town} {l : List Seen} (h : listE t l = 0) : openE t = 0 ∧ l.length ≤ 6 ∧ (∀ x ∈ l, 0 ≤ x.st ∧ x.st < t.first.length ∧ nm x.name = true) ∧ listB t l = .agg [.sl (t.first.map .str), .sl (t.ch.map Chg.d), .sl ((nbT t).1.map Page.d), .sl (l.map Seen.d)] := by
  have h' := h
  rw [listE] at h
  split at h
  · rename_i h1; exact absurd h h1
  · rename_i h1
    split at h
    · cases h
    · split at h
      · cases h
      · rename_i h2 h3
        refine ⟨Classical.not_not.1 h1, by omega, fun x hx => ?_, by rw [listB, if_neg (by rw [h']; simp)]⟩
        have : seenOk t.first.length x = true := by
          simp only [Bool.not_eq_true, List.any_eq_false] at h3
          simpa using h3 x hx
        simp only [seenOk, Bool.and_eq_true, decide_eq_true_eq] at this
        exact ⟨this.1.1, this.1.2, this.2⟩

theorem listB_is (t : Town) (l : List Seen) : ∃ a b c d, listB t l = .agg [.sl a, .sl b, .sl c, .sl d] := by
  rw [listB]
  split
  · exact ⟨_, _, _, _, rfl⟩
  · exact ⟨_, _, _, _, rfl⟩

theorem c46 (t : Town) (hs : t.Small) (l : List Seen) (hl : l.length ≤ 100) (hls : ∀ x ∈ l, x.name.size ≤ 1000) : PC prog 46 [.d t.d, .d (.sl (l.map Seen.d))] (.tup [hoursV (hoursP t l), .d (.int .i64 (hoursP t l).2)]) := by
  refine PC.run (fun _ => false) tt_ok (fn := f46) (rs := [.tmp 4, .tmp 5]) rfl rfl rfl rfl rfl rfl rfl ?_
  simp only [go_sem, Town.d]
  refine (c93 t hs l hl hls).call rfl rfl rfl ?_
  rw [hoursP]
  by_cases ho : listE t l = 0
  · obtain ⟨z1, z2, z3, z4⟩ := list_z ho
    obtain ⟨hok, hb, hpg⟩ := open_pg z1
    have c94a := c94 (t := t) hpg.len hpg.hrs (fun p hp => by rw [hpg.nms p hp, namesT_len]) l (by omega) (fun x hx => ⟨(z3 x hx).1, (z3 x hx).2.1⟩)
    rw [if_neg (by rw [ho]; simp), ho, z4]
    simp only [go_sem]
    refine c94a.call' rfl rfl rfl ?_
    generalize hrP l (timesL (nbT t).1) = R at *
    cases R with
    | nil =>
      rw [if_pos rfl]
      simp only [go_sem, hoursV]
    | cons x r =>
      rw [if_neg (by simp)]
      have hln : ((x :: r).map Spn.d).length = r.length + 1 := by simp
      have htk : ((x :: r).map Spn.d).take (r.length + 1) = (x :: r).map Spn.d := List.take_of_length_le (by simp)
      simp only [hoursV]
      generalize (x :: r).map Spn.d = Y at *
      simp only [go_sem, hln, htk]
  · have d1 : decide (listE t l = 0) = false := decide_eq_false ho
    obtain ⟨a, b, c, d, hb⟩ := listB_is t l
    rw [if_pos ho, hb]
    simp only [go_sem, d1, hoursV, if_pos ho]
end Go.Aw
end

section
set_option maxRecDepth 100000
namespace Go.Aw
open Go Go.Proofs.Tryz

def betterB (bad out : List Int) : Bool := decide (bad.length < out.length) || (decide (bad.length = out.length) && decide (cmpLI bad out < 0))
def wrS (l : List Seen) (out : List Int) (names : List ByteArray) : List Int := if betterB (wrI l names) out = true then wrI l names else out
def wrP (l : List Seen) (L : List (Int × Int × List ByteArray)) : List Int := L.foldl (fun out x => wrS l out x.2.2) (List.replicate (l.length + 1) 0)
theorem wrP_snoc (l : List Seen) (L : List (Int × Int × List ByteArray)) (x : Int × Int × List ByteArray) : wrP l (L ++ [x]) = wrS l (wrP l L) x.2.2 := by rw [wrP, List.foldl_append]; rfl

theorem wrI_len (l : List Seen) (names : List ByteArray) : (wrI l names).length ≤ l.length := wrTo_len l names l.length

theorem wrP_len (l : List Seen) (L : List (Int × Int × List ByteArray)) : (wrP l L).length ≤ l.length + 1 ∧ (L ≠ [] → (wrP l L).length ≤ l.length) := by
  induction L using snoc_ind with
  | h0 => simp [wrP]
  | h1 L x ih =>
    have h1 := wrI_len l x.2.2
    rw [wrP_snoc, wrS]
    split
    · exact ⟨by omega, fun _ => h1⟩
    · rename_i hb
      refine ⟨ih.1, fun _ => ?_⟩
      rcases Nat.lt_or_ge (wrI l x.2.2).length (wrP l L).length with h | h
      · exact absurd (by rw [betterB, decide_eq_true h]; rfl) hb
      · by_cases hL : L = []
        · subst hL
          simp only [wrP, List.foldl_nil, List.length_replicate] at h ⊢
          omega
        · exact ih.2 hL

def wrongP (t : Town) (l : List Seen) : List Int × Int :=
  if listE t l ≠ 0 then ([], listE t l) else if wrP l (timesL (nbT t).1) = [] then ([], 6) else (wrP l (timesL (nbT t).1), 0)
def wrongV (p : List Int × Int) : V := if p.2 ≠ 0 then .slx (some true) [] else .d (.sl (p.1.map (.int .i64)))

def outV2 (b : Bool) (l : List Int) : V := if b = true then .slx (some false) (l.map (.int .i64)) else lvI l

theorem c47 (t : Town) (hs : t.Small) (l : List Seen) (hl : l.length ≤ 100) (hls : ∀ x ∈ l, x.name.size ≤ 1000) : PC prog 47 [.d t.d, .d (.sl (l.map Seen.d))] (.tup [wrongV (wrongP t l), .d (.int .i64 (wrongP t l).2)]) := by
  refine PC.run (fun _ => false) tt_ok (fn := f47) (rs := [.cell 4 31, .tmp 5]) rfl rfl rfl rfl rfl rfl rfl ?_
  simp only [go_sem, Town.d]
  refine (c93 t hs l hl hls).call rfl rfl rfl ?_
  rw [wrongP]
  by_cases ho : listE t l = 0
  · obtain ⟨z1, z2, z3, z4⟩ := list_z ho
    obtain ⟨hok, hb, hpg⟩ := open_pg z1
    rw [if_neg (by rw [ho]; simp), ho, z4]
    have w1 : IntKind.i64.wrap ((l.length : Int) + 1) = ((l.length + 1 : Nat) : Int) := by rw [w64 (by omega) (by omega)]; omega
    have c1 : (0 : Int) ≤ ((l.length + 1 : Nat) : Int) := by omega
    have c2 : ((l.length + 1 : Nat) : Int) ≤ 4294967296 := by omega
    have hit := c80 t (nbT t).1 (by have := hpg.len; omega) hpg.hrs
    rw [bkV, bookD] at hit
    have hnm : ∀ x ∈ timesL (nbT t).1, x.2.2.length = t.first.length := fun x hx => by
      obtain ⟨p, hp, e⟩ := timesL_names hx
      rw [e, hpg.nms p hp, namesT_len]
    have hPne : timesL (nbT t).1 ≠ [] := by
      obtain ⟨r, hr⟩ := hpg.head
      rw [hr]; simp [timesL]
    have hlen := wrP_len l
    simp only [go_sem, List.length_map, w1, c1, c2, Int.toNat_natCast]
    generalize (nbT t).1 = P at *
    generalize hA : Blk.cells [.d (.sl (t.first.map .str)), .d (.sl (t.ch.map Chg.d))] = A at *
    have hAb : ∀ n, BB n A := fun n => by rw [← hA]; simp [BB, VBs, VB]
    generalize hB : Blk.cells [.d (.sl (t.first.map .str)), .d (.sl (t.ch.map Chg.d)), .d (.sl (P.map Page.d)), .d (.sl (l.map Seen.d))] = B at *
    have hBb : ∀ n, BB n B := fun n => by rw [← hB]; simp [BB, VBs, VB]
    have hrep : List.replicate (l.length + 1) (D.int .i64 0) = (List.replicate (l.length + 1) 0).map (.int .i64) := by simp
    rw [hrep]
    have hov : ∀ n b o, VB n (outV2 b o) = true := fun n b o => by
      unfold outV2; split
      · rfl
      · cases o <;> rfl
    refine ARng.iter (items := (timesL P).map tmV) (J := fun rest Hc => ∃ Lp Lr b, Lp ++ Lr = timesL P ∧ rest = Lr.map tmV ∧ Hc = [A, .cells [outV2 b (wrP l Lp)], B] ∧ (b = true → Lp = []))
      (Nat.zero_le _) (fun _ h => nomatch h) rfl hit rfl rfl ?_ ?_ ?_ ?_ ?_
    · rintro rest Hc ⟨Lp, Lr, b, _, _, rfl, _⟩
      exact ⟨rfl, hAb _, by simp [BB, VBs, hov], hBb _, trivial⟩
    · exact ⟨[], timesL P, true, rfl, rfl, rfl, fun _ => rfl⟩
    · rintro Hc ⟨Lp, Lr, b, hL, hr, rfl, hbt⟩
      have hLr : Lr = [] := List.map_eq_nil_iff.1 hr.symm
      subst hLr
      rw [List.append_nil] at hL
      subst hL
      have hbf : b = false := by
        cases b with
        | false => rfl
        | true => exact absurd (hbt rfl) hPne
      subst hbf
      generalize wrP l (timesL P) = R at *
      cases R with
      | nil =>
        simp only [outV2, Bool.false_eq_true, if_false, lvI]
        simp only [go_sem, wrongV]
      | cons x r =>
        simp only [outV2, Bool.false_eq_true, if_false, lvI]
        rw [if_neg (by simp)]
        simp only [wrongV]
        have hln : ((x :: r).map (D.int .i64)).length = r.length + 1 := by simp
        generalize (x :: r).map (D.int .i64) = Y at *
        simp only [go_sem, hln, decide_eq_false (show ¬ (((r.length + 1 : Nat) : Int) = 0) by omega)]
    · intro xs hxs
      obtain ⟨c, _, rfl⟩ := List.mem_map.1 hxs
      rfl
    · rintro L L' xs rest Hc hxs ⟨Lp, Lr, b, hL, hr, rfl, hbt⟩
      obtain ⟨x, Lr', rfl⟩ : ∃ x Lr', Lr = x :: Lr' := by
        cases Lr with
        | nil => cases hr
        | cons x r => exact ⟨x, r, rfl⟩
      rw [List.map_cons] at hr
      obtain ⟨rfl, rfl⟩ := List.cons.inj hr
      have hx := hnm x (by rw [← hL]; simp)
      have hle := hlen Lp
      have hsn := wrP_snoc l Lp x
      have fin : ∀ v, (∃ b', v = outV2 b' (wrP l (Lp ++ [x])) ∧ (b' = true → Lp ++ [x] = [])) → ∃ Lp2 Lr2 b, Lp2 ++ Lr2 = timesL P ∧ Lr'.map tmV = Lr2.map tmV ∧ [A, .cells [v], B] = [A, .cells [outV2 b (wrP l Lp2)], B] ∧ (b = true → Lp2 = []) := fun v ⟨b', h1, h2⟩ => by
        subst h1
        exact ⟨Lp ++ [x], Lr', b', by rw [List.append_assoc]; exact hL, rfl, rfl, h2⟩
      rw [hsn, wrS] at fin
      have hbl : b = true → (wrP l Lp).length = l.length + 1 := fun h => by rw [hbt h]; simp [wrP]
      obtain ⟨lo, hi, nms⟩ := x
      dsimp only at fin hx
      have c95a := c95 (t.first.map .str) (t.ch.map Chg.d) (P.map Page.d) l nms (by omega) (by rw [hx]; exact fun y hy => ⟨(z3 y hy).1, (z3 y hy).2.1⟩)
      have hwl := wrI_len l nms
      have c96a := c96 (wrI l nms) (wrP l Lp) (by omega) (by omega)
      generalize wrI l nms = W at *
      generalize wrP l Lp = O at *
      refine AWP.run (fun _ => false) tt_ok (fun _ h => by cases h; exact Nat.lt_succ_self _) (by simp) rfl ?_
      simp only [go_sem, tmV, ← hB]
      refine AWP.run (fun _ => false) tt_ok (fun _ h => by cases h; exact Nat.lt_succ_self _) (by simp) rfl ?_
      simp only [go_sem]
      refine c95a.call rfl rfl (by cases W <;> rfl) ?_
      have hlo : ∀ (es : Nat) (z : D) (H : Heap), alen (.sl es z) H (outV2 b O) = some O.length := fun es z H => by
        cases b with
        | true => simp [outV2, alen_slx]
        | false => exact lvI_len0 es z H O
      simp only [go_sem, lvI_len0, hlo]
      cases d1 : decide ((W.length : Int) < (O.length : Int)) with
      | true =>
        have h1 : W.length < O.length := by simp only [decide_eq_true_eq] at d1; omega
        rw [if_pos (show betterB W O = true by rw [betterB, decide_eq_true h1]; rfl)] at fin
        have fin := fin (lvI W) ⟨false, rfl, fun h => by cases h⟩
        rw [← hB] at fin
        cases W with
        | nil =>
          simp only [go_sem, lvI]
          exact ⟨hAb _, fin⟩
        | cons w r =>
          simp only [go_sem, lvI]
          exact ⟨hAb _, fin⟩
      | false =>
        have h1 : ¬ W.length < O.length := by simp only [decide_eq_false_iff_not] at d1; omega
        have hbf : b = false := by
          cases b with
          | false => rfl
          | true => have := hbl rfl; omega
        subst hbf
        simp only [go_sem, lvI_len0, hlo]
        cases d2 : decide ((W.length : Int) = (O.length : Int)) with
        | false =>
          have h2 : ¬ W.length = O.length := by simp only [decide_eq_false_iff_not] at d2; omega
          rw [if_neg (show ¬ betterB W O = true by rw [betterB, decide_eq_false h1, decide_eq_false h2]; simp)] at fin
          have fin := fin _ ⟨false, rfl, fun h => by cases h⟩
          rw [← hB] at fin
          simp only [go_sem]
          exact ⟨⟨hAb _, hov _ _ _⟩, fin⟩
        | true =>
          have h2 : W.length = O.length := by simp only [decide_eq_true_eq] at d2; omega
          simp only [go_sem]
          refine c96a.call (by cases W <;> cases O <;> rfl) rfl rfl ?_
          simp only [go_sem]
          cases d3 : decide (cmpLI W O < 0) with
          | false =>
            have h3 : ¬ cmpLI W O < 0 := by simpa using d3
            rw [if_neg (show ¬ betterB W O = true by rw [betterB, decide_eq_false h1, decide_eq_false h3]; simp)] at fin
            have fin := fin _ ⟨false, rfl, fun h => by cases h⟩
            rw [← hB] at fin
            simp only [go_sem]
            exact ⟨⟨hAb _, hov _ _ _⟩, fin⟩
          | true =>
            rw [if_pos (show betterB W O = true by rw [betterB, decide_eq_true h2, d3]; simp)] at fin
            have fin := fin (lvI W) ⟨false, rfl, fun h => by cases h⟩
            rw [← hB] at fin
            cases W with
            | nil =>
              simp only [go_sem, lvI]
              exact ⟨hAb _, fin⟩
            | cons w r =>
              simp only [go_sem, lvI]
              exact ⟨hAb _, fin⟩
  · have d1 : decide (listE t l = 0) = false := decide_eq_false ho
    obtain ⟨a, b, c, d, hb⟩ := listB_is t l
    rw [if_pos ho, hb]
    simp only [go_sem, d1, wrongV, if_pos ho]
end Go.Aw
end

section
set_option maxRecDepth 100000
namespace Go.Aw
open Go Go.Proofs.Tryz

theorem take_succ_eq {α : Type} {a b : List α} {i : Nat} (ha : i < a.length) (hb : i < b.length) (h : a.take i = b.take i) : a.take (i + 1) = b.take (i + 1) ↔ a[i] = b[i] := by
  rw [List.take_succ_eq_append_getElem ha, h, List.take_succ_eq_append_getElem hb]
  simp only [List.append_cancel_left_eq, List.cons.injEq, and_true]

theorem c22 (a b : List Int) (ha : a.length ≤ 4294967296) (hb : b.length ≤ 4294967296) : PC prog 22 [.d (.sl (a.map (.int .i64))), .d (.sl (b.map (.int .i64)))] (.d (.bool (decide (a = b)))) := by
  refine PC.run (fun _ => false) tt_ok (fn := f22) (rs := [.tmp 4]) rfl rfl rfl rfl rfl rfl rfl ?_
  simp only [go_sem]
  refine Br_split (fun hc => ?_) (fun hc => ?_) <;> simp only [go_sem, hc]
  · have : a ≠ b := fun e => by subst e; simp at hc
    simp [this]
  · have hlen : a.length = b.length := by simp at hc; omega
    refine ALoop.by (S := Nat) (fun i => [(5, .d (.int .i64 i)), (0, .d (.sl (a.map (.int .i64)))), (1, .d (.sl (b.map (.int .i64))))]) (fun i => []) (fun i => a.length - i) (fun i => i ≤ a.length ∧ a.take i = b.take i) 0 (by simp) (fun _ h => nomatch h) ⟨Nat.zero_le _, rfl⟩ ?_ ?_
    · simp [ForgetTo, EW, VW, BBq, BBs, BB, VBs, VB, Env.look, pubV]
    · rintro i ⟨hi, hx⟩ hn
      refine AWP.run (fun _ => false) tt_ok (fun _ h => nomatch h) (by simp) rfl ?_
      simp only [go_sem]
      refine Br_split (fun hd => ?_) (fun hd => ?_) <;> simp only [go_sem, hd]
      · have hlt : i < a.length := by simpa using hd
        have hlt' : i < b.length := by omega
        have hs := take_succ_eq hlt hlt' hx
        have hne : a[i] ≠ b[i] → a ≠ b := fun h e => h (by subst e; rfl)
        refine ADrw.treeG (fun _ => false) tt_ok (by kernel_rfl) (fun k => .some .S) (.ones [0, 1, 2, 3, 4, 5, 6, 7, 8] .done) (by simp) (fun _ h => nomatch h) rfl rfl (by kernel_rfl) ?_
        simp only [go_sem, idx_nat, List.getElem?_map, List.getElem?_eq_getElem hlt, List.getElem?_eq_getElem hlt', Tm.d, Spn.d, beq_str]
        generalize a[i] = x at hs hne
        generalize b[i] = y at hs hne
        refine Br_split (fun he => ?_) (fun he => ?_) <;> simp only [go_sem, he]
        · have hxy : x ≠ y := fun e => by subst e; simp at he
          simp [hne hxy]
        · have heq : x = y := by first | (simpa using he) | (cases x; cases y; simpa using he)
          refine ⟨i + 1, ⟨hlt, hs.2 heq⟩, by omega, ?_⟩
          simp [ForgetTo, EW, VW, BBq, BBs, BB, VBs, VB, Env.look, pubV, w64 (n := (i : Int) + 1) (by omega) (by omega)]
      · have hlt : ¬ i < a.length := by simpa using hd
        rw [List.take_of_length_le (by omega), List.take_of_length_le (by omega)] at hx
        simp [hx]

theorem c31 (a b : List ByteArray) (ha : a.length ≤ 4294967296) (hb : b.length ≤ 4294967296) : PC prog 31 [.d (.sl (a.map .str)), .d (.sl (b.map .str))] (.d (.bool (decide (a = b)))) := by
  refine PC.run (fun _ => false) tt_ok (fn := f31) (rs := [.tmp 4]) rfl rfl rfl rfl rfl rfl rfl ?_
  simp only [go_sem]
  refine Br_split (fun hc => ?_) (fun hc => ?_) <;> simp only [go_sem, hc]
  · have : a ≠ b := fun e => by subst e; simp at hc
    simp [this]
  · have hlen : a.length = b.length := by simp at hc; omega
    refine ALoop.by (S := Nat) (fun i => [(5, .d (.int .i64 i)), (0, .d (.sl (a.map .str))), (1, .d (.sl (b.map .str)))]) (fun i => []) (fun i => a.length - i) (fun i => i ≤ a.length ∧ a.take i = b.take i) 0 (by simp) (fun _ h => nomatch h) ⟨Nat.zero_le _, rfl⟩ ?_ ?_
    · simp [ForgetTo, EW, VW, BBq, BBs, BB, VBs, VB, Env.look, pubV]
    · rintro i ⟨hi, hx⟩ hn
      refine AWP.run (fun _ => false) tt_ok (fun _ h => nomatch h) (by simp) rfl ?_
      simp only [go_sem]
      refine Br_split (fun hd => ?_) (fun hd => ?_) <;> simp only [go_sem, hd]
      · have hlt : i < a.length := by simpa using hd
        have hlt' : i < b.length := by omega
        have hs := take_succ_eq hlt hlt' hx
        have hne : a[i] ≠ b[i] → a ≠ b := fun h e => h (by subst e; rfl)
        refine ADrw.treeG (fun _ => false) tt_ok (by kernel_rfl) (fun k => .some .S) (.ones [0, 1, 2, 3, 4, 5, 6, 7, 8] .done) (by simp) (fun _ h => nomatch h) rfl rfl (by kernel_rfl) ?_
        simp only [go_sem, idx_nat, List.getElem?_map, List.getElem?_eq_getElem hlt, List.getElem?_eq_getElem hlt', Tm.d, Spn.d, beq_str]
        generalize a[i] = x at hs hne
        generalize b[i] = y at hs hne
        refine Br_split (fun he => ?_) (fun he => ?_) <;> simp only [go_sem, he]
        · have hxy : x ≠ y := fun e => by subst e; simp at he
          simp [hne hxy]
        · have heq : x = y := by first | (simpa using he) | (cases x; cases y; simpa using he)
          refine ⟨i + 1, ⟨hlt, hs.2 heq⟩, by omega, ?_⟩
          simp [ForgetTo, EW, VW, BBq, BBs, BB, VBs, VB, Env.look, pubV, w64 (n := (i : Int) + 1) (by omega) (by omega)]
      · have hlt : ¬ i < a.length := by simpa using hd
        rw [List.take_of_length_le (by omega), List.take_of_length_le (by omega)] at hx
        simp [hx]

theorem c33 (a b : List Tm) (ha : a.length ≤ 4294967296) (hb : b.length ≤ 4294967296) : PC prog 33 [.d (.sl (a.map Tm.d)), .d (.sl (b.map Tm.d))] (.d (.bool (decide (a = b)))) := by
  refine PC.run (fun _ => false) tt_ok (fn := f33) (rs := [.tmp 4]) rfl rfl rfl rfl rfl rfl rfl ?_
  simp only [go_sem]
  refine Br_split (fun hc => ?_) (fun hc => ?_) <;> simp only [go_sem, hc]
  · have : a ≠ b := fun e => by subst e; simp at hc
    simp [this]
  · have hlen : a.length = b.length := by simp at hc; omega
    refine ALoop.by (S := Nat) (fun i => [(5, .d (.int .i64 i)), (0, .d (.sl (a.map Tm.d))), (1, .d (.sl (b.map Tm.d)))]) (fun i => []) (fun i => a.length - i) (fun i => i ≤ a.length ∧ a.take i = b.take i) 0 (by simp) (fun _ h => nomatch h) ⟨Nat.zero_le _, rfl⟩ ?_ ?_
    · simp [ForgetTo, EW, VW, BBq, BBs, BB, VBs, VB, Env.look, pubV]
    · rintro i ⟨hi, hx⟩ hn
      refine AWP.run (fun _ => false) tt_ok (fun _ h => nomatch h) (by simp) rfl ?_
      simp only [go_sem]
      refine Br_split (fun hd => ?_) (fun hd => ?_) <;> simp only [go_sem, hd]
      · have hlt : i < a.length := by simpa using hd
        have hlt' : i < b.length := by omega
        have hs := take_succ_eq hlt hlt' hx
        have hne : a[i] ≠ b[i] → a ≠ b := fun h e => h (by subst e; rfl)
        refine ADrw.treeG (fun _ => false) tt_ok (by kernel_rfl) (fun k => .some .S) (.ones [0, 1, 2, 3, 4, 5, 6, 7, 8] .done) (by simp) (fun _ h => nomatch h) rfl rfl (by kernel_rfl) ?_
        simp only [go_sem, idx_nat, List.getElem?_map, List.getElem?_eq_getElem hlt, List.getElem?_eq_getElem hlt', Tm.d, Spn.d, beq_str]
        generalize a[i] = x at hs hne
        generalize b[i] = y at hs hne
        refine Br_split (fun he => ?_) (fun he => ?_) <;> simp only [go_sem, he]
        · have hxy : x ≠ y := fun e => by subst e; simp at he
          simp [hne hxy]
        · have heq : x = y := by first | (simpa using he) | (cases x; cases y; simpa using he)
          refine ⟨i + 1, ⟨hlt, hs.2 heq⟩, by omega, ?_⟩
          simp [ForgetTo, EW, VW, BBq, BBs, BB, VBs, VB, Env.look, pubV, w64 (n := (i : Int) + 1) (by omega) (by omega)]
      · have hlt : ¬ i < a.length := by simpa using hd
        rw [List.take_of_length_le (by omega), List.take_of_length_le (by omega)] at hx
        simp [hx]

theorem c51 (a b : List Spn) (ha : a.length ≤ 4294967296) (hb : b.length ≤ 4294967296) : PC prog 51 [.d (.sl (a.map Spn.d)), .d (.sl (b.map Spn.d))] (.d (.bool (decide (a = b)))) := by
  refine PC.run (fun _ => false) tt_ok (fn := f51) (rs := [.tmp 4]) rfl rfl rfl rfl rfl rfl rfl ?_
  simp only [go_sem]
  refine Br_split (fun hc => ?_) (fun hc => ?_) <;> simp only [go_sem, hc]
  · have : a ≠ b := fun e => by subst e; simp at hc
    simp [this]
  · have hlen : a.length = b.length := by simp at hc; omega
    refine ALoop.by (S := Nat) (fun i => [(5, .d (.int .i64 i)), (0, .d (.sl (a.map Spn.d))), (1, .d (.sl (b.map Spn.d)))]) (fun i => []) (fun i => a.length - i) (fun i => i ≤ a.length ∧ a.take i = b.take i) 0 (by simp) (fun _ h => nomatch h) ⟨Nat.zero_le _, rfl⟩ ?_ ?_
    · simp [ForgetTo, EW, VW, BBq, BBs, BB, VBs, VB, Env.look, pubV]
    · rintro i ⟨hi, hx⟩ hn
      refine AWP.run (fun _ => false) tt_ok (fun _ h => nomatch h) (by simp) rfl ?_
      simp only [go_sem]
      refine Br_split (fun hd => ?_) (fun hd => ?_) <;> simp only [go_sem, hd]
      · have hlt : i < a.length := by simpa using hd
        have hlt' : i < b.length := by omega
        have hs := take_succ_eq hlt hlt' hx
        have hne : a[i] ≠ b[i] → a ≠ b := fun h e => h (by subst e; rfl)
        refine ADrw.treeG (fun _ => false) tt_ok (by kernel_rfl) (fun k => .some .S) (.ones [0, 1, 2, 3, 4, 5, 6, 7, 8] .done) (by simp) (fun _ h => nomatch h) rfl rfl (by kernel_rfl) ?_
        simp only [go_sem, idx_nat, List.getElem?_map, List.getElem?_eq_getElem hlt, List.getElem?_eq_getElem hlt', Tm.d, Spn.d, beq_str]
        generalize a[i] = x at hs hne
        generalize b[i] = y at hs hne
        refine Br_split (fun he => ?_) (fun he => ?_) <;> simp only [go_sem, he]
        · have hxy : x ≠ y := fun e => by subst e; simp at he
          simp [hne hxy]
        · have heq : x = y := by first | (simpa using he) | (cases x; cases y; simpa using he)
          refine ⟨i + 1, ⟨hlt, hs.2 heq⟩, by omega, ?_⟩
          simp [ForgetTo, EW, VW, BBq, BBs, BB, VBs, VB, Env.look, pubV, w64 (n := (i : Int) + 1) (by omega) (by omega)]
      · have hlt : ¬ i < a.length := by simpa using hd
        rw [List.take_of_length_le (by omega), List.take_of_length_le (by omega)] at hx
        simp [hx]

theorem c26 (n a b : Int) : PC prog 26 [.d (.int .i64 n), .d (.int .i64 a), .d (.int .i64 b)] (.d (.bool (decide (a ≤ n ∧ n ≤ b)))) := by
  refine PC.run (fun _ => false) tt_ok (fn := f26) (rs := [.tmp 6]) rfl rfl rfl rfl rfl rfl rfl ?_
  simp only [go_sem]
  by_cases h1 : a ≤ n
  · simp only [go_sem, decide_eq_true h1]
    by_cases h2 : n ≤ b
    · rw [decide_eq_true (show a ≤ n ∧ n ≤ b from ⟨h1, h2⟩)]
      simp only [go_sem, decide_eq_true h2]
    · rw [decide_eq_false (show ¬ (a ≤ n ∧ n ≤ b) from fun h => h2 h.2)]
      simp only [go_sem, decide_eq_false h2]
  · rw [decide_eq_false (show ¬ (a ≤ n ∧ n ≤ b) from fun h => h1 h.1)]
    simp only [go_sem, decide_eq_false h1]

theorem c61 (at0 st : Int) (name : ByteArray) : PC prog 61 [.d (.int .i64 at0), .d (.int .i64 st), .d (.str name)] (.d (.agg [.int .i64 at0, .int .i64 st, .str name])) := by
  refine PC.run (fun _ => false) tt_ok (fn := f61) (rs := [.cell 6 60]) rfl rfl rfl rfl rfl rfl rfl ?_
  simp only [go_sem]

theorem c62 (a b : Int) : PC prog 62 [.d (.int .i64 a), .d (.int .i64 b)] (.d (.agg [.int .i64 a, .int .i64 b])) := by
  refine PC.run (fun _ => false) tt_ok (fn := f62) (rs := [.cell 4 75]) rfl rfl rfl rfl rfl rfl rfl ?_
  simp only [go_sem]

def sMill : ByteArray := ⟨#[109, 105, 108, 108]⟩
def sChurch : ByteArray := ⟨#[99, 104, 117, 114, 99, 104]⟩
def sKing : ByteArray := ⟨#[107, 105, 110, 103]⟩
def sQueen : ByteArray := ⟨#[113, 117, 101, 101, 110]⟩
def sCrown : ByteArray := ⟨#[99, 114, 111, 119, 110]⟩
def sKin : ByteArray := ⟨#[107, 105, 110]⟩
def sMil : ByteArray := ⟨#[109, 105, 108]⟩

/-- The town of the document, with more changes. -/
def exT (more : List Chg) : Town := ⟨[sMill, sChurch, sKing], [⟨100, 2, sQueen⟩, ⟨200, 0, sKing⟩, ⟨300, 2, sMill⟩] ++ more⟩
def exO : List Ord := [⟨0, 150, sMill⟩, ⟨0, 210, sMill⟩, ⟨2, 120, sQueen⟩]

theorem c64 (more : List Chg) (hl : more.length ≤ 1000) : PC prog 64 [.d (.sl (more.map Chg.d))] (.d (exT more).d) := by
  refine PC.run (fun _ => false) tt_ok (fn := f64) (rs := [.cell 2 25]) rfl rfl rfl rfl rfl rfl rfl ?_
  have hs := sized_chg more
  simp only [go_sem]
  refine (c61 100 2 sQueen).call rfl rfl rfl ?_
  simp only [go_sem]
  refine (c61 200 0 sKing).call rfl rfl rfl ?_
  simp only [go_sem]
  refine (c61 300 2 sMill).call rfl rfl rfl ?_
  have d1 : decide (3 + more.length ≤ 4294967296) = true := decide_eq_true (by omega)
  simp only [go_sem, hs, List.length_map, d1]
  rfl

theorem c65 : PC prog 65 [] (.slx (some false) (exO.map Ord.d)) := by
  refine PC.run (fun _ => false) tt_ok (fn := f65) (rs := [.tmp 0]) rfl rfl rfl rfl rfl rfl rfl ?_
  simp only [go_sem]
  rfl

theorem exT_small (more : List Chg) (hl : more.length ≤ 90) (h : ∀ c ∈ more, c.name.size ≤ 1000) : (exT more).Small := by
  refine ⟨by simp [exT], by simp [exT]; omega, ?_, ?_⟩
  · intro s hs
    simp only [exT, List.mem_cons, List.not_mem_nil, or_false] at hs
    rcases hs with rfl | rfl | rfl <;> decide
  · intro c hc
    simp only [exT, List.cons_append, List.nil_append, List.mem_cons] at hc
    rcases hc with rfl | rfl | rfl | hc
    · decide
    · decide
    · decide
    · exact h c hc

theorem ex_clash : clashP (exT []) = (0, [], 6) := by decide +kernel
theorem ex_clash2 : clashP (exT [⟨250, 1, sKing⟩]) = (250, [0, 1], 0) := by decide +kernel
theorem ex_name : nameP (exT []) 0 199 = (sMill, 0) := by decide +kernel
theorem ex_who : whoP (exT []) sKing 250 = (0, 0) := by decide +kernel
theorem ex_history : historyP (exT []) 2 = ([⟨sKing, 0, 99⟩, ⟨sQueen, 100, 299⟩, ⟨sMill, 300, 1000⟩], 0) := by decide +kernel
theorem ex_again : againP (exT []) = ([sKing, sMill], 0) := by decide +kernel
theorem ex_must : mustP (exT []) exO = ([sMill, sKing, sQueen], [1], 0) := by decide +kernel
theorem ex_open : openE (exT []) = 0 := by decide +kernel
theorem ex_changed : changedP (exT []) exO ⟨110, 2, sCrown⟩ = ([2], 0) := by decide +kernel
theorem ex_meant : meantP (exT []) sKin ⟨50, 150, 1⟩ = ([], [2], 0) := by decide +kernel
theorem ex_merr : mnErr (exT []) sKin ⟨50, 150, 1⟩ = 0 := by decide +kernel
theorem ex_near : nearP (exT []) sMil 250 = ([0], 3, 0) := by decide +kernel
theorem ex_hours : hoursP (exT []) [⟨2, sQueen⟩, ⟨0, sKing⟩] = ([⟨200, 299⟩], 0) := by decide +kernel
theorem ex_wrong : wrongP (exT []) [⟨2, sQueen⟩, ⟨0, sMill⟩, ⟨1, sKing⟩] = ([2], 0) := by decide +kernel
end Go.Aw
end

section
set_option maxRecDepth 100000
namespace Go.Aw
open Go Go.Proofs.Tryz

theorem beq_ba (x : ByteArray) : (x == x) = true := by rw [beq_str]; simp

def meantW (t : Town) (word : ByteArray) (a : Ask) : V := if mnErr t word a ≠ 0 then .tup [.slx (some true) [], .slx (some true) [], .d (.int .i64 (mnErr t word a))] else meantV t word a
theorem c42' (t : Town) (hs : t.Small) (word : ByteArray) (hw : word.size ≤ 1000) (a : Ask) : PC prog 42 [.d t.d, .d (.str word), .d a.d] (meantW t word a) := c42 t hs word hw a

def exD : D := (exT []).d
theorem exS : (exT []).Small := exT_small [] (by simp) (fun c h => by simp at h)

theorem c15 : PC prog 15 [] (.d (.bool true)) := by
  have c64a := c64 [] (by simp)
  have hE : (exT []).d = exD := rfl
  have k18 := c18 (exT []) exS
  rw [ex_clash] at k18
  have k18b := c18 (exT [⟨250, 1, sKing⟩]) (exT_small _ (by simp) (fun c h => by simp at h; subst h; decide))
  rw [ex_clash2] at k18b
  have k23 := c23 (exT []) exS 0 199
  rw [ex_name] at k23
  have k24 := c24 (exT []) exS sKing (by decide) 250
  rw [ex_who] at k24
  have k29 := c29 (exT []) exS 2
  rw [ex_history] at k29
  have k30 := c30 (exT []) exS
  rw [ex_again] at k30
  have k35 := c35 (exT []) exS exO (by decide) (by decide)
  rw [ex_must, ex_open] at k35
  have k36 := c36 (exT []) exS exO (by decide) (by decide) ⟨110, 2, sCrown⟩ (by decide)
  rw [ex_changed] at k36
  have k42 := c42' (exT []) exS sKin (by decide) ⟨50, 150, 1⟩
  rw [meantW, ex_merr, meantV, ex_meant] at k42
  have k43 := c43 (exT []) exS sMil (by decide) 250
  rw [ex_near] at k43
  have k46 := c46 (exT []) exS [⟨2, sQueen⟩, ⟨0, sKing⟩] (by decide) (by decide)
  rw [ex_hours] at k46
  have k47 := c47 (exT []) exS [⟨2, sQueen⟩, ⟨0, sMill⟩, ⟨1, sKing⟩] (by decide) (by decide)
  rw [ex_wrong] at k47
  simp only [hE] at c64a k18 k23 k24 k29 k30 k35 k36 k42 k43 k46 k47
  generalize exD = X at *
  refine PC.run (fun _ => false) tt_ok (fn := f15) (rs := [.tmp 0]) rfl rfl rfl rfl rfl rfl rfl ?_
  simp only [go_sem]
  refine c64a.call rfl rfl rfl ?_
  simp only [go_sem]
  refine k18.call rfl rfl rfl ?_
  simp only [go_sem, lvI]
  refine (c61 250 1 sKing).call rfl rfl rfl ?_
  simp only [go_sem]
  refine (c64 [⟨250, 1, sKing⟩] (by simp)).call rfl rfl rfl ?_
  simp only [go_sem]
  refine k18b.call rfl rfl rfl ?_
  simp only [go_sem, lvI]
  refine c64a.call rfl rfl rfl ?_
  simp only [go_sem]
  refine k23.call rfl rfl rfl ?_
  simp only [go_sem]
  refine c64a.call rfl rfl rfl ?_
  simp only [go_sem]
  refine k24.call rfl rfl rfl ?_
  simp only [go_sem]
  refine c64a.call rfl rfl rfl ?_
  simp only [go_sem]
  refine k29.call rfl rfl rfl ?_
  simp only [go_sem, histV, ne_eq, not_true_eq_false, if_false]
  refine c64a.call rfl rfl rfl ?_
  simp only [go_sem]
  refine k30.call rfl rfl rfl ?_
  simp only [go_sem, againV, ne_eq, not_true_eq_false, if_false]
  refine c64a.call rfl rfl rfl ?_
  simp only [go_sem]
  refine c65.call rfl rfl rfl ?_
  simp only [go_sem]
  refine k35.call rfl rfl rfl ?_
  simp only [go_sem, ne_eq, not_true_eq_false, if_false]
  refine c64a.call rfl rfl rfl ?_
  simp only [go_sem]
  refine c65.call rfl rfl rfl ?_
  simp only [go_sem]
  refine (c61 110 2 sCrown).call rfl rfl rfl ?_
  simp only [go_sem]
  refine k36.call rfl rfl rfl ?_
  simp only [go_sem, chdV, ne_eq, not_true_eq_false, if_false]
  refine c64a.call rfl rfl rfl ?_
  simp only [go_sem]
  refine (c62 50 150).call rfl rfl rfl ?_
  simp only [go_sem]
  refine k42.call rfl rfl rfl ?_
  simp only [go_sem, ne_eq, not_true_eq_false, if_false]
  refine c64a.call rfl rfl rfl ?_
  simp only [go_sem]
  refine k43.call rfl rfl rfl ?_
  simp only [go_sem]
  refine c64a.call rfl rfl rfl ?_
  simp only [go_sem]
  refine k46.call rfl rfl rfl ?_
  simp only [go_sem, hoursV, ne_eq, not_true_eq_false, if_false]
  refine c64a.call rfl rfl rfl ?_
  simp only [go_sem]
  refine k47.call rfl rfl rfl ?_
  simp only [go_sem, wrongV, ne_eq, not_true_eq_false, if_false]
  have hd0 : ∀ {α : Type} [DecidableEq α] (l : List α), decide (l = l) = true := fun l => by simp
  refine (c22 [0, 1] [0, 1] (by simp) (by simp)).call rfl rfl rfl ?_
  simp only [go_sem, hd0, beq_ba]
  refine (c62 0 99).call rfl rfl rfl ?_
  simp only [go_sem, hd0, beq_ba]
  refine (c62 100 299).call rfl rfl rfl ?_
  simp only [go_sem, hd0, beq_ba]
  refine (c62 300 1000).call rfl rfl rfl ?_
  simp only [go_sem, hd0, beq_ba]
  refine (c33 [⟨sKing, 0, 99⟩, ⟨sQueen, 100, 299⟩, ⟨sMill, 300, 1000⟩] [⟨sKing, 0, 99⟩, ⟨sQueen, 100, 299⟩, ⟨sMill, 300, 1000⟩] (by simp) (by simp)).call rfl rfl rfl ?_
  simp only [go_sem, hd0, beq_ba]
  refine (c31 [sKing, sMill] [sKing, sMill] (by simp) (by simp)).call rfl rfl rfl ?_
  simp only [go_sem, hd0, beq_ba]
  refine (c31 [sMill, sKing, sQueen] [sMill, sKing, sQueen] (by simp) (by simp)).call rfl rfl rfl ?_
  simp only [go_sem, hd0, beq_ba]
  refine (c22 [1] [1] (by simp) (by simp)).call rfl rfl rfl ?_
  simp only [go_sem, hd0, beq_ba]
  refine (c22 [2] [2] (by simp) (by simp)).call rfl rfl rfl ?_
  simp only [go_sem, hd0, beq_ba]
  refine (c22 [2] [2] (by simp) (by simp)).call rfl rfl rfl ?_
  simp only [go_sem, hd0, beq_ba]
  refine (c22 [0] [0] (by simp) (by simp)).call rfl rfl rfl ?_
  simp only [go_sem, hd0, beq_ba]
  refine (c62 200 299).call rfl rfl rfl ?_
  simp only [go_sem, hd0, beq_ba]
  refine (c51 [⟨200, 299⟩] [⟨200, 299⟩] (by simp) (by simp)).call rfl rfl rfl ?_
  simp only [go_sem, hd0, beq_ba]
  refine (c22 [2] [2] (by simp) (by simp)).call rfl rfl rfl ?_
  simp only [go_sem, hd0, beq_ba]
end Go.Aw
end
