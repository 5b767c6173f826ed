/- Calls, regions that draw nothing, control. Code: what the evaluator says is what the model does. The newest blocks of the abstract heap dropped; what lay in them is never written again. The newest blocks of the abstract heap dropped: states and steps. States that say less; functions. Calls: a contract on data alone, used where there is a heap; rows lent, or given away. What the evaluator knows of a program's types: computed, and right for every program. The doors: a function's contract from the evaluator; a contract put to use. -/
import Derived.Test.YtglcghgokedbcaaA2
import Derived.LoopNIn
import Derived.RangeFuncRecord
import Derived.Laws.StructEq
set_option linter.unusedSimpArgs false
set_option linter.unusedVariables false

section
namespace Go.Aw
open Go

/-- The blocks of the abstract heap up to a number stay what they are. -/
def AgN (n : Nat) (g : G) (H : Heap) (w : World) (g' : G) (H' : Heap) (w' : World) : Prop :=
  n ≤ H.length ∧ n ≤ H'.length ∧ Ag g (H.take n) w g' (H'.take n) w'

def mkMark (r : Nat) : Deferred := { target := .collected r, args := #[] }

/-- The marks of loops over functions that this activation has ended. -/
def DfOK (m0 : Nat) (g : G) (w : World) (ds : List Deferred) : Prop :=
  m0 ≤ w.heap.size ∧ ∃ rs : List Nat, ds = rs.map mkMark ∧ rs.Nodup ∧ ∀ r ∈ rs, m0 ≤ r ∧ w.heap[r]? = some (.deferred (some [])) ∧ ∀ id : Nat, g.φ[id]? ≠ some (some r)

def exOf : Ex → Exit
  | .normal => .normal
  | .exit id => .exit id
  | .ret => .ret

def Rnd (g : G) (H : Heap) (r : Option Nat) (l : Option Nat) : Prop :=
  match r with
  | none => l = none
  | some id => ∃ b st pend E ps x y, l = some b ∧ g.φ[id]? = some (some b) ∧ H[id]? = some (.loop st pend E ps x y)

structure Rel (N : Nat) (r l : Option Nat) (m0 : Nat) (g : G) (E : Env) (H : Heap) (a : Act) (w : World) : Prop where
  hr : HR g H w
  er : ER g H w E a.tmps
  sz : a.tmps.size = N
  rnd : Rnd g H r l
  df : DfOK m0 g w a.defers

def XPost (N n0 : Nat) (r l : Option Nat) (m0 : Nat) (g : G) (H : Heap) (w : World) (Q : Ex → Env → Heap → Prop) (e : Exit) (a' : Act) (w' : World) : Prop :=
  ∃ x E' H' g', exOf x = e ∧ Q x E' H' ∧ Rel N r l m0 g' E' H' a' w' ∧ Kp g w g' w' ∧ AgN n0 g H w g' H' w'

/-- The code does, from every world that fits, what is said on abstract values. N: the number of slots; n0: how many blocks of the heap were there when the frame began; r: the loop whose round this is. -/
def AWP (P : Program) (N n0 : Nat) (r : Option Nat) (c : Code) (E : Env) (H : Heap) (Q : Ex → Env → Heap → Prop) : Prop :=
  n0 ≤ H.length ∧ (∀ id, r = some id → id < n0) ∧ ∀ g w a l m0, Rel N r l m0 g E H a w → c.wpIn (FR l) 0 P (XPost N n0 r l m0 g H w Q) a w

theorem Ag_take {n : Nat} {g g' : G} {H H' : Heap} {w w' : World} (h : Ag g H w g' H' w') : Ag g (H.take n) w g' (H'.take n) w' := by
  intro id x hx
  rw [List.getElem?_take] at hx
  split at hx
  · rename_i hlt
    have := h id x hx
    have ht : (H'.take n)[id]? = H'[id]? := List.getElem?_take_of_lt hlt
    cases x with
    | cells cs => obtain ⟨⟨cs', h1, h2⟩, h3⟩ := this; exact ⟨⟨cs', ht.trans h1, h2⟩, h3⟩
    | arr sz nl els => obtain ⟨nl', els', h1, h2⟩ := this; exact ⟨nl', els', ht.trans h1, h2⟩
    | loop st pend E ps y z => obtain ⟨⟨st', pend', h1⟩, h2⟩ := this; exact ⟨⟨st', pend', ht.trans h1⟩, h2⟩
  · cases hx

theorem Ag_len {g g' : G} {H H' : Heap} {w w' : World} (h : Ag g H w g' H' w') : H.length ≤ H'.length := by
  rcases Nat.eq_zero_or_pos H.length with h0 | h0
  · omega
  · have hx := List.getElem?_eq_getElem (show H.length - 1 < H.length by omega)
    have := h _ _ hx
    have key : ∃ y, H'[H.length - 1]? = some y := by
      generalize H[H.length - 1] = x at this
      cases x with
      | cells cs => obtain ⟨⟨cs', h1, _⟩, _⟩ := this; exact ⟨_, h1⟩
      | arr sz nl els => obtain ⟨nl', els', h1, _⟩ := this; exact ⟨_, h1⟩
      | loop st pend E ps y z => obtain ⟨⟨st', pend', h1⟩, _⟩ := this; exact ⟨_, h1⟩
    obtain ⟨y, hy⟩ := key
    have := lt_of_getElem? hy
    omega

theorem AgN.of_ag {n : Nat} {g g' : G} {H H' : Heap} {w w' : World} (hn : n ≤ H.length) (h : Ag g H w g' H' w') : AgN n g H w g' H' w' :=
  ⟨hn, Nat.le_trans hn (Ag_len h), Ag_take h⟩

theorem AgN.trans {n : Nat} {g g' g'' : G} {H H' H'' : Heap} {w w' w'' : World} (h : AgN n g H w g' H' w') (k : AgN n g' H' w' g'' H'' w'') : AgN n g H w g'' H'' w'' :=
  ⟨h.1, k.2.1, h.2.2.trans k.2.2⟩

theorem AgN.refl {n : Nat} {g : G} {H : Heap} {w : World} (hn : n ≤ H.length) : AgN n g H w g H w := ⟨hn, hn, Ag.refl _ _ _⟩

theorem DfOK.kp {g g' : G} {w w' : World} {ds : List Deferred} {m0 : Nat} (h : DfOK m0 g w ds) (k : Kp g w g' w') : DfOK m0 g' w' ds := by
  obtain ⟨h0, rs, h1, h2, h3⟩ := h
  refine ⟨Nat.le_trans h0 k.size, rs, h1, h2, fun r hr => ?_⟩
  obtain ⟨h6, h4, h5⟩ := h3 r hr
  have hlt : r < w.heap.size := (Array.getElem?_eq_some_iff.1 h4).1
  refine ⟨h6, (k.fr r hlt h5).trans h4, fun id hid => ?_⟩
  rcases k.pn id r hid with h' | h'
  · exact h5 id h'
  · omega

theorem Rnd.agn {g g' : G} {H H' : Heap} {w w' : World} {r l : Option Nat} {n : Nat} (h : Rnd g H r l) (hn : ∀ id, r = some id → id < n) (k : AgN n g H w g' H' w') : Rnd g' H' r l := by
  cases r with
  | none => exact h
  | some id =>
    obtain ⟨b, st, pend, E, ps, x, y, h1, h2, h3⟩ := h
    have hlt := hn id rfl
    have h4 := k.2.2 id _ (by rw [List.getElem?_take_of_lt hlt]; exact h3)
    obtain ⟨⟨st', pend', h5⟩, h6⟩ := h4
    rw [List.getElem?_take_of_lt hlt] at h5
    exact ⟨b, st', pend', E, ps, x, y, h1, h6.trans h2, h5⟩

section
variable {P : Program} {T : Nat → Ty} {hint : Nat → Bool}

theorem ER_put {g : G} {H : Heap} {w : World} {E : Env} {a : Act} (he : ER g H w E a.tmps) {dst : Option Tmp} (hd : ∀ d, dst = some d → d < a.tmps.size) {v : V} {cv : Value} (hv : VR g H w v cv) :
    ER g H w (put E dst v) (a.put dst cv).tmps := by
  cases dst with
  | none => exact he
  | some d =>
    intro t
    have hdl := hd d rfl
    simp only [put, Act.put]
    by_cases ht : t = d
    · subst ht
      simp only [Env.look, if_true]
      rw [Array.getD_eq_getD_getElem?, Array.getElem?_setIfInBounds_self_of_lt hdl]
      exact hv
    · simp only [Env.look]
      rw [if_neg (fun e => ht e.symm), Array.getD_eq_getD_getElem?, Array.getElem?_setIfInBounds_ne (fun e => ht e.symm), ← Array.getD_eq_getD_getElem?]
      exact he t

theorem ER_mono {g g' : G} {H H' : Heap} {w w' : World} {E : Env} {tmps : Array Value} (he : ER g H w E tmps) (hz : Zk g.Z g'.Z w w') (ha : Ag g H w g' H' w') : ER g' H' w' E tmps :=
  fun t => VR_mono hz ha _ _ (he t)

theorem put_size (a : Act) (dst : Option Tmp) (v : Value) : (a.put dst v).tmps.size = a.tmps.size := by
  cases dst <;> simp [Act.put]

theorem put_defers (a : Act) (dst : Option Tmp) (v : Value) : (a.put dst v).defers = a.defers := by
  cases dst <;> rfl

/-- A call, as an operation. -/
theorem call_sound {g : G} {H : Heap} {w : World} {E : Env} {K : V → Heap → Prop} (hr : HR g H w) {a : Act} (he : ER g H w E a.tmps) {o : Oper} {c : Call} {f : Operand} (ho : o.op = .call c) (hf : c.callee = .value f)
    (h : ACallV P (ge E f) (c.args.toList.map (ge E)) H K) {l : Option Nat} {next : Act → World → Prop} {Q : Exit → Act → World → Prop}
    (hnext : ∀ v H' cv w' g', K v H' → VR g' H' w' v cv → HR g' H' w' → Kp g w g' w' → Ag g H w g' H' w' → next (a.put o.dst cv) w') : o.wpIn (FR l) 0 P a w next Q := by
  refine ⟨fun _ _ => trivial, ?_⟩
  rw [Oper.semAt_eq _ _ _ (by rw [ho]; simp)]
  have hargs := ges_sound he c.args.toList
  have hfv := ge_sound he f
  have hex : (execOp a.eval o).run P w = ((do let d ← Deferred.ofValue (a.eval f) (c.args.map a.eval); invoke d.target d.args : Sem Next)).run P w := by
    unfold execOp
    rw [ho]
    simp only [resolve, hf]
  rw [hex]
  unfold ACallV at h
  split at h
  · rename_i k first cap hg
    rw [hg] at hfv
    simp only [VR] at hfv
    obtain ⟨x', y', hfe, h1, h2⟩ := hfv
    obtain ⟨hb, hc⟩ := h
    rw [hfe]
    have hrun : ((do let d ← Deferred.ofValue (.func (.func k) x' y') (c.args.map a.eval); invoke d.target d.args : Sem Next)).run P w = .ok (.enter k (x' ++ c.args.map a.eval ++ y')) w := by
      simp only [Deferred.ofValue, Sem.run_bind, Sem.run_pure, Result.andThen_ok, invoke]
      exact run_callFunc hb _
    rw [hrun]
    refine ⟨fun _ => by simp_all [FR, Fence.wide], ?_⟩
    have hvs : VRs g H w (first ++ c.args.toList.map (ge E) ++ cap) (x' ++ c.args.map a.eval ++ y').toList := by
      simp only [Array.toList_append, Array.toList_map]
      exact VRs_append _ _ _ _ (VRs_append _ _ _ _ h1 hargs) h2
    have := hc g w _ hr hvs
    simp only [Array.toArray_toList] at this
    refine CallsIn.mono (F := FR l) (n := 0) this ?_
    rintro e w' ⟨v, g', r, H', rfl, k1, k2, k3, k4, k5⟩
    exact hnext r H' v w' g' k1 k2 k3 k4 k5
  · rename_i id hg
    rw [hg] at hfv
    simp only [VR] at hfv
    obtain ⟨_, _, b, _, _, _, _, _, _, _, hφ, hfe⟩ := hfv
    rw [hfe]
    obtain ⟨fn, tmps, x, y, h1, h2⟩ := h g w _ b hr hargs hφ
    have hrun : ((do let d ← Deferred.ofValue (.func (.yield b) #[] #[]) (c.args.map a.eval); invoke d.target d.args : Sem Next)).run P w = .ok (.round b fn tmps x y) w := by
      simp only [Deferred.ofValue, Sem.run_bind, Sem.run_pure, Result.andThen_ok, invoke]
      rw [show (#[] ++ c.args.map a.eval : Array Value) = (c.args.toList.map a.eval).toArray by apply Array.ext'; simp]
      exact h1
    rw [hrun]
    refine ⟨fun _ => by simp_all [FR, Fence.wide], ?_⟩
    refine RoundIn.mono (F := FR l) (n := 0) h2 ?_
    rintro e w' ⟨v, g', r, H', rfl, k1, k2, k3, k4, k5⟩
    exact hnext r H' v w' g' k1 k2 k3 k4 k5
  · exact h.elim

/-- What is asked of a text by itself: the slots that it writes are there; a deferred call is none of its operations. -/
def opOk (N : Nat) (o : Oper) : Bool :=
  (match o.dst with
   | some d => decide (d < N)
   | none => true)

def opsOk (N : Nat) (ops : List Oper) : Bool := ops.all (opOk N)

theorem evOp_sound (hT : TOK P T) {call : CallH} (hcall : ∀ f vs H K, call f vs H K → ACallV P f vs H K) {g : G} {H : Heap} {w : World} {E : Env} {K : V → Heap → Prop} (hr : HR g H w) {a : Act} (he : ER g H w E a.tmps) {o : Oper}
    (h : evOp T hint call o E H K) {l : Option Nat} {next : Act → World → Prop} {Q : Exit → Act → World → Prop}
    (hnext : ∀ v H' cv w' g', K v H' → VR g' H' w' v cv → HR g' H' w' → Kp g w g' w' → Ag g H w g' H' w' → next (a.put o.dst cv) w') : o.wpIn (FR l) 0 P a w next Q := by
  by_cases hc : ∃ c f, o.op = .call c ∧ c.callee = .value f
  · obtain ⟨c, f, ho, hf⟩ := hc
    have h' : call (ge E f) (c.args.toList.map (ge E)) H K := by
      unfold evOp at h
      rw [ho] at h
      simp only [evCall, hf] at h
      exact h
    exact call_sound hr he ho hf (hcall _ _ _ _ h') hnext
  · refine wpIn_of_post (fun c hd => ?_) (op_post hT hr he (fun c f ho hf => hc ⟨c, f, ho, hf⟩) h) hnext
    unfold evOp at h
    rw [hd] at h
    exact h

theorem yielded_of {ops : Array Oper} {tmps : Array Value} {j t : Nat} {b : Bool} (h1 : gdst ops.toList j = some t) (h2 : tmps.getD t undef = .bool b) : yielded ops tmps j = some b := by
  unfold gdst at h1
  unfold yielded
  have ho : ops[j]? = ops.toList[j]? := by simp
  rw [ho]
  split at h1
  · rename_i o hoj
    rw [hoj]
    simp only [Option.bind_some, h1]
    rw [Array.getD_eq_getD_getElem?] at h2
    cases hv : tmps[t]? with
    | none => rw [hv] at h2; simp [undef] at h2
    | some v => rw [hv] at h2; simp at h2; subst h2; rfl
  · cases h1

theorem yielded_no {ops : Array Oper} {tmps : Array Value} {j t : Nat} {cs : Array Value} (h1 : gdst ops.toList j = some t) (h2 : tmps.getD t undef = .tuple cs) : yielded ops tmps j = none := by
  unfold gdst at h1
  unfold yielded
  have ho : ops[j]? = ops.toList[j]? := by simp
  rw [ho]
  split at h1
  · rename_i o hoj
    rw [hoj]
    simp only [Option.bind_some, h1]
    rw [Array.getD_eq_getD_getElem?] at h2
    cases hv : tmps[t]? with
    | none => rfl
    | some v => rw [hv] at h2; simp at h2; subst h2; rfl
  · cases h1

theorem evOps_sound (hT : TOK P T) {call : CallH} (hcall : ∀ f vs H K, call f vs H K → ACallV P f vs H K) {N : Nat} {ops : Array Oper} (hok : opsOk N ops.toList = true) {l : Option Nat} {g0 : G} {H0 : Heap} {w0 : World} {a0 : Act}
    {K : Env → Heap → Prop} {Q : Exit → Act → World → Prop} (hQ : ∀ E' H' a' w' g', K E' H' → HR g' H' w' → ER g' H' w' E' a'.tmps → a'.tmps.size = N → a'.defers = a0.defers → Kp g0 w0 g' w' → Ag g0 H0 w0 g' H' w' → Q .normal a' w') :
    ∀ (os : List Oper) (i : Nat) (E : Env) (H : Heap) (a : Act) (w : World) (g : G), ops.toList.drop i = os → evOps T hint call ops.toList os E H K → HR g H w → ER g H w E a.tmps → a.tmps.size = N → a.defers = a0.defers → Kp g0 w0 g w → Ag g0 H0 w0 g H w →
      wpOpsIn (FR l) 0 P ops Q (List.range' i os.length) a w := by
  intro os
  induction os with
  | nil =>
    intro i E H a w g hd h hr he hs hdf hk ha
    simp only [List.length_nil, List.range'_zero, wpOpsIn]
    simp only [evOps] at h
    exact hQ E H a w g h hr he hs hdf hk ha
  | cons o os ih =>
    intro i E H a w g hd h hr he hs hdf hk ha
    simp only [List.length_cons, List.range'_succ, wpOpsIn]
    have hoi : ops.toList[i]? = some o := by
      have := congrArg (fun l => l[0]?) hd
      simpa [List.getElem?_drop] using this
    have hoi' : ops[i]? = some o := by rw [← hoi]; simp
    have hd' : ops.toList.drop (i + 1) = os := by
      have := congrArg (fun l => l.drop 1) hd
      simpa [List.drop_drop] using this
    have hdst : ∀ d, o.dst = some d → d < a.tmps.size := by
      intro d hod
      have := List.all_eq_true.1 hok o (List.mem_of_getElem? hoi)
      unfold opOk at this
      rw [hod] at this
      rw [hs]
      simpa using this
    simp only [hoi']
    have run : ∀ (hev : evOp T hint call o E H fun v H' => evOps T hint call ops.toList os (put E o.dst v) H' K), o.wpIn (FR l) 0 P a w (wpOpsIn (FR l) 0 P ops Q (List.range' (i + 1) os.length)) Q := by
      intro hev
      refine evOp_sound hT hcall hr he hev ?_
      intro v H' cv w' g' hK hv hr' hk' ha'
      refine ih (i + 1) _ H' _ w' g' hd' hK hr' (ER_put (ER_mono he (hr.zk hk') ha') hdst hv) (by rw [put_size]; exact hs) (by rw [put_defers]; exact hdf) (hk.trans hk') (ha.trans ha')
    have skip : ∀ (hev : evOps T hint call ops.toList os (put E o.dst (.tup [])) H K), (∀ f, o.about P w a.eval = some f → (FR l).fn f) ∧ wpOpsIn (FR l) 0 P ops Q (List.range' (i + 1) os.length) (a.put o.dst undef) w := by
      intro hev
      exact ⟨fun _ _ => trivial, ih (i + 1) _ H _ w g hd' hev hr (ER_put he hdst ⟨#[], rfl, rfl⟩) (by rw [put_size]; exact hs) (by rw [put_defers]; exact hdf) hk ha⟩
    simp only [evOps] at h
    split at h
    · rename_i hg
      have hw : Region.wanted o (yielded ops a.tmps) = true := by unfold Region.wanted; rw [hg]
      simp only [hw, if_true]
      exact run h
    · rename_i j want hg
      split at h
      · rename_i t ht
        split at h
        · rename_i b hb
          have hv := he t
          rw [hb] at hv
          simp only [VR, DR, DC] at hv
          simp at hv
          have hy := yielded_of (ops := ops) (tmps := a.tmps) ht (by rw [Array.getD_eq_getD_getElem?]; exact hv)
          have hw : Region.wanted o (yielded ops a.tmps) = (b == want) := by
            unfold Region.wanted
            simp only [hg, hy]
            cases b <;> cases want <;> rfl
          rw [hw]
          rcases Br_iff h with ⟨h1, h⟩ | ⟨h1, h⟩
          · rw [h1]; simp only [if_true]; exact run h
          · rw [h1]; simp only [Bool.false_eq_true, if_false]; exact skip h
        · rename_i hb
          have hv := he t
          rw [hb] at hv
          simp only [VR] at hv
          obtain ⟨cs, hv, hcs⟩ := hv
          have hcs' : cs.toList = [] := by simpa [VRs] using hcs
          have hy : yielded ops a.tmps j = none := yielded_no (ops := ops) (tmps := a.tmps) ht hv
          have hw : Region.wanted o (yielded ops a.tmps) = false := by
            unfold Region.wanted
            simp only [hg, hy]
            rfl
          rw [hw]; simp only [Bool.false_eq_true, if_false]; exact skip h
        · exact h.elim
      · exact h.elim

end
end Go.Aw
end

section
namespace Go.Aw
open Go

/-- The slots that a text writes are there. What is walked by a rule of its own is looked at there. -/
def cOk (N : Nat) : Code → Bool
  | .region _ ops _ => opsOk N ops.toList
  | .seq a b => cOk N a && cOk N b
  | .cond _ a b => cOk N a && cOk N b
  | .block _ c => cOk N c
  | _ => true

section
variable {P : Program} {T : Nat → Ty} {hint : Nat → Bool} {N n0 : Nat} {r : Option Nat}

theorem XPost.trans {l : Option Nat} {m0 : Nat} {g g1 : G} {H H1 : Heap} {w w1 : World} {Q : Ex → Env → Heap → Prop} (hk : Kp g w g1 w1) (ha : AgN n0 g H w g1 H1 w1) {e : Exit} {a : Act} {w' : World}
    (h : XPost N n0 r l m0 g1 H1 w1 Q e a w') : XPost N n0 r l m0 g H w Q e a w' := by
  obtain ⟨x, E', H', g', h1, h2, h3, h4, h5⟩ := h
  exact ⟨x, E', H', g', h1, h2, h3, hk.trans h4, ha.trans h5⟩

theorem AWP.mono {c : Code} {E : Env} {H : Heap} {Q Q' : Ex → Env → Heap → Prop} (h : AWP P N n0 r c E H Q) (hq : ∀ x E' H', n0 ≤ H'.length → Q x E' H' → Q' x E' H') : AWP P N n0 r c E H Q' := by
  refine ⟨h.1, h.2.1, fun g w a l m0 hrel => wpIn_mono (h.2.2 g w a l m0 hrel) ?_⟩
  rintro e a' w' ⟨x, E', H', g', h1, h2, h3, h4, h5⟩
  exact ⟨x, E', H', g', h1, hq x E' H' h5.2.1 h2, h3, h4, h5⟩

theorem Rel.of_agn {l : Option Nat} {m0 : Nat} {g g' : G} {E' : Env} {H H' : Heap} {a a' : Act} {w w' : World} {E : Env} (h : Rel N r l m0 g E H a w) (hn : ∀ id, r = some id → id < n0) (hr : HR g' H' w') (he : ER g' H' w' E' a'.tmps) (hs : a'.tmps.size = N) (hd : a'.defers = a.defers) (hk : Kp g w g' w') (ha : AgN n0 g H w g' H' w') :
    Rel N r l m0 g' E' H' a' w' :=
  ⟨hr, he, hs, h.rnd.agn hn ha, hd ▸ h.df.kp hk⟩

theorem xpost_now {l : Option Nat} {m0 : Nat} {g : G} {E : Env} {H : Heap} {a : Act} {w : World} (hn : n0 ≤ H.length) (h : Rel N r l m0 g E H a w) {Q : Ex → Env → Heap → Prop} {x : Ex} (hq : Q x E H) : XPost N n0 r l m0 g H w Q (exOf x) a w :=
  ⟨x, E, H, g, rfl, hq, h, Kp.refl g w, AgN.refl hn⟩

theorem AWP.skip {E : Env} {H : Heap} {Q : Ex → Env → Heap → Prop} (hn : n0 ≤ H.length) (hr : ∀ id, r = some id → id < n0) (h : Q .normal E H) : AWP P N n0 r .skip E H Q :=
  ⟨hn, hr, fun _ _ _ _ _ hrel => wpIn_skip (xpost_now hn hrel h)⟩

theorem AWP.exit {E : Env} {H : Heap} {Q : Ex → Env → Heap → Prop} {id : Nat} (hn : n0 ≤ H.length) (hr : ∀ id, r = some id → id < n0) (h : Q (.exit id) E H) : AWP P N n0 r (.exit id) E H Q :=
  ⟨hn, hr, fun _ _ _ _ _ hrel => wpIn_exit (xpost_now hn hrel h)⟩

theorem AWP.ret {E : Env} {H : Heap} {Q : Ex → Env → Heap → Prop} (hn : n0 ≤ H.length) (hr : ∀ id, r = some id → id < n0) (h : Q .ret E H) : AWP P N n0 r .ret E H Q :=
  ⟨hn, hr, fun _ _ _ _ _ hrel => wpIn_ret (xpost_now hn hrel h)⟩

theorem AWP.seq {c d : Code} {E : Env} {H : Heap} {K : Env → Heap → Prop} {Q : Ex → Env → Heap → Prop} (h : AWP P N n0 r c E H (thenEx K Q)) (hd : ∀ E' H', n0 ≤ H'.length → K E' H' → AWP P N n0 r d E' H' Q) : AWP P N n0 r (.seq c d) E H Q := by
  refine ⟨h.1, h.2.1, fun g w a l m0 hrel => wpIn_seq (wpIn_mono (h.2.2 g w a l m0 hrel) ?_)⟩
  rintro e a' w' ⟨x, E', H', g', rfl, h2, h3, h4, h5⟩
  cases x with
  | normal =>
    refine wpIn_mono ((hd E' H' h5.2.1 h2).2.2 g' w' a' l m0 h3) fun e a2 w2 hx => ?_
    exact hx.trans h4 h5
  | exit id => exact ⟨.exit id, E', H', g', rfl, h2, h3, h4, h5⟩
  | ret => exact ⟨.ret, E', H', g', rfl, h2, h3, h4, h5⟩

theorem AWP.cond {c d : Code} {E : Env} {H : Heap} {Q : Ex → Env → Heap → Prop} {x : Operand} {b : Bool} (hb : ge E x = .d (.bool b)) (h : AWP P N n0 r (if b then c else d) E H Q) : AWP P N n0 r (.cond x c d) E H Q := by
  refine ⟨h.1, h.2.1, fun g w a l m0 hrel => wpIn_cond (t := b) ?_ (h.2.2 g w a l m0 hrel)⟩
  have := ge_sound hrel.er x
  rw [hb] at this
  simp only [VR, DR, DC] at this
  simpa using this

theorem AWP.block {c : Code} {E : Env} {H : Heap} {Q : Ex → Env → Heap → Prop} {i : Nat} (h : AWP P N n0 r c E H (blockEx i Q)) : AWP P N n0 r (.block i c) E H Q := by
  refine ⟨h.1, h.2.1, fun g w a l m0 hrel => wpIn_block (wpIn_mono (h.2.2 g w a l m0 hrel) ?_)⟩
  rintro e a' w' ⟨x, E', H', g', rfl, h2, h3, h4, h5⟩
  cases x with
  | normal => exact ⟨.normal, E', H', g', rfl, h2, h3, h4, h5⟩
  | ret => exact ⟨.ret, E', H', g', rfl, h2, h3, h4, h5⟩
  | exit id =>
    simp only [exOf, Exit.inBlock]
    simp only [blockEx] at h2
    by_cases hid : id = i
    · rw [if_pos hid] at h2 ⊢
      exact ⟨.normal, E', H', g', rfl, h2, h3, h4, h5⟩
    · rw [if_neg hid] at h2 ⊢
      exact ⟨.exit id, E', H', g', rfl, h2, h3, h4, h5⟩

theorem AWP.region (hT : TOK P T) {call : CallH} (hcall : ∀ f vs H K, call f vs H K → ACallV P f vs H K) {i : Nat} {ops : Array Oper} (hok : opsOk N ops.toList = true) {E : Env} {H : Heap} {Q : Ex → Env → Heap → Prop}
    (hn : n0 ≤ H.length) (hr : ∀ id, r = some id → id < n0) (h : evOps T hint call ops.toList ops.toList E H (Q .normal)) : AWP P N n0 r (.region i ops false) E H Q := by
  refine ⟨hn, hr, fun g w a l m0 hrel => wpIn_region ?_⟩
  have := evOps_sound (P := P) hT hcall (N := N) hok (l := l) (g0 := g) (H0 := H) (w0 := w) (a0 := a) (K := Q .normal) (Q := XPost N n0 r l m0 g H w Q)
    (fun E' H' a' w' g' hK hr' he hs hd hk ha => ⟨.normal, E', H', g', rfl, hK, hrel.of_agn hr hr' he hs hd hk (AgN.of_ag hn ha), hk, AgN.of_ag hn ha⟩)
    ops.toList 0 E H a w g rfl h hrel.hr hrel.er hrel.sz rfl (Kp.refl g w) (Ag.refl g H w)
  rw [List.range_eq_range']
  simpa using this

/-- A loop, by a relation that holds ahead of each round, and a number that falls. -/
theorem AWP.loop {c : Code} {E : Env} {H : Heap} {Q : Ex → Env → Heap → Prop} (inv : Nat → Env → Heap → Prop) (k0 : Nat) (hn : n0 ≤ H.length) (hr : ∀ id, r = some id → id < n0) (h0 : inv k0 E H)
    (round : ∀ k E H, n0 ≤ H.length → inv k E H → AWP P N n0 r c E H (thenEx (fun E' H' => ∃ j, j < k ∧ inv j E' H') Q)) : AWP P N n0 r (.loop c) E H Q := by
  refine ⟨hn, hr, fun g w a l m0 hrel => wpIn_loop_rounds (k0 + 1) ?_⟩
  have key : ∀ m k E' H' g' w' a', k < m → inv k E' H' → Rel N r l m0 g' E' H' a' w' → Kp g w g' w' → AgN n0 g H w g' H' w' → Code.roundsIn (FR l) 0 P c (XPost N n0 r l m0 g H w Q) m a' w' := by
    intro m
    induction m with
    | zero => intro k _ _ _ _ _ hk; omega
    | succ m ih =>
      intro k E' H' g' w' a' hk hi hrel' hkp hag
      rw [roundsIn_succ]
      refine wpIn_mono ((round k E' H' hag.2.1 hi).2.2 g' w' a' l m0 hrel') ?_
      rintro e a2 w2 ⟨x, E2, H2, g2, rfl, h2, h3, h4, h5⟩
      cases x with
      | normal =>
        obtain ⟨j, hj, hi2⟩ := h2
        exact ih j E2 H2 g2 w2 a2 (by omega) hi2 h3 (hkp.trans h4) (hag.trans h5)
      | exit id => exact ⟨.exit id, E2, H2, g2, rfl, h2, h3, hkp.trans h4, hag.trans h5⟩
      | ret => exact ⟨.ret, E2, H2, g2, rfl, h2, h3, hkp.trans h4, hag.trans h5⟩
  exact key (k0 + 1) k0 E H g w a (by omega) h0 hrel (Kp.refl g w) (AgN.refl hn)

theorem ev_sound (hT : TOK P T) {call : CallH} (hcall : ∀ f vs H K, call f vs H K → ACallV P f vs H K) {loop rng : LoopH} {drw : DrawH}
    (hloop : ∀ c E H Q, n0 ≤ H.length → loop c E H Q → AWP P N n0 r (.loop c) E H Q) (hrng : ∀ c E H Q, n0 ≤ H.length → rng c E H Q → AWP P N n0 r c E H Q)
    (hdrw : ∀ i ops E H Q, n0 ≤ H.length → opsOk N ops.toList = true → drw ops E H (Q .normal) → AWP P N n0 r (.region i ops true) E H Q) (hr : ∀ id, r = some id → id < n0) :
    ∀ (c : Code) (E : Env) (H : Heap) (Q : Ex → Env → Heap → Prop), cOk N c = true → n0 ≤ H.length → ev T hint call loop rng drw c E H Q → AWP P N n0 r c E H Q
  | .skip, E, H, Q, _, hn, h => by simp only [ev] at h; exact .skip hn hr h
  | .exit _, E, H, Q, _, hn, h => by simp only [ev] at h; exact .exit hn hr h
  | .ret, E, H, Q, _, hn, h => by simp only [ev] at h; exact .ret hn hr h
  | .region i ops true, E, H, Q, hk, hn, h => by simp only [ev] at h; exact hdrw i ops E H Q hn hk h
  | .region i ops false, E, H, Q, hk, hn, h => by simp only [ev] at h; exact .region hT hcall hk hn hr h
  | .seq a b, E, H, Q, hk, hn, h => by
    simp only [ev] at h
    simp only [cOk, Bool.and_eq_true] at hk
    exact .seq (ev_sound hT hcall hloop hrng hdrw hr a E H _ hk.1 hn h) fun E' H' hn' h' => ev_sound hT hcall hloop hrng hdrw hr b E' H' Q hk.2 hn' h'
  | .cond c a b, E, H, Q, hk, hn, h => by
    simp only [ev] at h
    simp only [cOk, Bool.and_eq_true] at hk
    split at h
    · rename_i x hx
      rcases Br_iff h with ⟨rfl, h⟩ | ⟨rfl, h⟩
      · exact .cond hx (ev_sound hT hcall hloop hrng hdrw hr a E H Q hk.1 hn h)
      · exact .cond hx (ev_sound hT hcall hloop hrng hdrw hr b E H Q hk.2 hn h)
    · exact h.elim
  | .block i c, E, H, Q, hk, hn, h => by
    simp only [ev] at h
    simp only [cOk] at hk
    exact .block (ev_sound hT hcall hloop hrng hdrw hr c E H _ hk hn h)
  | .loop c, E, H, Q, _, hn, h => by simp only [ev] at h; exact hloop c E H Q hn h
  | .rangeFunc f ps a b, E, H, Q, _, hn, h => by simp only [ev] at h; exact hrng _ E H Q hn h

end
end Go.Aw
end

section
namespace Go.Aw
open Go

mutual
/-- All blocks that a value names are among the first n. -/
def VB (n : Nat) : V → Bool
  | .ptr id _ => decide (id < n)
  | .ref id _ _ _ => decide (id < n)
  | .ep id _ _ _ => decide (id < n)
  | .csl id _ _ => decide (id < n)
  | .fn (.yield id) _ _ => decide (id < n)
  | .fn _ x y => VBs n x && VBs n y
  | .agg l => VBs n l
  | .tup l => VBs n l
  | _ => true
def VBs (n : Nat) : List V → Bool
  | [] => true
  | v :: r => VB n v && VBs n r
end

def BB (n : Nat) : Blk → Prop
  | .cells cs => VBs n cs = true
  | .arr _ _ _ => True
  | .loop _ _ E _ _ _ => ∀ t, VB n (Env.look E t) = true

def BBs (n : Nat) : List Blk → Prop
  | [] => True
  | b :: r => BB n b ∧ BBs n r

theorem BBs_all {n : Nat} : ∀ {l : List Blk}, BBs n l → ∀ x ∈ l, BB n x
  | [], _, x, hx => by cases hx
  | b :: r, h, x, hx => by
    rcases List.mem_cons.1 hx with rfl | hx
    · exact h.1
    · exact BBs_all h.2 x hx

/-- What lies in a cell, as data, without the blocks from n on. -/
def pubD (n : Nat) (H : Heap) (v : V) : Option D :=
  match v with
  | .ref id m lo len => if id < n then none else match H[id]? with
    | some (.arr _ _ els) => if els.length = m then some (.sl ((els.drop lo).take len)) else none
    | _ => none
  | v => toD v

def pubDs (n : Nat) (H : Heap) : List V → Option (List D)
  | [] => some []
  | v :: r => match pubD n H v, pubDs n H r with
    | some x, some l => some (x :: l)
    | _, _ => none

mutual
/-- A value, without the blocks from n on. -/
def pubV (n : Nat) (H : Heap) : V → Option V
  | .ref id m lo len => if id < n then some (.ref id m lo len) else match H[id]? with
    | some (.arr _ _ els) => if els.length = m then some (.d (.sl ((els.drop lo).take len))) else none
    | _ => none
  | .ptr id off => if id < n then some (.ptr id off) else match H[id]? with
    | some (.cells cs) => match toDs cs with
      | some ds => some (.pp (ds.drop off))
      | none => none
    | _ => none
  | .ep id m i off => if id < n then some (.ep id m i off) else none
  | .csl id es len => if id < n then some (.csl id es len) else match H[id]? with
    | some (.cells cs) => match pubDs n H cs with
      | some ds => if es = 1 then some (.d (.sl ds)) else none
      | none => none
    | _ => none
  | .fn (.yield id) x y => if id < n then some (.fn (.yield id) x y) else none
  | .fn f x y => match pubVs n H x, pubVs n H y with
    | some x', some y' => some (.fn f x' y')
    | _, _ => none
  | .agg l => match pubVs n H l with
    | some l' => if l'.all V.one = true then some (norm l') else none
    | none => none
  | .tup l => match pubVs n H l with
    | some l' => some (.tup l')
    | none => none
  | v => some v
def pubVs (n : Nat) (H : Heap) : List V → Option (List V)
  | [] => some []
  | v :: r => match pubV n H v, pubVs n H r with
    | some v', some r' => some (v' :: r')
    | _, _ => none
end

section
variable {g g' : G} {H H' : Heap} {w : World} {n : Nat}

theorem Zk.same (h : ∀ b o, g.Z b o → g'.Z b o) : Zk g.Z g'.Z w w := fun b o z => ⟨h b o z, rfl⟩

mutual
theorem VB_cut (hz : ∀ b o, g.Z b o → g'.Z b o) (hc : ∀ id, id < n → H'[id]? = H[id]? ∧ g'.φ[id]? = g.φ[id]?) : ∀ (x : V) (v : Value), VB n x = true → VR g H w x v → VR g' H' w x v
  | .und, _, _, _ => by simp [VR]
  | .d x, v, _, h => by
    simp only [VR] at h ⊢
    exact DR_mono (Zk.same hz) h
  | .slx nl l, v, _, h => by
    simp only [VR] at h ⊢
    obtain ⟨a, h1, h2, h3, h4⟩ := h
    refine ⟨a, h1, h2, h3, fun ad had => ?_⟩
    obtain ⟨h5, sz, h6⟩ := h4 ad had
    exact ⟨h5, sz, DCe_mono (Zk.same hz) l _ _ _ h6⟩
  | .ptr id off, v, hb, h => by
    simp only [VB, decide_eq_true_eq] at hb
    obtain ⟨e1, e2⟩ := hc id hb
    simpa only [VR, e1, e2] using h
  | .pp cs, v, _, h => by
    simp only [VR] at h ⊢
    obtain ⟨a, vs, h1, h2, h3, h4⟩ := h
    exact ⟨a, vs, h1, h2, fun j hj => ⟨hz _ _ (h3 j hj).1, (h3 j hj).2⟩, DCs_mono (Zk.same hz) _ _ h4⟩
  | .ref id m lo len, v, hb, h => by
    simp only [VB, decide_eq_true_eq] at hb
    obtain ⟨e1, e2⟩ := hc id hb
    simpa only [VR, e1, e2] using h
  | .ep id m i off, v, hb, h => by
    simp only [VB, decide_eq_true_eq] at hb
    obtain ⟨e1, e2⟩ := hc id hb
    simpa only [VR, e1, e2] using h
  | .csl id es len, v, hb, h => by
    simp only [VB, decide_eq_true_eq] at hb
    obtain ⟨e1, e2⟩ := hc id hb
    simpa only [VR, e1, e2] using h
  | .fn f x y, v, hb, h => by
    cases f with
    | yield id =>
      simp only [VB, decide_eq_true_eq] at hb
      obtain ⟨e1, e2⟩ := hc id hb
      simpa only [VR, e1, e2] using h
    | _ =>
      simp only [VB, Bool.and_eq_true] at hb
      simp only [VR] at h ⊢
      obtain ⟨x', y', h1, h2, h3⟩ := h
      exact ⟨x', y', h1, VBs_cut hz hc x _ hb.1 h2, VBs_cut hz hc y _ hb.2 h3⟩
  | .agg l, v, hb, h => by
    simp only [VB] at hb
    simp only [VR] at h ⊢
    obtain ⟨cs, h1, h2⟩ := h
    exact ⟨cs, h1, VBs_cut hz hc l _ hb h2⟩
  | .tup l, v, hb, h => by
    simp only [VB] at hb
    simp only [VR] at h ⊢
    obtain ⟨cs, h1, h2⟩ := h
    exact ⟨cs, h1, VBs_cut hz hc l _ hb h2⟩
theorem VBs_cut (hz : ∀ b o, g.Z b o → g'.Z b o) (hc : ∀ id, id < n → H'[id]? = H[id]? ∧ g'.φ[id]? = g.φ[id]?) : ∀ (l : List V) (cs : List Value), VBs n l = true → VRs g H w l cs → VRs g' H' w l cs
  | [], _, _, h => by simpa [VRs] using h
  | d :: ds, cs, hb, h => by
    simp only [VBs, Bool.and_eq_true] at hb
    simp only [VRs] at h ⊢
    obtain ⟨c, r, h1, h2, h3⟩ := h
    exact ⟨c, r, h1, VB_cut hz hc d _ hb.1 h2, VBs_cut hz hc ds r hb.2 h3⟩
end

theorem row_DCe {Z : Nat → Nat → Prop} {b es : Nat} {vs : Array Value} {t : TypeId} (hb : w.heap[b]? = some (.cells vs t (0, 0))) (hZ : ∀ o, Z b o) :
    ∀ (l : List D) (k : Nat), (∀ i x, l[i]? = some x → (k + i + 1) * es ≤ vs.toList.length ∧ (dcells x).length = es ∧ DC w Z x ((vs.toList.drop ((k + i) * es)).take es)) → DCe w Z l b (k * es) es
  | [], k, _ => trivial
  | d :: ds, k, hk => by
    simp only [DCe]
    obtain ⟨k1, k2, k3⟩ := hk 0 d rfl
    simp only [Nat.add_zero] at k1 k3
    refine ⟨⟨_, by rw [DC_length k3, k2], fun j hj => ⟨hZ _, ?_⟩, k3⟩, ?_⟩
    · rw [cell_of_block hb, chunk_get, if_pos hj]
      simp
    · have := row_DCe hb hZ ds (k + 1) (fun i x hx => by
        have := hk (i + 1) x (by simpa using hx)
        rw [show k + 1 + i = k + (i + 1) by omega]
        exact this)
      rwa [Nat.add_mul, Nat.one_mul] at this

/-- A slice over a row whose block is never written again. -/
theorem ref_frozen {Z' : Nat → Nat → Prop} (hr : HR g H w) (hz : ∀ b o, g.Z b o → Z' b o) {id m lo len sz : Nat} {nl : Bool} {els : List D} (he : H[id]? = some (.arr sz nl els)) (hm : els.length = m)
    (hf : ∀ b o, g.φ[id]? = some (some b) → Z' b o) {v : Value} (h : VR g H w (.ref id m lo len) v) : DR w Z' (.sl ((els.drop lo).take len)) v := by
  simp only [VR] at h
  obtain ⟨_, sz', nl', els', e1, e2, e3⟩ := h
  rw [he] at e1; cases e1
  obtain ⟨f1, f2⟩ := e3 hm
  simp only [DR, DC]
  rcases f2 with ⟨f2, f3, a, rfl, _⟩ | ⟨b, cap, vs, t, f2, rfl, f4, f5, f6⟩
  · rw [f2.2.1] at hm ⊢
    simp at hm
    exact ⟨a, 0, 0, rfl, by simp, Nat.le_refl _, fun _ => rfl, fun ad ha => ⟨fun h => absurd (by simp) h, 0, by simp [DCe]⟩⟩
  · refine ⟨_, len, cap, rfl, by simp; omega, f5, (fun h => nomatch h), fun ad ha => ?_⟩
    cases ha
    refine ⟨fun _ => rfl, sz, ?_⟩
    obtain ⟨_, _, _, vs', t', hw, har⟩ := hr.blk id b _ f2 he
    rw [f4] at hw; cases hw
    refine row_DCe f4 (fun o => hf b o f2) _ lo (fun i x hx => ?_)
    rw [chunk_get] at hx
    split at hx
    · rename_i hi
      obtain ⟨k1, k2⟩ := har.2 (lo + i) x hx
      have hle : (lo + i + 1) * sz ≤ els.length * sz := Nat.mul_le_mul_right _ (lt_of_getElem? hx)
      exact ⟨Nat.le_trans hle har.1, k1, DC_mono (fun b o z => ⟨hz b o z, rfl⟩) _ _ k2⟩
    · cases hx

end
end Go.Aw
end

section
namespace Go.Aw
open Go

/-- The ghosts after the blocks from n on are dropped, and never written again. -/
def G.pub (g : G) (n : Nat) : G := ⟨fun b o => g.Z b o ∨ ∃ id : Nat, n ≤ id ∧ g.φ[id]? = some (some b), g.φ.take n⟩

section
variable {g : G} {H : Heap} {w : World} {n : Nat}

theorem pub_z (g : G) (n : Nat) : ∀ b o, g.Z b o → (g.pub n).Z b o := fun _ _ z => .inl z

theorem pub_cut (g : G) (H : Heap) (n : Nat) : ∀ id, id < n → (H.take n)[id]? = H[id]? ∧ (g.pub n).φ[id]? = g.φ[id]? :=
  fun _ h => ⟨List.getElem?_take_of_lt h, List.getElem?_take_of_lt h⟩

mutual
theorem VB_le {m k : Nat} (h : m ≤ k) : ∀ (x : V), VB m x = true → VB k x = true
  | .und, _ => rfl
  | .d x, _ => rfl
  | .slx nl l, _ => rfl
  | .pp cs, _ => rfl
  | .ptr id off, hb => by simp only [VB, decide_eq_true_eq] at hb ⊢; omega
  | .ref id _ lo len, hb => by simp only [VB, decide_eq_true_eq] at hb ⊢; omega
  | .ep id _ i off, hb => by simp only [VB, decide_eq_true_eq] at hb ⊢; omega
  | .csl id _ _, hb => by simp only [VB, decide_eq_true_eq] at hb ⊢; omega
  | .fn f x y, hb => by
    cases f with
    | yield id => simp only [VB, decide_eq_true_eq] at hb ⊢; omega
    | _ =>
      simp only [VB, Bool.and_eq_true] at hb ⊢
      exact ⟨VBs_le h x hb.1, VBs_le h y hb.2⟩
  | .agg l, hb => by simp only [VB] at hb ⊢; exact VBs_le h l hb
  | .tup l, hb => by simp only [VB] at hb ⊢; exact VBs_le h l hb
theorem VBs_le {m k : Nat} (h : m ≤ k) : ∀ (l : List V), VBs m l = true → VBs k l = true
  | [], _ => rfl
  | d :: ds, hb => by
    simp only [VBs, Bool.and_eq_true] at hb ⊢
    exact ⟨VB_le h d hb.1, VBs_le h ds hb.2⟩
end

mutual
theorem VR_VB : ∀ (x : V) (v : Value), VR g H w x v → VB H.length x = true
  | .und, _, _ => rfl
  | .d x, v, h => rfl
  | .slx nl l, v, h => rfl
  | .pp cs, v, h => rfl
  | .ptr id off, v, h => by
    simp only [VR] at h
    obtain ⟨b, cs, h0, _⟩ := h
    simpa [VB] using lt_of_getElem? h0
  | .ref id m lo len, v, h => by
    simp only [VR] at h
    obtain ⟨_, sz, nl, els, h0, _⟩ := h
    simpa [VB] using lt_of_getElem? h0
  | .ep id m i off, v, h => by
    simp only [VR] at h
    obtain ⟨_, sz, nl, els, h0, _⟩ := h
    simpa [VB] using lt_of_getElem? h0
  | .csl id es len, v, h => by
    simp only [VR] at h
    obtain ⟨b, cs, cap, h0, _⟩ := h
    simpa [VB] using lt_of_getElem? h0
  | .fn f x y, v, h => by
    cases f with
    | yield id =>
      simp only [VR] at h
      obtain ⟨_, _, b, st, pend, E, ps, p, q, h0, _⟩ := h
      simpa [VB] using lt_of_getElem? h0
    | _ =>
      simp only [VR] at h
      obtain ⟨x', y', _, h1, h2⟩ := h
      simp only [VB, Bool.and_eq_true]
      exact ⟨VRs_VBs x _ h1, VRs_VBs y _ h2⟩
  | .agg l, v, h => by
    simp only [VR] at h
    obtain ⟨cs, _, h1⟩ := h
    simpa [VB] using VRs_VBs l _ h1
  | .tup l, v, h => by
    simp only [VR] at h
    obtain ⟨cs, _, h1⟩ := h
    simpa [VB] using VRs_VBs l _ h1
theorem VRs_VBs : ∀ (l : List V) (cs : List Value), VRs g H w l cs → VBs H.length l = true
  | [], _, _ => rfl
  | d :: ds, cs, h => by
    simp only [VRs] at h
    obtain ⟨c, r, _, h1, h2⟩ := h
    simp only [VBs, Bool.and_eq_true]
    exact ⟨VR_VB d _ h1, VRs_VBs ds r h2⟩
end

/-- The first n blocks name none but themselves: or they are all. -/
def BBq (n : Nat) (H : Heap) : Prop := H.length ≤ n ∨ BBs n (H.take n)

theorem BBq_at (hr : HR g H w) (h : BBq n H) {id b : Nat} {x : Blk} (hid : id < n) (hφ : g.φ[id]? = some (some b)) (hx : H[id]? = some x) : BB n x := by
  rcases h with h | h
  · obtain ⟨_, _, h3⟩ := hr.blk id b _ hφ hx
    have up : ∀ v, VB H.length v = true → VB n v = true := fun v => VB_le h v
    have ups : ∀ v, VBs H.length v = true → VBs n v = true := fun v => VBs_le h v
    cases x with
    | cells cs => obtain ⟨vs, t, _, h4, _⟩ := h3; exact ups _ (VRs_VBs _ _ h4)
    | arr sz nl els => trivial
    | loop st pend E ps y z => obtain ⟨r, _, _, _, _, _, _, h7⟩ := h3; exact fun t => up _ (VR_VB _ _ (h7 t))
  · exact BBs_all h x (List.mem_of_getElem? (i := id) (by rw [List.getElem?_take_of_lt hid]; exact hx))

theorem HR_pub (hr : HR g H w) (hn : n ≤ H.length) (hb : BBq n H) : HR (g.pub n) (H.take n) w where
  len := by simp [G.pub, hr.len]
  zlt := fun b o z => by
    rcases z with z | ⟨id, _, h⟩
    · exact hr.zlt b o z
    · exact hr.lt h
  inj := fun i j b hi hj => by
    simp only [G.pub, List.getElem?_take] at hi hj
    split at hi
    · split at hj
      · exact hr.inj i j b hi hj
      · cases hj
    · cases hi
  blk := fun id b x hp hx => by
    have hid : id < n := by
      rcases Nat.lt_or_ge id n with h | h
      · exact h
      · rw [List.getElem?_take, if_neg (by omega)] at hx; cases hx
    obtain ⟨e1, e2⟩ := pub_cut g H n id hid
    rw [e2] at hp
    rw [e1] at hx
    have hbx := BBq_at hr hb hid hp hx
    obtain ⟨h1, h2, h3⟩ := hr.blk id b x hp hx
    refine ⟨h1, fun o z => ?_, ?_⟩
    · rcases z with z | ⟨id', hid', h'⟩
      · exact h2 o z
      · have := hr.inj _ _ _ hp h'; omega
    · cases x with
      | cells cs =>
        obtain ⟨vs, t, k1, k2, k3⟩ := h3
        exact ⟨vs, t, k1, VBs_cut (pub_z g n) (pub_cut g H n) _ _ hbx k2, k3⟩
      | arr sz nl els =>
        obtain ⟨k0, vs, t, k1, k2, k3⟩ := h3
        exact ⟨k0, vs, t, k1, k2, fun i x hx => ⟨(k3 i x hx).1, DC_mono (Zk.same (g := g) (g' := g.pub n) (pub_z g n)) _ _ (k3 i x hx).2⟩⟩
      | loop st pend E ps y z =>
        obtain ⟨r, k1, k2, k3, k4, k5, k6, k7⟩ := h3
        exact ⟨r, k1, k2, k3, k4, k5, k6, fun t => VB_cut (pub_z g n) (pub_cut g H n) _ _ (hbx t) (k7 t)⟩

theorem Kp.pub {g0 : G} {w0 : World} (hk : Kp g0 w0 g w) (n : Nat) : Kp g0 w0 (g.pub n) w where
  os := hk.os
  tape := hk.tape
  out := hk.out
  size := hk.size
  fr := hk.fr
  z := fun b o z => .inl (hk.z b o z)
  zn := fun b o z => by
    rcases z with z | ⟨id, _, h⟩
    · exact hk.zn b o z
    · rcases hk.pn id b h with h' | h'
      · exact .inr (.inr ⟨id, h'⟩)
      · exact .inr (.inl h')
  pn := fun id b h => by
    simp only [G.pub, List.getElem?_take] at h
    split at h
    · exact hk.pn id b h
    · cases h

theorem Ag_of_cut {g0 g' : G} {H0 H' : Heap} {w0 : World} (ha : Ag g0 H0 w0 g H w) (hc : ∀ id, id < H0.length → H'[id]? = H[id]? ∧ g'.φ[id]? = g.φ[id]?) : Ag g0 H0 w0 g' H' w := by
  intro id x hx
  obtain ⟨e1, e2⟩ := hc id (lt_of_getElem? hx)
  have := ha id x hx
  cases x <;> simpa only [e1, e2] using this

theorem AgN.pub {n0 : Nat} {g0 : G} {H0 : Heap} {w0 : World} (ha : AgN n0 g0 H0 w0 g H w) (hn0 : n0 ≤ n) (hn : n ≤ H.length) : AgN n0 g0 H0 w0 (g.pub n) (H.take n) w := by
  refine ⟨ha.1, by simp; omega, Ag_of_cut ha.2.2 fun id hid => ?_⟩
  simp only [List.length_take] at hid
  refine ⟨?_, (pub_cut g H n id (by omega)).2⟩
  rw [List.getElem?_take_of_lt (by omega), List.getElem?_take_of_lt (by omega), List.getElem?_take_of_lt (by omega)]

theorem pubDs_sound (hr : HR g H w) : ∀ (l : List V) (cs : List Value) (ds : List D), pubDs n H l = some ds → (∀ c ∈ l, c.one = true) → VRs g H w l cs → DCs w (g.pub n).Z ds cs
  | [], cs, ds, hp, _, h => by simp [pubDs] at hp; subst hp; simpa [VRs, DCs] using h
  | v :: r, cs, ds, hp, ho, h => by
    simp only [pubDs] at hp
    split at hp
    · rename_i x l hx hl
      simp at hp; subst hp
      simp only [VRs] at h
      obtain ⟨c, r', rfl, h1, h2⟩ := h
      refine ⟨c, r', rfl, ?_, pubDs_sound hr r r' l hl (fun y hy => ho y (List.mem_cons_of_mem _ hy)) h2⟩
      have hone := ho v List.mem_cons_self
      cases v with
      | ref id m lo len =>
        simp only [pubD] at hx
        split at hx
        · cases hx
        · rename_i hid
          split at hx
          · rename_i sz nl els he
            split at hx
            · rename_i hm
              simp at hx; subst hx
              exact ref_frozen hr (pub_z g n) he hm (fun b o hb => .inr ⟨id, by omega, hb⟩) h1
            · cases hx
          · cases hx
      | d x' =>
        simp [pubD, toD] at hx; subst hx
        simp only [VR] at h1
        exact DC_mono (Zk.same (g := g) (g' := g.pub n) (pub_z g n)) _ _ ((DR_one hone).1 h1)
      | slx nl l' =>
        simp [pubD, toD] at hx; subst hx
        have := toD_sound (x := .slx nl l') rfl h1
        exact DC_mono (Zk.same (g := g) (g' := g.pub n) (pub_z g n)) _ _ this
      | _ => simp [pubD, toD] at hx
    · cases hp

theorem DCs_DCe {Z : Nat → Nat → Prop} {b : Nat} {t : TypeId} {vs : Array Value} (hb : w.heap[b]? = some (.cells vs t (0, 0))) (hZ : ∀ o, Z b o) : ∀ (ds : List D) (k : Nat), DCs w Z ds (vs.toList.drop k) → DCe w Z ds b k 1
  | [], _, _ => by simp [DCe]
  | d :: ds, k, h => by
    simp only [DCs] at h
    obtain ⟨c, r, h1, h2, h3⟩ := h
    simp only [DCe]
    refine ⟨⟨[c], rfl, fun j hj => ⟨hZ _, ?_⟩, h2⟩, DCs_DCe hb hZ ds (k + 1) ?_⟩
    · obtain rfl : j = 0 := by omega
      rw [cell_of_block hb]
      have := congrArg (fun l => l[0]?) h1
      simpa using this
    · have := congrArg (fun l => l.drop 1) h1
      simp only [List.drop_drop, List.drop_succ_cons, List.drop_zero] at this
      rw [this]; exact h3

mutual
theorem pub_sound (hr : HR g H w) : ∀ (x : V) (v : Value) (x' : V), pubV n H x = some x' → VR g H w x v → VR (g.pub n) (H.take n) w x' v
  | .und, _, x', hp, _ => by simp [pubV] at hp; subst hp; simp [VR]
  | .d x, v, x', hp, h => by simp [pubV] at hp; subst hp; exact VB_cut (pub_z g n) (pub_cut g H n) _ _ rfl h
  | .slx nl l, v, x', hp, h => by simp [pubV] at hp; subst hp; exact VB_cut (pub_z g n) (pub_cut g H n) _ _ rfl h
  | .pp cs, v, x', hp, h => by simp [pubV] at hp; subst hp; exact VB_cut (pub_z g n) (pub_cut g H n) _ _ rfl h
  | .ptr id off, v, x', hp, h => by
    simp only [pubV] at hp
    split at hp
    · rename_i hid
      simp at hp; subst hp
      exact VB_cut (pub_z g n) (pub_cut g H n) _ _ (by simpa [VB] using hid) h
    · rename_i hid
      split at hp
      · rename_i cs hcs
        split at hp
        · rename_i ds hds
          simp at hp; subst hp
          simp only [VR] at h ⊢
          obtain ⟨b, cs', e1, e2, rfl⟩ := h
          rw [hcs] at e1; cases e1
          obtain ⟨_, _, vs, t, k1, k2, k3⟩ := hr.blk id b _ e2 hcs
          obtain ⟨k4, _⟩ := toDs_sound _ _ _ hds k3 k2
          refine ⟨_, vs.toList.drop off, rfl, rfl, fun j hj => ⟨.inr ⟨id, by omega, e2⟩, ?_⟩, ?_⟩
          · rw [cell_of_block k1]
            simp
          · exact DCs_drop off _ _ (DCs_mono (Zk.same (g := g) (g' := g.pub n) (pub_z g n)) _ _ k4)
        · cases hp
      · cases hp
  | .ref id m lo len, v, x', hp, h => by
    simp only [pubV] at hp
    split at hp
    · rename_i hid
      simp at hp; subst hp
      exact VB_cut (pub_z g n) (pub_cut g H n) _ _ (by simpa [VB] using hid) h
    · rename_i hid
      split at hp
      · rename_i sz nl els he
        split at hp
        · rename_i hm
          simp at hp; subst hp
          simp only [VR]
          exact ref_frozen hr (pub_z g n) he hm (fun b o hb => .inr ⟨id, by omega, hb⟩) h
        · cases hp
      · cases hp
  | .ep id m i off, v, x', hp, h => by
    simp only [pubV] at hp
    split at hp
    · rename_i hid
      simp at hp; subst hp
      exact VB_cut (pub_z g n) (pub_cut g H n) _ _ (by simpa [VB] using hid) h
    · cases hp
  | .csl id es len, v, x', hp, h => by
    simp only [pubV] at hp
    split at hp
    · rename_i hid
      simp at hp; subst hp
      exact VB_cut (pub_z g n) (pub_cut g H n) _ _ (by simpa [VB] using hid) h
    · rename_i hid
      split at hp
      · rename_i cs hcs
        split at hp
        · rename_i ds hds
          split at hp
          · rename_i hes
            simp at hp; subst hp; subst hes
            simp only [VR] at h ⊢
            obtain ⟨b, cs', cap, e1, e2, e3, rfl, e4⟩ := h
            rw [hcs] at e1; cases e1
            obtain ⟨_, _, vs, t, k1, k2, k3⟩ := hr.blk id b _ e2 hcs
            have k4 := pubDs_sound hr _ _ _ hds k3 k2
            have k5 := DCs_length _ _ k4
            have k6 := VRs_length _ _ k2
            simp only [DR, DC]
            refine ⟨_, len, cap, rfl, by omega, e4, (fun h => nomatch h), fun ad had => ?_⟩
            cases had
            exact ⟨fun _ => rfl, 1, DCs_DCe k1 (fun o => .inr ⟨id, by omega, e2⟩) _ 0 k4⟩
          · cases hp
        · cases hp
      · cases hp
  | .fn f x y, v, x', hp, h => by
    cases f with
    | yield id =>
      simp only [pubV] at hp
      split at hp
      · rename_i hid
        simp at hp; subst hp
        exact VB_cut (pub_z g n) (pub_cut g H n) _ _ (by simpa [VB] using hid) h
      · cases hp
    | _ =>
      simp only [pubV] at hp
      split at hp
      · rename_i x1 y1 hx hy
        simp at hp; subst hp
        simp only [VR] at h ⊢
        obtain ⟨x', y', h1, h2, h3⟩ := h
        exact ⟨x', y', h1, pubs_sound hr x _ _ hx h2, pubs_sound hr y _ _ hy h3⟩
      · cases hp
  | .agg l, v, x', hp, h => by
    simp only [pubV] at hp
    split at hp
    · rename_i l' hl
      split at hp
      · rename_i ho
        simp at hp; subst hp
        simp only [VR] at h
        obtain ⟨cs, rfl, h2⟩ := h
        have := norm_sound (List.all_eq_true.1 ho) (pubs_sound hr l _ _ hl h2)
        simpa using this
      · cases hp
    · cases hp
  | .tup l, v, x', hp, h => by
    simp only [pubV] at hp
    split at hp
    · rename_i l' hl
      simp at hp; subst hp
      simp only [VR] at h ⊢
      obtain ⟨cs, h1, h2⟩ := h
      exact ⟨cs, h1, pubs_sound hr l _ _ hl h2⟩
    · cases hp
theorem pubs_sound (hr : HR g H w) : ∀ (l : List V) (cs : List Value) (l' : List V), pubVs n H l = some l' → VRs g H w l cs → VRs (g.pub n) (H.take n) w l' cs
  | [], cs, l', hp, h => by simp [pubVs] at hp; subst hp; simpa [VRs] using h
  | d :: ds, cs, l', hp, h => by
    simp only [pubVs] at hp
    split at hp
    · rename_i d' ds' hd hds
      simp at hp; subst hp
      simp only [VRs] at h ⊢
      obtain ⟨c, r, h1, h2, h3⟩ := h
      exact ⟨c, r, h1, pub_sound hr d _ _ hd h2, pubs_sound hr ds _ _ hds h3⟩
    · cases hp
end

/-- A value that says less. -/
def VW (n : Nat) (H : Heap) (v v' : V) : Prop :=
  v' = .und ∨ (v = v' ∧ H.length ≤ n) ∨ pubV n H v = some v' ∨ ∃ nl l, v = .slx nl l ∧ (v' = .slx none l ∨ v' = .d (.sl l))

theorem VW_sound (hr : HR g H w) {v v' : V} {cv : Value} (h : VW n H v v') (hv : VR g H w v cv) : VR (g.pub n) (H.take n) w v' cv := by
  rcases h with rfl | ⟨rfl, h⟩ | h | ⟨nl, l, rfl, h⟩
  · trivial
  · exact VB_cut (pub_z g n) (pub_cut g H n) _ _ (VB_le h _ (VR_VB _ _ hv)) hv
  · exact pub_sound hr _ _ _ h hv
  · have := VB_cut (pub_z g n) (pub_cut g H n) _ _ rfl hv
    rcases h with rfl | rfl
    · simp only [VR] at this ⊢
      obtain ⟨a, h1, h2, h3⟩ := this
      exact ⟨a, h1, by simp, h3⟩
    · simp only [VR]
      exact toD_sound (x := .slx nl l) rfl this

/-- An environment that says less: what it lists. -/
def EW (n : Nat) (H : Heap) (E : Env) : Env → Prop
  | [] => True
  | (k, v) :: r => VW n H (E.look k) v ∧ EW n H E r

theorem EW_look {E : Env} : ∀ {E' : Env}, EW n H E E' → ∀ t, VW n H (E.look t) (E'.look t)
  | [], _, t => .inl rfl
  | (k, v) :: r, h, t => by
    simp only [Env.look]
    split
    · rename_i hk; subst hk; exact h.1
    · exact EW_look h.2 t

end
end Go.Aw
end

section
namespace Go.Aw
open Go

def CutTo (n0 : Nat) (E : Env) (H : Heap) (R : Env → Heap → Prop) : Prop :=
  ∃ E' n, n0 ≤ n ∧ n ≤ H.length ∧ BBq n H ∧ EW n H E E' ∧ R E' (H.take n)

section
variable {P : Program} {T : Nat → Ty} {hint : Nat → Bool} {N n0 : Nat} {r : Option Nat}

theorem Rel.pub {l : Option Nat} {m0 : Nat} {g : G} {E E' : Env} {H : Heap} {a : Act} {w : World} {n : Nat} (h : Rel N r l m0 g E H a w) (hr : ∀ id, r = some id → id < n) (hn : n ≤ H.length) (hb : BBq n H) (he : EW n H E E') :
    Rel N r l m0 (g.pub n) E' (H.take n) a w where
  hr := HR_pub h.hr hn hb
  er := fun t => VW_sound h.hr (EW_look he t) (h.er t)
  sz := h.sz
  rnd := by
    have := h.rnd
    cases r with
    | none => exact this
    | some id =>
      obtain ⟨b, st, pend, E, ps, x, y, h1, h2, h3⟩ := this
      obtain ⟨e1, e2⟩ := pub_cut g H n id (hr id rfl)
      exact ⟨b, st, pend, E, ps, x, y, h1, e2.trans h2, e1.trans h3⟩
  df := by
    obtain ⟨h0, rs, h1, h2, h3⟩ := h.df
    refine ⟨h0, rs, h1, h2, fun r hr => ⟨(h3 r hr).1, (h3 r hr).2.1, fun id hid => ?_⟩⟩
    simp only [G.pub, List.getElem?_take] at hid
    split at hid
    · exact (h3 r hr).2.2 id hid
    · cases hid

/-- What is left is said with less. -/
theorem AWP.cut {c : Code} {E : Env} {H : Heap} {Q Q' : Ex → Env → Heap → Prop} (h : AWP P N n0 r c E H Q) (hq : ∀ x E1 H1, n0 ≤ H1.length → Q x E1 H1 → CutTo n0 E1 H1 (Q' x)) : AWP P N n0 r c E H Q' := by
  refine ⟨h.1, h.2.1, fun g w a l m0 hrel => wpIn_mono (h.2.2 g w a l m0 hrel) ?_⟩
  rintro e a' w' ⟨x, E1, H1, g', h1, h2, h3, h4, h5⟩
  obtain ⟨E', n, k1, k2, k3, k4, k5⟩ := hq x E1 H1 h5.2.1 h2
  exact ⟨x, E', H1.take n, g'.pub n, h1, k5, h3.pub (fun id hid => Nat.lt_of_lt_of_le (h.2.1 id hid) k1) k2 k3 k4, h4.pub n, h5.pub k1 k2⟩

theorem Kp.of_pub {g g' : G} {w w' : World} {n : Nat} (h : Kp (g.pub n) w g' w') : Kp g w g' w' where
  os := h.os
  tape := h.tape
  out := h.out
  size := h.size
  fr := fun b hb hn => h.fr b hb fun id hid => by
    simp only [G.pub, List.getElem?_take] at hid
    split at hid
    · exact hn id hid
    · cases hid
  z := fun b o z => h.z b o (.inl z)
  zn := fun b o z => by
    rcases h.zn b o z with (h' | ⟨id, _, h'⟩) | h' | ⟨id, h'⟩
    · exact .inl h'
    · exact .inr (.inr ⟨id, h'⟩)
    · exact .inr (.inl h')
    · simp only [G.pub, List.getElem?_take] at h'
      split at h'
      · exact .inr (.inr ⟨id, h'⟩)
      · cases h'
  pn := fun id b hp => by
    rcases h.pn id b hp with h' | h'
    · simp only [G.pub, List.getElem?_take] at h'
      split at h'
      · exact .inl h'
      · cases h'
    · exact .inr h'

/-- What is there ahead is said with less. -/
theorem AWP.of_cut {c : Code} {E : Env} {H : Heap} {Q : Ex → Env → Heap → Prop} (hn : n0 ≤ H.length) (h : CutTo n0 E H fun E' H' => AWP P N n0 r c E' H' Q) : AWP P N n0 r c E H Q := by
  obtain ⟨E', n, k1, k2, k3, k4, k5⟩ := h
  refine ⟨hn, k5.2.1, fun g w a l m0 hrel => wpIn_mono (k5.2.2 (g.pub n) w a l m0 (hrel.pub (fun id hid => Nat.lt_of_lt_of_le (k5.2.1 id hid) k1) k2 k3 k4)) ?_⟩
  rintro e a' w' ⟨x, E1, H1, g', h1, h2, h3, h4, h5⟩
  refine ⟨x, E1, H1, g', h1, h2, h3, h4.of_pub, hn, h5.2.1, ?_⟩
  have := h5.2.2
  rw [List.take_take, Nat.min_eq_left k1] at this
  intro id x hx
  have hlt := lt_of_getElem? hx
  simp only [List.length_take] at hlt
  have e2 := (pub_cut g H n id (by omega)).2
  have := this id x hx
  cases x with
  | arr sz nl els =>
    obtain ⟨nl', els', f1, f2, f3⟩ := this
    exact ⟨nl', els', f1, f2, fun he => by
      obtain ⟨k1, k2, k3⟩ := f3 he
      exact ⟨k1, k2.trans e2, fun b vs t hb hw => k3 b vs t (e2.trans hb) hw⟩⟩
  | cells cs => exact ⟨this.1, this.2.trans e2⟩
  | loop st pend E ps y z => exact ⟨this.1, this.2.trans e2⟩

/-- A loop, by a relation that holds ahead of each round when all else is forgotten, and a number that falls. -/
theorem AWP.loopW {c : Code} {E : Env} {H : Heap} {Q : Ex → Env → Heap → Prop} (inv : Nat → Env → Heap → Prop) (k0 : Nat) (hn : n0 ≤ H.length) (hr : ∀ id, r = some id → id < n0) (h0 : CutTo n0 E H (inv k0))
    (round : ∀ k E H, n0 ≤ H.length → inv k E H → AWP P N n0 r c E H (thenEx (fun E' H' => ∃ j, j < k ∧ CutTo n0 E' H' (inv j)) Q)) : AWP P N n0 r (.loop c) E H Q := by
  refine AWP.loop (fun k E H => CutTo n0 E H (inv k)) k0 hn hr h0 fun k E1 H1 hn1 hi => ?_
  obtain ⟨E2, n2, j1, j2, j3, j4, j5⟩ := hi
  exact AWP.of_cut hn1 ⟨E2, n2, j1, j2, j3, j4, round k E2 _ (by simp; omega) j5⟩

/-! ### Functions -/

def envOf : Nat → List V → Env
  | _, [] => []
  | k, v :: r => (k, v) :: envOf (k + 1) r

def resV (T : Nat → Ty) (E : Env) (H : Heap) : List ResultVar → Option (List V)
  | [] => some []
  | .tmp t :: r => match resV T E H r with
    | some vs => some (E.look t :: vs)
    | none => none
  | .cell a t :: r => match aload (T t) H (E.look a), resV T E H r with
    | some v, some vs => some (v :: vs)
    | _, _ => none

def mkRes : List V → V
  | [v] => v
  | l => .tup l

/-- What a body must come to. -/
def FnPost (T : Nat → Ty) (rs : List ResultVar) (n : Nat) (Q : V → Heap → Prop) : Ex → Env → Heap → Prop
  | .exit _, _, _ => False
  | _, E, H => Som (resV T E H rs) fun vs => Som (pubV n H (mkRes vs)) fun v => BBq n H ∧ Q v (H.take n)

theorem look_envOf : ∀ (vs : List V) (k t : Nat), Env.look (envOf k vs) t = if k ≤ t then vs.getD (t - k) .und else .und
  | [], k, t => by simp [envOf, Env.look]
  | v :: r, k, t => by
    simp only [envOf, Env.look]
    by_cases h : k = t
    · subst h; simp
    · rw [if_neg h, look_envOf r (k + 1) t]
      by_cases h2 : k ≤ t
      · rw [if_pos h2, if_pos (by omega), show t - k = (t - (k + 1)) + 1 by omega]
        simp
      · rw [if_neg h2, if_neg (by omega)]

theorem VRs_get {g : G} {H : Heap} {w : World} : ∀ {l : List V} {cs : List Value} {i : Nat} {v : V}, VRs g H w l cs → l[i]? = some v → ∃ c, cs[i]? = some c ∧ VR g H w v c
  | [], _, _, _, _, h => by simp at h
  | d :: ds, cs, i, v, hv, h => by
    simp only [VRs] at hv
    obtain ⟨c, r, rfl, h2, h3⟩ := hv
    cases i with
    | zero => simp at h; subst h; exact ⟨c, rfl, h2⟩
    | succ i => simp at h; simpa using VRs_get h3 h

theorem run_loadVar_of {t : TypeId} {a : Addr} {v : Value} {w : World} (h : (Instr.loadAt t (.pointer (some a))).run P w = .ok v w) : (loadVar t a).run P w = .ok v w := by
  simpa [Instr.loadAt, sureAddr_run] using h

def res1 (tmps : Array Value) : ResultVar → Sem Value
  | .tmp t => pure (tmps.getD t undef)
  | .cell a t => do loadVar t (← asAddr (tmps.getD a undef))

theorem results_eq (fn : Func) (tmps : Array Value) : results fn tmps = (do let vs ← fn.results.mapM (res1 tmps); pure (if h : vs.size = 1 then vs[0] else .tuple vs)) := by
  unfold results
  congr 1

theorem res_sound (hT : TOK P T) {g : G} {H : Heap} {w : World} {E : Env} {tmps : Array Value} (hr : HR g H w) (he : ER g H w E tmps) : ∀ (rs : List ResultVar) (vs : List V), resV T E H rs = some vs →
    ∃ cs, (rs.mapM (res1 tmps)).run P w = .ok cs w ∧ VRs g H w vs cs
  | [], vs, h => by
    simp [resV] at h; subst h
    exact ⟨[], by simp [Sem.run_pure], rfl⟩
  | .tmp t :: r, vs, h => by
    simp only [resV] at h
    split at h
    · rename_i vs' hvs
      simp at h; subst h
      obtain ⟨cs, h1, h2⟩ := res_sound hT hr he r vs' hvs
      refine ⟨tmps.getD t undef :: cs, ?_, ⟨_, _, rfl, he t, h2⟩⟩
      simp [List.mapM_cons, h1, res1]
    · cases h
  | .cell a t :: r, vs, h => by
    simp only [resV] at h
    split at h
    · rename_i v vs' hv hvs
      simp at h; subst h
      obtain ⟨cs, h1, h2⟩ := res_sound hT hr he r vs' hvs
      obtain ⟨cv, h3, h4⟩ := aload_sound (hT t) hr (he a) hv
      have hp : ∃ ad, tmps.getD a undef = .pointer (some ad) := by
        have := he a
        revert hv this
        generalize Env.look E a = x
        intro hv hx
        cases x with
        | pp cs => simp only [VR] at hx; obtain ⟨ad, _, h, _⟩ := hx; exact ⟨ad, h⟩
        | ptr id off => simp only [VR] at hx; obtain ⟨_, _, _, _, h⟩ := hx; exact ⟨_, h⟩
        | ep id n i off => simp only [VR] at hx; obtain ⟨⟨p, h, _⟩, _⟩ := hx; exact ⟨p, h⟩
        | _ => simp [aload] at hv
      obtain ⟨ad, hp⟩ := hp
      rw [hp] at h3
      refine ⟨cv :: cs, ?_, ⟨_, _, rfl, h4, h2⟩⟩
      simp only [List.mapM_cons, Sem.run_bind, Sem.run_pure, res1, hp, asAddr, Result.andThen_ok, run_loadVar_of h3, h1]
    · cases h

theorem results_sound (hT : TOK P T) {fn : Func} {g : G} {H : Heap} {w : World} {E : Env} {tmps : Array Value} (hr : HR g H w) (he : ER g H w E tmps) {vs : List V} (h : resV T E H fn.results.toList = some vs) :
    ∃ v, (results fn tmps).run P w = .ok v w ∧ VR g H w (mkRes vs) v := by
  obtain ⟨cs, h1, h2⟩ := res_sound hT hr he _ _ h
  have hl := VRs_length _ _ h2
  refine ⟨if h : cs.toArray.size = 1 then cs.toArray[0] else .tuple cs.toArray, ?_, ?_⟩
  · rw [results_eq, ← Array.toArray_toList (xs := fn.results)]
    simp only [List.mapM_toArray]
    simp [Sem.run_map, h1]
  · cases vs with
    | nil =>
      simp [VRs] at h2; subst h2
      simp [mkRes, VR, VRs]
    | cons v r =>
      cases r with
      | nil =>
        simp only [VRs] at h2
        obtain ⟨c, r, rfl, h3, rfl⟩ := h2
        simpa [mkRes] using h3
      | cons v2 r =>
        simp only [List.length_cons] at hl
        simp only [mkRes, VR]
        have : ¬ cs.toArray.size = 1 := by simp; omega
        rw [dif_neg this]
        exact ⟨_, rfl, by simpa using h2⟩

/-- A mark is taken. -/
theorem take_mark {g g0 : G} {H : Heap} {w w0 : World} (hr : HR g H w) {r : Nat} {ds : List Deferred} (hd : w.heap[r]? = some (.deferred (some ds))) (hφ : ∀ id : Nat, g.φ[id]? ≠ some (some r)) (hk : Kp g0 w0 g w) (h0 : w0.heap.size ≤ r) :
    HR g H (w.putObj r (.deferred none)) ∧ Kp g0 w0 g (w.putObj r (.deferred none)) ∧ Ag g H w g H (w.putObj r (.deferred none)) ∧ Zk g.Z g.Z w (w.putObj r (.deferred none)) := by
  have hrl : r < w.heap.size := (Array.getElem?_eq_some_iff.1 hd).1
  have hoth : ∀ k, k ≠ r → (w.putObj r (.deferred none)).heap[k]? = w.heap[k]? := fun k hk => World.putObj_heap_other hk
  have hz : Zk g.Z g.Z w (w.putObj r (.deferred none)) := fun b o z => ⟨z, by
    by_cases hb : b = r
    · subst hb
      simp [World.cell?, hd, World.putObj_heap_same hrl]
    · exact World.cell?_of_block (w := w) (hoth b hb)⟩
  have ha : Ag g H w g H (w.putObj r (.deferred none)) := by
    intro id x hx
    cases x with
    | cells cs => exact ⟨⟨cs, hx, rfl⟩, rfl⟩
    | arr sz nl els => exact ⟨nl, els, hx, Nat.le_refl _, fun _ => ⟨rfl, rfl, fun b vs t hb h => ⟨vs, by rw [hoth b (fun e => hφ id (e ▸ hb))]; exact h, rfl⟩⟩⟩
    | loop st pend E ps a b => exact ⟨⟨st, pend, hx⟩, rfl⟩
  refine ⟨⟨hr.len, fun b o z => by rw [World.putObj_size]; exact hr.zlt b o z, fun id b x hp hx => ?_, hr.inj⟩, ⟨hk.os, hk.tape, hk.out, by rw [World.putObj_size]; exact hk.size, fun b hb hn => ?_, hk.z, hk.zn, hk.pn⟩, ha, hz⟩
  · obtain ⟨h1, h2, h3⟩ := hr.blk id b x hp hx
    exact ⟨by rw [World.putObj_size]; exact h1, h2, BR_mono hz ha (hoth b (fun e => hφ id (e ▸ hp))) h3⟩
  · rw [hoth b (by omega)]; exact hk.fr b hb hn

theorem leaves_marks {fn : Func} {tmps : Array Value} {R : Ending → World → Prop} {g g0 : G} {H H0 : Heap} {w0 : World} {E : Env} {F : Fence} {n nn : Nat} :
    ∀ (rs : List Nat) (w : World), rs.Nodup → (∀ r ∈ rs, w0.heap.size ≤ r ∧ w.heap[r]? = some (.deferred (some [])) ∧ ∀ id : Nat, g.φ[id]? ≠ some (some r)) → HR g H w → ER g H w E tmps → Kp g0 w0 g w → AgN nn g0 H0 w0 g H w →
      (∀ w', HR g H w' → ER g H w' E tmps → Kp g0 w0 g w' → AgN nn g0 H0 w0 g H w' → ∃ v, (results fn tmps).run P w' = .ok v w' ∧ R (.returned v) w') → LeavesInM F n P fn tmps R (rs.map mkMark) .returning w
  | [], w, _, _, hr, he, hk, ha, hR => by
    obtain ⟨v, h1, h2⟩ := hR w hr he hk ha
    exact ⟨v, h1, h2⟩
  | r :: rs, w, hnd, hm, hr, he, hk, ha, hR => by
    obtain ⟨m1, m2, m3⟩ := hm r (by simp)
    obtain ⟨k1, k2, k3, k4⟩ := take_mark hr m2 m3 hk m1
    simp only [List.nodup_cons] at hnd
    refine ⟨by simp, .inl ⟨r, _, rfl, run_takeDeferred m2, ?_⟩⟩
    refine leaves_marks rs _ hnd.2 (fun q hq => ?_) k1 (ER_mono he k4 k3) k2 (ha.trans (AgN.of_ag ha.2.1 k3)) hR
    obtain ⟨j1, j2, j3⟩ := hm q (by simp [hq])
    have hne : q ≠ r := fun e => hnd.1 (by rw [← e]; exact hq)
    exact ⟨j1, by rw [World.putObj_heap_other hne]; exact j2, j3⟩

/-- A function, from its body. -/
theorem ACalls.of_body (hT : TOK P T) {f : FuncId} {fn : Func} {c : Code} {vs : List V} {H : Heap} {Q : V → Heap → Prop} (hf : P.funcs[f]? = some fn) (hb : fn.body = some c) (hnm : (fn.name == "runtime.NumGoroutine") = false) (hlen : vs.length ≤ fn.ntmps)
    (h : AWP P fn.ntmps H.length none c (envOf 0 vs) H (FnPost T fn.results.toList H.length Q)) : ACalls P f vs H Q := by
  refine ⟨⟨fn, hf, by rw [hb]; rfl, hnm⟩, fun g w cvs hr hvs => ?_⟩
  have hcl := VRs_length _ _ hvs
  refine callsIn_of_wp_marks hf hb trivial (wpIn_mono (h.2.2 g w _ none w.heap.size ⟨hr, ?_, ?_, rfl, ⟨Nat.le_refl _, [], rfl, List.nodup_nil, by simp⟩⟩) ?_)
  · intro t
    rw [look_envOf]
    simp only [Nat.zero_le, if_true, Nat.sub_zero]
    rw [List.getD_eq_getElem?_getD]
    cases hv : vs[t]? with
    | none => simp [VR]
    | some v =>
      obtain ⟨c', h1, h2⟩ := VRs_get hvs hv
      simp only [Option.getD_some]
      have hlt := lt_of_getElem? h1
      rw [Array.getD_eq_getD_getElem?, Array.getElem?_append_left (by simpa using hlt)]
      simp only [List.getElem?_toArray, h1, Option.getD_some]
      exact h2
  · simp; omega
  · rintro e a' w' ⟨x, E', H', g', rfl, h2, h3, h4, h5⟩
    obtain ⟨_, rs, hd, hnd, hrs⟩ := h3.df
    have fin : (Som (resV T E' H' fn.results.toList) fun vs => Som (pubV H.length H' (mkRes vs)) fun v => BBq H.length H' ∧ Q v (H'.take H.length)) → LeavesInM (FR none) 0 P fn a'.tmps (CPost g H w Q) a'.defers .returning w' := by
      intro hfin
      obtain ⟨us, hus, hfin⟩ := Som_iff hfin
      obtain ⟨v, hv, hbb, hq⟩ := Som_iff hfin
      rw [hd]
      refine leaves_marks rs w' hnd hrs h3.hr h3.er h4 h5 fun w2 hr2 he2 hk2 ha2 => ?_
      obtain ⟨cv, k1, k2⟩ := results_sound hT hr2 he2 hus
      refine ⟨cv, k1, cv, g'.pub H.length, v, H'.take H.length, rfl, hq, pub_sound hr2 _ _ _ hv k2, HR_pub hr2 ha2.2.1 hbb, hk2.pub _, ?_⟩
      have := (ha2.pub (Nat.le_refl _) ha2.2.1).2.2
      rwa [List.take_length, List.take_take, Nat.min_self] at this
    cases x with
    | exit id => exact h2.elim
    | normal => exact fin h2
    | ret => exact fin h2

end
end Go.Aw
end

section
namespace Go.Aw
open Go

mutual
def flatD : D → Bool
  | .sl _ => false
  | .agg l => flatDs l
  | _ => true
def flatDs : List D → Bool
  | [] => true
  | d :: r => flatD d && flatDs r
end

mutual
/-- A value that says nothing of memory. -/
def flatV : V → Bool
  | .und => true
  | .d x => flatD x
  | .tup l => flatVs l
  | _ => false
def flatVs : List V → Bool
  | [] => true
  | d :: r => flatV d && flatVs r
end

mutual
theorem DC_flat {w w' : World} {Z Z' : Nat → Nat → Prop} : ∀ (x : D) (cs : List Value), flatD x = true → DC w Z x cs → DC w' Z' x cs
  | .bool _, _, _, h => by simpa [DC] using h
  | .int _ _, _, _, h => by simpa [DC] using h
  | .str _, _, _, h => by simpa [DC] using h
  | .nilp, _, _, h => by simpa [DC] using h
  | .nilf, _, _, h => by simpa [DC] using h
  | .nilm, _, _, h => by simpa [DC] using h
  | .agg l, cs, hf, h => by
    simp only [DC] at h ⊢
    exact DCs_flat l cs (by simpa [flatD] using hf) h
  | .sl l, cs, hf, h => by simp [flatD] at hf
theorem DCs_flat {w w' : World} {Z Z' : Nat → Nat → Prop} : ∀ (l : List D) (cs : List Value), flatDs l = true → DCs w Z l cs → DCs w' Z' l cs
  | [], _, _, h => by simpa [DCs] using h
  | d :: ds, cs, hf, h => by
    simp only [flatDs, Bool.and_eq_true] at hf
    simp only [DCs] at h ⊢
    obtain ⟨c, r, h1, h2, h3⟩ := h
    exact ⟨c, r, h1, DC_flat d _ hf.1 h2, DCs_flat ds r hf.2 h3⟩
end

mutual
theorem VR_flat {w w' : World} {g g' : G} {H H' : Heap} : ∀ (x : V) (v : Value), flatV x = true → VR g H w x v → VR g' H' w' x v
  | .und, _, _, _ => by simp [VR]
  | .d x, v, hf, h => by
    simp only [flatV] at hf
    simp only [VR] at h ⊢
    unfold DR at h ⊢
    split at h
    · obtain ⟨cs, h1, h2⟩ := h
      exact ⟨cs, h1, DCs_flat _ _ (by simpa [flatD] using hf) h2⟩
    · exact DC_flat _ _ hf h
  | .tup l, v, hf, h => by
    simp only [flatV] at hf
    simp only [VR] at h ⊢
    obtain ⟨cs, h1, h2⟩ := h
    exact ⟨cs, h1, VRs_flat l _ hf h2⟩
  | .slx _ _, _, hf, _ => by simp [flatV] at hf
  | .ptr _ _, _, hf, _ => by simp [flatV] at hf
  | .pp _, _, hf, _ => by simp [flatV] at hf
  | .ref _ _ _ _, _, hf, _ => by simp [flatV] at hf
  | .ep _ _ _ _, _, hf, _ => by simp [flatV] at hf
  | .csl _ _ _, _, hf, _ => by simp [flatV] at hf
  | .fn _ _ _, _, hf, _ => by simp [flatV] at hf
  | .agg _, _, hf, _ => by simp [flatV] at hf
theorem VRs_flat {w w' : World} {g g' : G} {H H' : Heap} : ∀ (l : List V) (cs : List Value), flatVs l = true → VRs g H w l cs → VRs g' H' w' l cs
  | [], _, _, h => by simpa [VRs] using h
  | d :: ds, cs, hf, h => by
    simp only [flatVs, Bool.and_eq_true] at hf
    simp only [VRs] at h ⊢
    obtain ⟨c, r, h1, h2, h3⟩ := h
    exact ⟨c, r, h1, VR_flat d _ hf.1 h2, VRs_flat ds r hf.2 h3⟩
end

mutual
/-- A value after row id is given away. -/
def frzV (id : Nat) (els : List D) : V → V
  | .ref i m lo len => if i = id ∧ m = els.length then .d (.sl ((els.drop lo).take len)) else .ref i m lo len
  | .fn f x y => match f with
    | .yield j => .fn (.yield j) x y
    | f => .fn f (frzVs id els x) (frzVs id els y)
  | .tup l => .tup (frzVs id els l)
  | .agg l => .agg (frzVs id els l)
  | v => v
def frzVs (id : Nat) (els : List D) : List V → List V
  | [] => []
  | v :: r => frzV id els v :: frzVs id els r
end

section
variable {P : Program} {g : G} {H : Heap} {w : World}

theorem ACalls.mono {f : FuncId} {vs : List V} {Q Q' : V → Heap → Prop} (h : ACalls P f vs H Q) (hq : ∀ v H', Q v H' → Q' v H') : ACalls P f vs H Q' := by
  refine ⟨h.1, fun g w cvs hr hv => CallsIn.mono (h.2 g w cvs hr hv) ?_⟩
  rintro e w' ⟨v, g', r, H', k1, k2, k3⟩
  exact ⟨v, g', r, H', k1, hq _ _ k2, k3⟩

theorem ag_same {g' : G} {w' : World} (hφ : g'.φ = g.φ) (hh : ∀ id b : Nat, g.φ[id]? = some (some b) → w'.heap[b]? = w.heap[b]?) : Ag g H w g' H w' := by
  intro id x hx
  cases x with
  | cells cs => exact ⟨⟨cs, hx, rfl⟩, by rw [hφ]⟩
  | arr sz nl els => exact ⟨nl, els, hx, Nat.le_refl _, fun _ => ⟨rfl, by rw [hφ], fun b vs t hb h => ⟨vs, (hh id b hb).trans h, rfl⟩⟩⟩
  | loop st pend E ps a b => exact ⟨⟨st, pend, hx⟩, by rw [hφ]⟩

theorem HR_none (hr : HR g H w) : HR ⟨g.Z, []⟩ [] w :=
  ⟨rfl, hr.zlt, fun id b x hp => by simp at hp, fun i j b hi => by simp at hi⟩

/-- A contract that speaks of no heap, where there is one. -/
theorem ACalls.iso {f : FuncId} {vs : List V} {Q : V → Prop} (hvs : VBs 0 vs = true) (h : ACalls P f vs [] (fun v H' => H' = [] ∧ VB 0 v = true ∧ Q v)) : ACalls P f vs H (fun v H' => H' = H ∧ Q v) := by
  refine ⟨h.1, fun g w cvs hr hv => CallsIn.mono (h.2 ⟨g.Z, []⟩ w cvs (HR_none hr) (VBs_cut (g := g) (g' := ⟨g.Z, []⟩) (H := H) (H' := []) (n := 0) (fun _ _ z => z) (fun id hid => by omega) _ _ hvs hv)) ?_⟩
  rintro e w' ⟨v, g', r, H', rfl, ⟨rfl, hb, hq⟩, k3, k4, k5, k6⟩
  have hsame : ∀ b, b < w.heap.size → w'.heap[b]? = w.heap[b]? := fun b hb => k5.fr b hb (fun id => by simp)
  have hz : Zk g.Z g'.Z w w' := (HR_none hr).zk k5
  have ha : Ag g H w ⟨g'.Z, g.φ⟩ H w' := ag_same rfl fun id b hp => hsame b (hr.lt hp)
  refine ⟨v, ⟨g'.Z, g.φ⟩, r, H, rfl, ⟨rfl, hq⟩, VB_cut (g := g') (g' := ⟨g'.Z, g.φ⟩) (H := []) (H' := H) (n := 0) (fun _ _ z => z) (fun id hid => by omega) _ _ hb k3, ⟨hr.len, k4.zlt, fun id b x hp hx => ?_, hr.inj⟩, ⟨k5.os, k5.tape, k5.out, k5.size, fun b hb _ => hsame b hb, k5.z, fun b o z => ?_, fun id b hp => .inl hp⟩, ha⟩
  · obtain ⟨h1, h2, h3⟩ := hr.blk id b x hp hx
    refine ⟨Nat.lt_of_lt_of_le h1 k5.size, fun o z => ?_, BR_mono (g' := ⟨g'.Z, g.φ⟩) hz ha (hsame b h1) h3⟩
    rcases k5.zn b o z with z | z | ⟨id, z⟩
    · exact h2 o z
    · omega
    · simp at z
  · rcases k5.zn b o z with z | z | ⟨id, z⟩
    · exact .inl z
    · exact .inr (.inl z)
    · simp at z

/-- All rows are lent: what comes back says nothing of memory. -/
theorem ACalls.lend {f : FuncId} {vs vs' : List V} {Q : V → Prop} (hp : pubVs 0 H vs = some vs') (h : ACalls P f vs' [] (fun v H' => H' = [] ∧ flatV v = true ∧ Q v)) : ACalls P f vs H (fun v H' => H' = H ∧ Q v) := by
  refine ⟨h.1, fun g w cvs hr hv => CallsIn.mono (h.2 (g.pub 0) w cvs (by simpa using HR_pub hr (Nat.zero_le _) (.inr (by simp [BBs]))) (by simpa using pubs_sound hr _ _ _ hp hv)) ?_⟩
  rintro e w' ⟨v, g', r, H', rfl, ⟨rfl, hb, hq⟩, k3, k4, k5, k6⟩
  have hsame : ∀ b, b < w.heap.size → w'.heap[b]? = w.heap[b]? := fun b hb => k5.fr b hb (fun id => by simp [G.pub])
  have hz : Zk g.Z g.Z w w' := fun b o z => ⟨z, World.cell?_of_block (w := w) (hsame b (hr.zlt b o z))⟩
  have ha : Ag g H w g H w' := ag_same rfl fun id b hp => hsame b (hr.lt hp)
  refine ⟨v, g, r, H, rfl, ⟨rfl, hq⟩, VR_flat _ _ hb k3, ⟨hr.len, fun b o z => Nat.lt_of_lt_of_le (hr.zlt b o z) k5.size, fun id b x hp hx => ?_, hr.inj⟩, ⟨k5.os, k5.tape, k5.out, k5.size, fun b hb _ => hsame b hb, fun _ _ z => z, fun _ _ z => .inl z, fun id b hp => .inl hp⟩, ha⟩
  obtain ⟨h1, h2, h3⟩ := hr.blk id b x hp hx
  exact ⟨Nat.lt_of_lt_of_le h1 k5.size, h2, BR_mono hz ha (hsame b h1) h3⟩

theorem frz_state (hr : HR g H w) {id sz : Nat} {nl : Bool} {els : List D} (he : H[id]? = some (.arr sz nl els)) :
    ∃ g', HR g' (H.set id (.arr sz nl (els ++ [.nilp]))) w ∧ Kp g w g' w ∧ Ag g H w g' (H.set id (.arr sz nl (els ++ [.nilp]))) w ∧ (∀ b o, g.Z b o → g'.Z b o) ∧ ∀ b o, g.φ[id]? = some (some b) → g'.Z b o := by
  have hlt := lt_of_getElem? he
  have hltφ : id < g.φ.length := by rw [hr.len]; exact hlt
  have hset : (H.set id (.arr sz nl (els ++ [.nilp])))[id]? = some (.arr sz nl (els ++ [.nilp])) := by rw [List.getElem?_set_self hlt]
  have hne : ∀ j, j ≠ id → (H.set id (.arr sz nl (els ++ [.nilp])))[j]? = H[j]? := fun j hj => List.getElem?_set_ne (fun e => hj e.symm)
  have hsφ : (g.φ.set id none)[id]? = some none := by rw [List.getElem?_set_self hltφ]
  have hnφ : ∀ j, j ≠ id → (g.φ.set id none)[j]? = g.φ[j]? := fun j hj => List.getElem?_set_ne (fun e => hj e.symm)
  have old : ∀ j b : Nat, (g.φ.set id none)[j]? = some (some b) → j ≠ id ∧ g.φ[j]? = some (some b) := fun j b h => by
    by_cases hj : j = id
    · subst hj; rw [hsφ] at h; cases h
    · exact ⟨hj, by rw [← hnφ j hj]; exact h⟩
  have ha : Ag g H w ⟨fun b o => g.Z b o ∨ g.φ[id]? = some (some b), g.φ.set id none⟩ (H.set id (.arr sz nl (els ++ [.nilp]))) w := by
    intro j x hx
    by_cases hj : j = id
    · subst hj
      rw [he] at hx; cases hx
      exact ⟨nl, els ++ [.nilp], hset, by simp, fun h => by simp at h⟩
    · cases x with
      | cells cs => exact ⟨⟨cs, (hne j hj).trans hx, rfl⟩, hnφ j hj⟩
      | arr sz2 nl2 els2 => exact ⟨nl2, els2, (hne j hj).trans hx, Nat.le_refl _, fun _ => ⟨rfl, hnφ j hj, fun b vs t _ h => ⟨vs, h, rfl⟩⟩⟩
      | loop st pend E ps y z => exact ⟨⟨st, pend, (hne j hj).trans hx⟩, hnφ j hj⟩
  have hz : Zk g.Z (fun b o => g.Z b o ∨ g.φ[id]? = some (some b)) w w := fun b o z => ⟨.inl z, rfl⟩
  refine ⟨⟨fun b o => g.Z b o ∨ g.φ[id]? = some (some b), g.φ.set id none⟩, ⟨by simp [hr.len], fun b o z => ?_, fun j b x hp hx => ?_, fun i j b hi hj => ?_⟩, ⟨rfl, rfl, rfl, Nat.le_refl _, fun _ _ _ => rfl, fun _ _ z => .inl z, fun b o z => ?_, fun j b hp => .inl (old j b hp).2⟩, ha, fun _ _ z => .inl z, fun b o h => .inr h⟩
  · rcases z with z | z
    · exact hr.zlt b o z
    · exact hr.lt z
  · obtain ⟨hj, hp'⟩ := old j b hp
    rw [hne j hj] at hx
    obtain ⟨h1, h2, h3⟩ := hr.blk j b x hp' hx
    refine ⟨h1, fun o z => ?_, BR_mono hz ha rfl h3⟩
    rcases z with z | z
    · exact h2 o z
    · exact hj (hr.inj _ _ _ hp' z)
  · exact hr.inj i j b (old i b hi).2 (old j b hj).2
  · rcases z with z | z
    · exact .inl z
    · exact .inr (.inr ⟨id, z⟩)

mutual
theorem frz_sound (hr : HR g H w) {g' : G} {H' : Heap} {id sz : Nat} {nl : Bool} {els : List D} (he : H[id]? = some (.arr sz nl els)) (ha : Ag g H w g' H' w) (hz : ∀ b o, g.Z b o → g'.Z b o) (hf : ∀ b o, g.φ[id]? = some (some b) → g'.Z b o) :
    ∀ (x : V) (v : Value), VR g H w x v → VR g' H' w (frzV id els x) v
  | .und, _, _ => by simp [frzV, VR]
  | .d x, v, h => by simpa only [frzV] using VR_mono (Zk.same hz) ha _ _ h
  | .slx nl l, v, h => by simpa only [frzV] using VR_mono (Zk.same hz) ha _ _ h
  | .ptr i off, v, h => by simpa only [frzV] using VR_mono (Zk.same hz) ha _ _ h
  | .pp cs, v, h => by simpa only [frzV] using VR_mono (Zk.same hz) ha _ _ h
  | .ep i m k off, v, h => by simpa only [frzV] using VR_mono (Zk.same hz) ha _ _ h
  | .csl i es len, v, h => by simpa only [frzV] using VR_mono (Zk.same hz) ha _ _ h
  | .ref i m lo len, v, h => by
    simp only [frzV]
    split
    · rename_i hc
      obtain ⟨rfl, rfl⟩ := hc
      simp only [VR]
      exact ref_frozen hr hz he rfl hf h
    · exact VR_mono (Zk.same hz) ha _ _ h
  | .fn f x y, v, h => by
    cases f with
    | yield j => simpa only [frzV] using VR_mono (Zk.same hz) ha _ _ h
    | _ =>
      simp only [frzV, VR] at h ⊢
      obtain ⟨x', y', h1, h2, h3⟩ := h
      exact ⟨x', y', h1, frzs_sound hr he ha hz hf x _ h2, frzs_sound hr he ha hz hf y _ h3⟩
  | .agg l, v, h => by
    simp only [frzV, VR] at h ⊢
    obtain ⟨cs, h1, h2⟩ := h
    exact ⟨cs, h1, frzs_sound hr he ha hz hf l _ h2⟩
  | .tup l, v, h => by
    simp only [frzV, VR] at h ⊢
    obtain ⟨cs, h1, h2⟩ := h
    exact ⟨cs, h1, frzs_sound hr he ha hz hf l _ h2⟩
theorem frzs_sound (hr : HR g H w) {g' : G} {H' : Heap} {id sz : Nat} {nl : Bool} {els : List D} (he : H[id]? = some (.arr sz nl els)) (ha : Ag g H w g' H' w) (hz : ∀ b o, g.Z b o → g'.Z b o) (hf : ∀ b o, g.φ[id]? = some (some b) → g'.Z b o) :
    ∀ (l : List V) (cs : List Value), VRs g H w l cs → VRs g' H' w (frzVs id els l) cs
  | [], _, h => by simpa [frzVs, VRs] using h
  | d :: ds, cs, h => by
    simp only [frzVs, VRs] at h ⊢
    obtain ⟨c, r, h1, h2, h3⟩ := h
    exact ⟨c, r, h1, frz_sound hr he ha hz hf d _ h2, frzs_sound hr he ha hz hf ds r h3⟩
end

/-- Row id is given away for good: nobody writes it again. -/
theorem ACalls.frz {f : FuncId} {vs : List V} {Q : V → Heap → Prop} {id sz : Nat} {nl : Bool} {els : List D} (he : H[id]? = some (.arr sz nl els))
    (h : ACalls P f (frzVs id els vs) (H.set id (.arr sz nl (els ++ [.nilp]))) Q) : ACalls P f vs H Q := by
  refine ⟨h.1, fun g w cvs hr hv => ?_⟩
  obtain ⟨g', h1, h2, h3, h4, h5⟩ := frz_state hr he
  refine CallsIn.mono (h.2 g' w cvs h1 (frzs_sound hr he h3 h4 h5 _ _ hv)) ?_
  rintro e w' ⟨v, g2, r, H', rfl, k2, k3, k4, k5, k6⟩
  exact ⟨v, g2, r, H', rfl, k2, k3, k4, h2.trans k5, h3.trans k6⟩

end
end Go.Aw
end

section
namespace Go.Aw
open Go

def szOf (P : Program) (t : TypeId) : Nat :=
  match P.info? t with
  | some i => i.size
  | none => 0

/-- The kinds of the cells of fields that lie one behind the other, from a place on. -/
def kindFs (P : Program) (rec : TypeId → Option (List D)) : Nat → List Field → Option (List D)
  | _, [] => some []
  | o, f :: r => match rec f.type with
    | some k => if f.offset = o ∧ f.name ≠ "_" ∧ (P.info? f.type).isSome = true ∧ szOf P f.type = k.length then (kindFs P rec (o + k.length) r).map (k ++ ·) else none
    | none => none

/-- The kinds of the cells at a type whose '==' compares cell by cell. -/
def kindL (P : Program) : Nat → TypeId → Option (List D)
  | 0, _ => none
  | d + 1, t => match P.underlying t with
    | some (.int k) => some [.int k 0]
    | some .bool => some [.bool false]
    | some .string => some [.str ⟨#[]⟩]
    | some (.struct fs) => if P.stoodInHeld t then none else kindFs P (kindL P d) 0 fs.toList
    | _ => none

section
variable {P : Program} {w : World} {Z : Nat → Nat → Prop}

/-- A value whose cells are these. -/
def ValOf (P : Program) (t : TypeId) (xs : List Value) (v : Value) : Prop :=
  ∃ d, P.underlying t = some d ∧ ((scal d = true ∧ xs = [v]) ∨ (scal d = false ∧ v = .agg xs.toArray))

theorem aeqs_split : ∀ {a b : List D} {r : Bool} (n : Nat), aeqs a b = some r → ∃ p q, aeqs (a.take n) (b.take n) = some p ∧ aeqs (a.drop n) (b.drop n) = some q ∧ r = (p && q)
  | a, b, r, 0, h => ⟨true, r, by simp [aeqs], by simpa using h, by simp⟩
  | [], b, r, n + 1, h => by
    cases b with
    | nil => simp [aeqs] at h; subst h; exact ⟨true, true, rfl, rfl, rfl⟩
    | cons y b => simp [aeqs] at h
  | x :: a, b, r, n + 1, h => by
    cases b with
    | nil => cases x <;> simp [aeqs] at h
    | cons y b =>
      cases x <;> cases y <;> simp only [aeqs] at h <;> try (cases h; done)
      all_goals try
        (simp only [Option.map_eq_some_iff] at h
         obtain ⟨t, ht, rfl⟩ := h
         obtain ⟨p, q, h1, h2, rfl⟩ := aeqs_split n ht
         exact ⟨_, q, by simp only [List.take_succ_cons, aeqs, h1, Option.map_some]; rfl, by simpa using h2, by simp [Bool.and_assoc]⟩)
      split at h
      · rename_i hk
        simp only [Option.map_eq_some_iff] at h
        obtain ⟨t, ht, rfl⟩ := h
        obtain ⟨p, q, h1, h2, rfl⟩ := aeqs_split n ht
        exact ⟨_, q, by simp only [List.take_succ_cons, aeqs, h1, Option.map_some, hk, if_true]; rfl, by simpa using h2, by simp [Bool.and_assoc]⟩
      · cases h

theorem run_isAgg_of {t : TypeId} {d : TypeDesc} (h : P.underlying t = some d) : (isAgg t).run P w = .ok (!scal d) w := by
  cases hs : scal d with
  | true => exact run_isAgg_false h hs
  | false => exact run_isAgg_true h hs

theorem part_val {t : TypeId} {d : TypeDesc} {i : TypeInfo} (hd : P.underlying t = some d) (hi : P.info? t = some i) {cs : List Value} {off : Nat} (hl : off + i.size ≤ cs.length) (hone : scal d = true → i.size = 1) :
    ∃ v, (part t cs.toArray off).run P w = .ok v w ∧ ValOf P t ((cs.drop off).take i.size) v := by
  unfold part
  cases hs : scal d with
  | true =>
    have h1 := hone hs
    have hlt : off < cs.length := by omega
    refine ⟨cs[off], ?_, d, hd, .inl ⟨hs, ?_⟩⟩
    · simp [run_isAgg_of hd, hs, hlt]
    · rw [h1]
      apply List.ext_getElem?
      intro q
      rw [chunk_get]
      cases q with
      | zero => simp [hlt]
      | succ q => simp
  | false =>
    refine ⟨_, by simp only [Sem.run_bind, run_isAgg_of hd, hs, Result.andThen_ok, Bool.not_false, if_true, run_sizeOf hi, Sem.run_pure]; rfl, d, hd, .inr ⟨hs, ?_⟩⟩
    congr 1
    apply Array.ext'
    simp [List.extract_eq_take_drop]

theorem like_length : ∀ {a b : List D}, like a b = true → a.length = b.length
  | [], [], _ => rfl
  | [], y :: b, h => by simp [like] at h
  | x :: a, [], h => by cases x <;> simp [like] at h
  | x :: a, y :: b, h => by
    cases x <;> cases y <;> simp [like] at h
    · simp [like_length h]
    · simp [like_length h.2]
    · simp [like_length h]

theorem like_append : ∀ {a a' b : List D}, like (a ++ a') b = true → like a (b.take a.length) = true ∧ like a' (b.drop a.length) = true
  | [], a', b, h => by simpa [like] using h
  | x :: a, a', [], h => by cases x <;> simp [like] at h
  | x :: a, a', y :: b, h => by
    cases x <;> cases y <;> simp [like] at h ⊢
    · exact like_append h
    · exact ⟨⟨h.1, (like_append h.2).1⟩, (like_append h.2).2⟩
    · exact like_append h

theorem like_trans : ∀ {a b c : List D}, like a b = true → like b c = true → like a c = true
  | [], [], c, _, h => h
  | [], y :: b, c, h, _ => by simp [like] at h
  | x :: a, [], c, h, _ => by cases x <;> simp [like] at h
  | x :: a, y :: b, [], _, h => by cases y <;> simp [like] at h
  | x :: a, y :: b, z :: c, h, k => by
    cases x <;> cases y <;> simp [like] at h <;> cases z <;> simp [like] at k ⊢
    · exact like_trans h k
    · exact ⟨h.1.trans k.1, like_trans h.2 k.2⟩
    · exact like_trans h k

theorem aeqs_length : ∀ {a b : List D} {r : Bool}, aeqs a b = some r → a.length = b.length
  | [], [], _, _ => rfl
  | [], y :: b, _, h => by simp [aeqs] at h
  | x :: a, [], _, h => by cases x <;> simp [aeqs] at h
  | x :: a, y :: b, r, h => by
    cases x <;> cases y <;> simp only [aeqs] at h <;> try (cases h; done)
    · simp only [Option.map_eq_some_iff] at h; obtain ⟨t, ht, _⟩ := h; simp [aeqs_length ht]
    · split at h
      · simp only [Option.map_eq_some_iff] at h; obtain ⟨t, ht, _⟩ := h; simp [aeqs_length ht]
      · cases h
    · simp only [Option.map_eq_some_iff] at h; obtain ⟨t, ht, _⟩ := h; simp [aeqs_length ht]

def CmpAt (P : Program) (Z : Nat → Nat → Prop) (d : Nat) : Prop :=
  ∀ (t : TypeId) (kl : List D), kindL P d t = some kl → ∀ (k : Nat), d ≤ k → ∀ (w : World) (ds es : List D) (xs ys : List Value) (vx vy : Value) (b : Bool), DCs w Z ds xs → DCs w Z es ys → like kl ds = true → aeqs ds es = some b → ValOf P t xs vx → ValOf P t ys vy →
    (Op.equalIn k t vx vy).run P w = .ok b w

theorem fields_sound {d : Nat} (ih : CmpAt P Z d) : ∀ (fs : List Field) (o : Nat) (kl : List D), kindFs P (kindL P d) o fs = some kl → ∀ (k : Nat), d ≤ k → ∀ (w : World) (ds es : List D) (xs ys : List Value) (b : Bool), DCs w Z ds xs → DCs w Z es ys → o ≤ ds.length → o ≤ es.length → like kl (ds.drop o) = true → aeqs (ds.drop o) (es.drop o) = some b →
    (Op.eqFields k xs.toArray ys.toArray fs).run P w = .ok b w
  | [], o, kl, h => by
    intro k hk w ds es xs ys b hx hy hol hol' hl he
    simp [kindFs] at h; subst h
    have : ds.drop o = [] := by
      have := like_length hl
      exact List.eq_nil_of_length_eq_zero (by simpa using this.symm)
    rw [this] at he
    cases hes : es.drop o with
    | nil => rw [hes] at he; simp [aeqs] at he; subst he; simp [Op.eqFields]
    | cons y r => rw [hes] at he; simp [aeqs] at he
  | f :: fs, o, kl, h => by
    intro k hk w ds es xs ys b hx hy hol hol' hl he
    simp only [kindFs] at h
    split at h
    · rename_i kf hkf
      split at h
      · rename_i hc
        obtain ⟨ho, hname, hinfo, hsz⟩ := hc
        simp only [Option.map_eq_some_iff] at h
        obtain ⟨kr, hkr, rfl⟩ := h
        obtain ⟨i, hi⟩ := Option.isSome_iff_exists.1 hinfo
        have hisz : i.size = kf.length := by rw [← hsz]; simp [szOf, hi]
        obtain ⟨g1, g2⟩ := like_append hl
        obtain ⟨p, q, e1, e2, rfl⟩ := aeqs_split kf.length he
        have ll := like_length hl
        have l3 := aeqs_length he
        simp at ll l3
        have lx := DCs_length _ _ hx
        have ly := DCs_length _ _ hy
        obtain ⟨dd, hd⟩ : ∃ dd, P.underlying f.type = some dd := by
          cases d with
          | zero => simp [kindL] at hkf
          | succ d =>
            simp only [kindL] at hkf
            cases hu : P.underlying f.type with
            | none => rw [hu] at hkf; cases hkf
            | some dd => exact ⟨dd, rfl⟩
        have hone : scal dd = true → i.size = 1 := by
          intro hs
          rw [hisz]
          cases d with
          | zero => simp [kindL] at hkf
          | succ d =>
            simp only [kindL, hd] at hkf
            cases dd <;> simp [scal] at hs <;> simp at hkf <;> subst hkf <;> rfl
        subst ho
        obtain ⟨va, ha1, ha2⟩ := part_val (P := P) (w := w) hd hi (cs := xs) (off := f.offset) (by omega) hone
        obtain ⟨vb, hb1, hb2⟩ := part_val (P := P) (w := w) hd hi (cs := ys) (off := f.offset) (by omega) hone
        rw [hisz] at ha2 hb2
        have hrec := ih f.type kf hkf k hk w ((ds.drop f.offset).take kf.length) ((es.drop f.offset).take kf.length) _ _ va vb p (DCs_take kf.length _ _ (DCs_drop f.offset _ _ hx)) (DCs_take kf.length _ _ (DCs_drop f.offset _ _ hy)) g1 e1 ha2 hb2
        simp only [Op.eqFields, ne_eq, hname, not_false_eq_true, if_true, Sem.run_bind, ha1, hb1, hrec, Result.andThen_ok]
        cases p with
        | false => simp
        | true =>
          simp only [Bool.not_true, Bool.false_eq_true, if_false, Bool.true_and]
          exact fields_sound ih fs (f.offset + kf.length) kr hkr k hk w ds es xs ys q hx hy (by omega) (by omega) (by simpa [List.drop_drop] using g2) (by simpa [List.drop_drop] using e2)
      · cases h
    · cases h

theorem cmp_sound : ∀ (d : Nat), CmpAt P Z d
  | 0, t, kl, h => by simp [kindL] at h
  | d + 1, t, kl, h => by
    intro k hk w ds es xs ys vx vy b hx hy hl he hvx hvy
    obtain ⟨k, rfl⟩ : ∃ k', k = k' + 1 := ⟨k - 1, by omega⟩
    simp only [kindL] at h
    obtain ⟨dd, hd, hvx⟩ := hvx
    obtain ⟨dd', hd', hvy⟩ := hvy
    rw [hd] at hd'; cases hd'
    rw [hd] at h
    have l1 := DCs_length _ _ hx
    have l2 := DCs_length _ _ hy
    have l3 := aeqs_length he
    have l4 := like_length hl
    have one : scal dd = true → xs = [vx] ∧ ys = [vy] := by
      intro hs
      rcases hvx with ⟨_, h1⟩ | ⟨h', _⟩
      · rcases hvy with ⟨_, h2⟩ | ⟨h', _⟩
        · exact ⟨h1, h2⟩
        · rw [hs] at h'; cases h'
      · rw [hs] at h'; cases h'
    split at h
    · rename_i kk hdd
      cases hdd
      simp at h; subst h
      obtain ⟨rfl, rfl⟩ := one rfl
      obtain ⟨x, rfl⟩ := List.length_eq_one_iff.1 (by simpa using l1.symm)
      obtain ⟨y, rfl⟩ := List.length_eq_one_iff.1 (by simpa using l2.symm)
      cases x <;> simp [like] at hl
      cases y <;> simp [aeqs] at he
      obtain ⟨rfl, rfl⟩ := he
      simp only [DCs, DC] at hx hy
      obtain ⟨c, r, e1, h1, rfl⟩ := hx
      obtain ⟨c', r', e2, h2, rfl⟩ := hy
      cases e1; cases e2
      simp at h1 h2; subst h1; subst h2
      exact run_equalIn_int w k t _ kk _ _ hd
    · rename_i hdd
      cases hdd
      simp at h; subst h
      obtain ⟨rfl, rfl⟩ := one rfl
      obtain ⟨x, rfl⟩ := List.length_eq_one_iff.1 (by simpa using l1.symm)
      obtain ⟨y, rfl⟩ := List.length_eq_one_iff.1 (by simpa using l2.symm)
      cases x <;> simp [like] at hl
      cases y <;> simp [aeqs] at he
      subst he
      simp only [DCs, DC] at hx hy
      obtain ⟨c, r, e1, h1, rfl⟩ := hx
      obtain ⟨c', r', e2, h2, rfl⟩ := hy
      cases e1; cases e2
      simp at h1 h2; subst h1; subst h2
      exact run_equalIn_bool' w k t _ _ hd
    · rename_i hdd
      cases hdd
      simp at h; subst h
      obtain ⟨rfl, rfl⟩ := one rfl
      obtain ⟨x, rfl⟩ := List.length_eq_one_iff.1 (by simpa using l1.symm)
      obtain ⟨y, rfl⟩ := List.length_eq_one_iff.1 (by simpa using l2.symm)
      cases x <;> simp [like] at hl
      cases y <;> simp [aeqs] at he
      subst he
      simp only [DCs, DC] at hx hy
      obtain ⟨c, r, e1, h1, rfl⟩ := hx
      obtain ⟨c', r', e2, h2, rfl⟩ := hy
      cases e1; cases e2
      simp at h1 h2; subst h1; subst h2
      rw [run_equalIn_string w k t _ _ hd, beq_toListBytes]
    · rename_i fs hdd
      cases hdd
      split at h
      · cases h
      · rename_i hst
        have hst' : P.stoodInHeld t = false := by simpa using hst
        have agg : vx = .agg xs.toArray ∧ vy = .agg ys.toArray := by
          rcases hvx with ⟨h', _⟩ | ⟨_, h1⟩
          · cases h'
          · rcases hvy with ⟨h', _⟩ | ⟨_, h2⟩
            · cases h'
            · exact ⟨h1, h2⟩
        obtain ⟨rfl, rfl⟩ := agg
        have hff : P.fieldsOf t = fs := by simp [Program.fieldsOf, hd]
        rw [run_equalIn_struct w k t _ _ (by rw [hff]; exact hd) hst', hff]
        exact fields_sound (cmp_sound d) fs.toList 0 kl h k (by omega) w ds es xs ys b hx hy (Nat.zero_le _) (Nat.zero_le _) (by simpa using hl) (by simpa using he)
    · cases h
end

/-! ### The table -/

def cvD : Value → Option D
  | .agg cs => (cvds cs.toList).map .agg
  | v => cvd v

def fieldsL (P : Program) : List Field → Option (List (Nat × Nat × Nat))
  | [] => some []
  | f :: r => match P.info? f.type, fieldsL P r with
    | some j, some l => if j.size ≠ 0 then some ((f.offset, j.size, f.type) :: l) else none
    | _, _ => none

def cmpT (P : Program) (t : TypeId) (z : List D) : Bool :=
  match kindL P 10 t with
  | some kl => like kl z && !P.eqGuardType P.depth t
  | none => false

def tyAt (P : Program) (t : TypeId) (i : TypeInfo) (d : TypeDesc) (zero : Value) : Ty :=
  match d with
  | .slice e => match P.info? e, zero with
    | some j, .slice none 0 0 => match j.zero with
      | some zv => match cvD zv with
        | some z => if i.size = 1 ∧ 1 ≤ j.size ∧ j.bytes ≤ 4096 ∧ (dcells z).length = j.size then .sl j.size z else .no
        | none => .no
      | none => .no
    | _, _ => .no
  | .struct fs => match zero with
    | .agg zs => match cvds zs.toList, fieldsL P fs.toList with
      | some z, some l => if z.length = i.size ∧ z.all (fun x => (V.d x).one) = true then .st i.size l z (cmpT P t z) else .no
      | _, _ => .no
    | _ => .no
  | .array n e => match zero, P.info? e with
    | .agg zs, some j => match cvds zs.toList with
      | some z => if z.length = i.size ∧ i.size = n * j.size ∧ z.all (fun x => (V.d x).one) = true then .ar n j.size e z false else .no
      | none => .no
    | _, _ => .no
  | .int k => match zero with
    | .int k' n => if k = k' ∧ i.size = 1 then .sc (.int k n) else .no
    | _ => .no
  | .bool => match zero with
    | .bool b => if i.size = 1 then .sc (.bool b) else .no
    | _ => .no
  | .string => match zero with
    | .string b => if i.size = 1 then .sc (.str b) else .no
    | _ => .no
  | .pointer _ => match zero with
    | .pointer none => if i.size = 1 then .sc .nilp else .no
    | _ => .no
  | .func _ _ _ => match zero with
    | .nilFunc => if i.size = 1 then .sc .nilf else .no
    | _ => .no
  | .map _ _ => match zero with
    | .map none => if i.size = 1 then .sc .nilm else .no
    | _ => .no
  | _ => .no

def tyOf (P : Program) (t : TypeId) : Ty :=
  match P.info? t, P.underlying t with
  | some i, some d => match i.zero with
    | some zero => tyAt P t i d zero
    | none => .no
  | _, _ => .no

section
variable {P : Program}

theorem fieldsL_sound : ∀ (fs : List Field) (l : List (Nat × Nat × Nat)), fieldsL P fs = some l → l.length = fs.length ∧ ∀ (k : Nat) f, fs[k]? = some f → ∃ j, P.info? f.type = some j ∧ l[k]? = some (f.offset, j.size, f.type) ∧ j.size ≠ 0
  | [], l, h => by simp [fieldsL] at h; subst h; simp
  | f :: r, l, h => by
    simp only [fieldsL] at h
    split at h
    · rename_i j l' hj hl
      split at h
      · rename_i hne
        simp at h; subst h
        obtain ⟨h1, h2⟩ := fieldsL_sound r l' hl
        refine ⟨by simp [h1], fun k g hk => ?_⟩
        cases k with
        | zero => simp at hk; subst hk; exact ⟨j, hj, rfl, hne⟩
        | succ k => simpa using h2 k g (by simpa using hk)
      · cases h
    · cases h

theorem cvd_z {g : G} {H : Heap} {w : World} : ∀ (v : Value) (x : D), cvd v = some x → VR g H w (match x with
    | .sl [] => .slx (some true) []
    | x => .d x) v := by
  intro v x h
  unfold cvd at h
  split at h <;> simp at h <;> subst h <;> simp [VR, DR, DC]

theorem cvds_z {g : G} {H : Heap} {w : World} : ∀ (l : List Value) (ds : List D), cvds l = some ds → VRs g H w (ds.map fun x => match x with
    | .sl [] => .slx (some true) []
    | x => .d x) l
  | [], ds, h => by simp [cvds] at h; subst h; rfl
  | v :: r, ds, h => by
    simp only [cvds] at h
    split at h
    · rename_i x l hx hl
      simp at h; subst h
      exact ⟨v, r, rfl, cvd_z v x hx, cvds_z r l hl⟩
    · cases h

theorem cvd_noagg {v : Value} {l : List D} (h : cvd v = some (.agg l)) : False := by
  unfold cvd at h
  split at h <;> simp at h

theorem cvd_nocells {v : Value} {x : D} (h : cvd v = some x) : v.cells.toList = [v] := by
  unfold cvd at h
  split at h <;> simp [Value.cells] at h ⊢

theorem zcells_sound {g : G} {H : Heap} {w : World} {v : Value} {x : D} (h : cvD v = some x) : VRs g H w (zcells x) v.cells.toList := by
  unfold cvD at h
  split at h
  · rename_i cs
    simp only [Option.map_eq_some_iff] at h
    obtain ⟨l, h1, rfl⟩ := h
    exact cvds_z _ _ h1
  · rw [cvd_nocells h]
    have : dcells x = [x] := by
      cases x with
      | agg l => exact (cvd_noagg h).elim
      | _ => rfl
    unfold zcells
    rw [this]
    exact ⟨v, [], rfl, cvd_z v x h, rfl⟩

theorem cvD_sound {w : World} {Z : Nat → Nat → Prop} {v : Value} {x : D} (h : cvD v = some x) : DC w Z x v.cells.toList := by
  unfold cvD at h
  split at h
  · simp only [Option.map_eq_some_iff] at h
    obtain ⟨l, hl, rfl⟩ := h
    simp only [DC, Value.cells]
    exact cvds_sound _ _ hl
  · exact DR_cells (cvd_sound _ _ h).1

theorem eqok_of {t : TypeId} {z : List D} {d : TypeDesc} (hd : P.underlying t = some d) (hs : scal d = false) (h : cmpT P t z = true) : EqOK P t z := by
  unfold cmpT at h
  split at h
  · rename_i kl hkl
    simp only [Bool.and_eq_true] at h
    obtain ⟨h1, h2⟩ := h
    refine ⟨by simpa using h2, fun w Z ds es xs ys b hl hx hy he => ?_⟩
    exact cmp_sound 10 t kl hkl _ (by decide) w ds es xs ys _ _ b hx hy (like_trans h1 hl) he ⟨d, hd, .inr ⟨hs, rfl⟩⟩ ⟨d, hd, .inr ⟨hs, rfl⟩⟩
  · cases h

theorem tok (P : Program) : TOK P (tyOf P) := by
  intro t
  unfold tyOf
  split
  case h_2 => trivial
  rename_i i d hi hd
  split
  case h_2 => trivial
  rename_i zero hz
  have all : ∀ {z : List D}, z.all (fun x => (V.d x).one) = true → ∀ x ∈ z, (V.d x).one = true := fun h => List.all_eq_true.1 h
  cases d with
  | slice e =>
    simp only [tyAt]
    split
    · rename_i j hj
      split
      · rename_i zv hzv
        split
        · rename_i z hz'
          split
          · rename_i hc
            exact ⟨i, e, j, zv, hi, hc.1, hz, hd, hj, rfl, hc.2.1, hc.2.2.1, hzv, ⟨fun w Z => cvD_sound hz', fun g H w => zcells_sound hz'⟩, hc.2.2.2⟩
          · trivial
        · trivial
      · trivial
    · trivial
  | struct fs =>
    simp only [tyAt]
    split
    · rename_i zs
      split
      · rename_i z l hzs hl
        split
        · rename_i hc
          obtain ⟨f1, f2⟩ := fieldsL_sound _ _ hl
          exact ⟨fun h => eqok_of hd rfl h, i, zs, fs, hi, rfl, hz, hd, ⟨fun w Z => cvds_sound _ _ hzs, fun g H w => cvds_z _ _ hzs⟩, hc.1, all hc.2, by simpa using f1, fun k f hk => f2 k f (by simpa using hk)⟩
        · trivial
      · trivial
    · trivial
  | array n e =>
    simp only [tyAt]
    split
    · rename_i zs j hj
      split
      · rename_i z hzs
        split
        · rename_i hc
          exact ⟨fun h => by simp at h, i, zs, e, j, hi, hc.2.1, hz, hd, ⟨rfl, hj⟩, rfl, fun w Z => cvds_sound _ _ hzs, hc.1.trans hc.2.1, all hc.2.2⟩
        · trivial
      · trivial
    · trivial
  | int k =>
    simp only [tyAt]
    split
    · split
      · rename_i hc
        exact ⟨i, _, _, hi, hc.2, hz, hd, rfl, fun w Z => by simp [DR, DC, hc.1], rfl, fun k' n' h => by cases h; rw [hc.1], by simp, by simp, by simp, by simp⟩
      · trivial
    · trivial
  | bool =>
    simp only [tyAt]
    split
    · split
      · rename_i hc
        exact ⟨i, _, _, hi, hc, hz, hd, rfl, fun w Z => by simp [DR, DC], rfl, by simp, by simp, by simp, by simp, by simp⟩
      · trivial
    · trivial
  | string =>
    simp only [tyAt]
    split
    · split
      · rename_i hc
        exact ⟨i, _, _, hi, hc, hz, hd, rfl, fun w Z => by simp [DR, DC], rfl, by simp, by simp, by simp, by simp, by simp⟩
      · trivial
    · trivial
  | pointer e =>
    simp only [tyAt]
    split
    · split
      · rename_i hc
        exact ⟨i, _, _, hi, hc, hz, hd, rfl, fun w Z => by simp [DR, DC], rfl, by simp, by simp, fun _ => ⟨_, rfl⟩, by simp, by simp⟩
      · trivial
    · trivial
  | func a b c =>
    simp only [tyAt]
    split
    · split
      · rename_i hc
        exact ⟨i, _, _, hi, hc, hz, hd, rfl, fun w Z => by simp [DR, DC], rfl, by simp, by simp, by simp, fun _ => ⟨_, _, _, rfl⟩, by simp⟩
      · trivial
    · trivial
  | map a b =>
    simp only [tyAt]
    split
    · split
      · rename_i hc
        exact ⟨i, _, _, hi, hc, hz, hd, rfl, fun w Z => by simp [DR, DC], rfl, by simp, by simp, by simp, by simp, by simp⟩
      · trivial
    · trivial
  | _ => simp only [tyAt]; trivial

end
end Go.Aw
end

section
namespace Go.Aw
open Go

def normK (K : Env → Heap → Prop) : Ex → Env → Heap → Prop
  | .normal, E, H => K E H
  | _, _, _ => False

section
variable (P : Program) (N n0 : Nat) (r : Option Nat)

def ALoop : LoopH := fun c E H Q => AWP P N n0 r (.loop c) E H Q
def ARng : LoopH := fun c E H Q => AWP P N n0 r c E H Q
def ADrw : DrawH := fun ops E H K => ∀ i, AWP P N n0 r (.region i ops true) E H (normK K)

end

section
variable {P : Program} {T : Nat → Ty} {N n0 : Nat} {r : Option Nat}

theorem AWP.run (hint : Nat → Bool) (hT : TOK P T) {c : Code} {E : Env} {H : Heap} {Q : Ex → Env → Heap → Prop} (hr : ∀ id, r = some id → id < n0) (hn : n0 ≤ H.length) (hok : cOk N c = true)
    (h : ev T hint (ACallV P) (ALoop P N n0 r) (ARng P N n0 r) (ADrw P N n0 r) c E H Q) : AWP P N n0 r c E H Q := by
  refine ev_sound hT (fun _ _ _ _ h => h) (fun _ _ _ _ _ h => h) (fun _ _ _ _ _ h => h) (fun i ops E H Q hn hok h => (h i).mono ?_) hr c E H Q hok hn h
  intro x E' H' _ hx
  cases x with
  | normal => exact hx
  | exit id => exact hx.elim
  | ret => exact hx.elim

/-- A function, by the evaluator. -/
theorem ACalls.run (hint : Nat → Bool) (hT : TOK P T) {f : FuncId} {fn : Func} {c : Code} {N : Nat} {rs : List ResultVar} {vs : List V} {H : Heap} {Q : V → Heap → Prop} (hf : P.funcs[f]? = some fn) (hb : fn.body = some c) (hN : fn.ntmps = N) (hrs : fn.results.toList = rs)
    (hnm : (fn.name == "runtime.NumGoroutine") = false) (hlen : decide (vs.length ≤ N) = true) (hok : cOk N c = true)
    (h : ev T hint (ACallV P) (ALoop P N H.length none) (ARng P N H.length none) (ADrw P N H.length none) c (envOf 0 vs) H (FnPost T rs H.length Q)) : ACalls P f vs H Q := by
  subst hN; subst hrs
  exact .of_body hT hf hb hnm (by simpa using hlen) (.run hint hT (fun _ h => by cases h) (Nat.le_refl _) hok h)

/-- Of data alone comes a value. -/
def PC (P : Program) (f : FuncId) (vs : List V) (v : V) : Prop := ACalls P f vs [] (fun r H' => H' = [] ∧ r = v)

theorem PC.run (hint : Nat → Bool) (hT : TOK P T) {f : FuncId} {fn : Func} {c : Code} {N : Nat} {rs : List ResultVar} {vs : List V} {v : V} (hf : P.funcs[f]? = some fn) (hb : fn.body = some c) (hN : fn.ntmps = N) (hrs : fn.results.toList = rs)
    (hnm : (fn.name == "runtime.NumGoroutine") = false) (hlen : decide (vs.length ≤ N) = true) (hok : cOk N c = true)
    (h : ev T hint (ACallV P) (ALoop P N 0 none) (ARng P N 0 none) (ADrw P N 0 none) c (envOf 0 vs) [] (FnPost T rs 0 fun r H' => H' = [] ∧ r = v)) : PC P f vs v :=
  ACalls.run hint hT hf hb hN hrs hnm hlen hok h

theorem PC.use {f : FuncId} {vs : List V} {v : V} (h : PC P f vs v) {H : Heap} {Q : V → Heap → Prop} (h1 : VBs 0 vs = true) (h2 : VB 0 v = true) (hq : Q v H) : ACalls P f vs H Q := by
  refine ACalls.mono (ACalls.iso (Q := fun r => r = v) h1 (ACalls.mono h fun r H' hr => ⟨hr.1, hr.2 ▸ h2, hr.2⟩)) ?_
  rintro r H' ⟨rfl, rfl⟩
  exact hq

theorem PC.lend {f : FuncId} {vs vs' : List V} {v : V} (h : PC P f vs' v) {H : Heap} {Q : V → Heap → Prop} (h1 : pubVs 0 H vs = some vs') (h2 : flatV v = true) (hq : Q v H) : ACalls P f vs H Q := by
  refine ACalls.mono (ACalls.lend (Q := fun r => r = v) h1 (ACalls.mono h fun r H' hr => ⟨hr.1, hr.2 ▸ h2, hr.2⟩)) ?_
  rintro r H' ⟨rfl, rfl⟩
  exact hq

/-! ### Loops -/

/-- All else forgotten, the state is this one. -/
def ForgetTo (n0 : Nat) (E : Env) (H : Heap) (E' : Env) (H' : Heap) : Prop :=
  n0 ≤ H'.length ∧ H'.length ≤ H.length ∧ BBq H'.length H ∧ H.take H'.length = H' ∧ EW H'.length H E E'

theorem ForgetTo.cut {E : Env} {H : Heap} {E' : Env} {H' : Heap} {R : Env → Heap → Prop} (h : ForgetTo n0 E H E' H') (hr : R E' H') : CutTo n0 E H R :=
  ⟨E', H'.length, h.1, h.2.1, h.2.2.1, h.2.2.2.2, by rw [h.2.2.2.1]; exact hr⟩

/-- A loop, by the states ahead of its rounds. -/
theorem ALoop.by {S : Type} (st : S → Env) (hp : S → Heap) (μ : S → Nat) (good : S → Prop) (s0 : S) {c : Code} {E : Env} {H : Heap} {Q : Ex → Env → Heap → Prop} (hn : n0 ≤ H.length) (hr : ∀ id, r = some id → id < n0)
    (h0 : good s0) (h1 : ForgetTo n0 E H (st s0) (hp s0))
    (round : ∀ s, good s → n0 ≤ (hp s).length → AWP P N n0 r c (st s) (hp s) (thenEx (fun E' H' => ∃ s', good s' ∧ μ s' < μ s ∧ ForgetTo n0 E' H' (st s') (hp s')) Q)) : ALoop P N n0 r c E H Q := by
  refine AWP.loopW (fun k E H => ∃ s, good s ∧ μ s = k ∧ E = st s ∧ H = hp s) (μ s0) hn hr (h1.cut ⟨s0, h0, rfl, rfl, rfl⟩) ?_
  rintro k E1 H1 hn1 ⟨s, hg, rfl, rfl, rfl⟩
  refine (round s hg hn1).mono ?_
  intro x E' H' _ hx
  cases x with
  | normal =>
    obtain ⟨s', g1, g2, g3⟩ := hx
    exact ⟨μ s', g2, g3.cut ⟨s', g1, rfl, rfl, rfl⟩⟩
  | exit id => exact hx
  | ret => exact hx

/-! ### Where the evaluator looks -/

section
variable {T : Nat → Ty} {hint : Nat → Bool} {call : CallH} {loop rng : LoopH} {drw : DrawH}

@[congr] theorem ev_congr {c : Code} {E E' : Env} {H H' : Heap} {Q : Ex → Env → Heap → Prop} (hE : E = E') (hH : H = H') {one : Prop} (ho : (True ∧ True) = one) : ev T hint call loop rng drw c E H Q = ev T hint call loop rng drw c E' H' Q := by
  rw [hE, hH]

@[congr] theorem evOps_congr {all os : List Oper} {E E' : Env} {H H' : Heap} {K : Env → Heap → Prop} (hE : E = E') (hH : H = H') {one : Prop} (ho : (True ∧ True) = one) : evOps T hint call all os E H K = evOps T hint call all os E' H' K := by
  rw [hE, hH]

@[congr] theorem evOp_congr {o : Oper} {E E' : Env} {H H' : Heap} {K : V → Heap → Prop} (hE : E = E') (hH : H = H') {one : Prop} (ho : (True ∧ True) = one) : evOp T hint call o E H K = evOp T hint call o E' H' K := by
  rw [hE, hH]

@[congr] theorem thenEx_congr {x x' : Ex} {E E' : Env} {H H' : Heap} {K : Env → Heap → Prop} {Q : Ex → Env → Heap → Prop} (hx : x = x') (hE : E = E') (hH : H = H') {one : Prop} (ho : (True ∧ True) = one) : thenEx K Q x E H = thenEx K Q x' E' H' := by
  rw [hx, hE, hH]

@[congr] theorem blockEx_congr {i : Nat} {x x' : Ex} {E E' : Env} {H H' : Heap} {Q : Ex → Env → Heap → Prop} (hx : x = x') (hE : E = E') (hH : H = H') {one : Prop} (ho : (True ∧ True) = one) : blockEx i Q x E H = blockEx i Q x' E' H' := by
  rw [hx, hE, hH]

@[congr] theorem Br_congr {b b' : Bool} {A B : Unit → Prop} (h : b = b') {one : Prop} (ho : (True ∧ True) = one) : Br b A B = Br b' A B := by
  rw [h]

@[congr] theorem Som_congr {α : Type} {o o' : Option α} {K : α → Prop} (h : o = o') {one : Prop} (ho : (True ∧ True) = one) : Som o K = Som o' K := by
  rw [h]

@[congr] theorem ACallV_congr {P : Program} {f f' : V} {vs vs' : List V} {H H' : Heap} {K : V → Heap → Prop} (hf : f = f') (hv : vs = vs') (hH : H = H') {one : Prop} (ho : (True ∧ True) = one) : ACallV P f vs H K = ACallV P f' vs' H' K := by
  rw [hf, hv, hH]

@[congr] theorem ALoop_congr {P : Program} {N n0 : Nat} {r : Option Nat} {c : Code} {E E' : Env} {H H' : Heap} {Q : Ex → Env → Heap → Prop} (hE : E = E') (hH : H = H') {one : Prop} (ho : (True ∧ True) = one) : ALoop P N n0 r c E H Q = ALoop P N n0 r c E' H' Q := by
  rw [hE, hH]

@[congr] theorem ARng_congr {P : Program} {N n0 : Nat} {r : Option Nat} {c : Code} {E E' : Env} {H H' : Heap} {Q : Ex → Env → Heap → Prop} (hE : E = E') (hH : H = H') {one : Prop} (ho : (True ∧ True) = one) : ARng P N n0 r c E H Q = ARng P N n0 r c E' H' Q := by
  rw [hE, hH]

@[congr] theorem ADrw_congr {P : Program} {N n0 : Nat} {r : Option Nat} {c : Array Oper} {E E' : Env} {H H' : Heap} {Q : Env → Heap → Prop} (hE : E = E') (hH : H = H') {one : Prop} (ho : (True ∧ True) = one) : ADrw P N n0 r c E H Q = ADrw P N n0 r c E' H' Q := by
  rw [hE, hH]

@[congr] theorem FnPost_congr {T : Nat → Ty} {rs : List ResultVar} {n : Nat} {Q : V → Heap → Prop} {x x' : Ex} {E E' : Env} {H H' : Heap} (hx : x = x') (hE : E = E') (hH : H = H') {one : Prop} (ho : (True ∧ True) = one) : FnPost T rs n Q x E H = FnPost T rs n Q x' E' H' := by
  rw [hx, hE, hH]

@[congr] theorem aappend_congr {t : Ty} {b : Bool} {x x' y y' : V} {H H' : Heap} {K : V → Heap → Prop} (hx : x = x') (hy : y = y') (hH : H = H') {one : Prop} (ho : (True ∧ True) = one) : aappend t b H x y K = aappend t b H' x' y' K := by
  rw [hx, hy, hH]

end

theorem Br_split {b : Bool} {A B : Unit → Prop} (h1 : b = true → A ()) (h2 : b = false → B ()) : Br b A B := by
  cases b
  · exact h2 rfl
  · exact h1 rfl

end
end Go.Aw
end
