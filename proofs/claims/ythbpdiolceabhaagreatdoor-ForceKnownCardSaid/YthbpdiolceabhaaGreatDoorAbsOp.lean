/-
  Operations: what one operation of a region does to an abstract state; calls; a function's body.
  Conditions: none.
-/
import Derived.Test.YthbpdiolceabhaaGreatDoorAbsFlow
set_option linter.unusedVariables false
set_option linter.unusedSimpArgs false
set_option linter.unusedSectionVars false
namespace Go.Abs
variable [Gl]

def aput (ts : List AV) (d : Option Tmp) (x : AV) : List AV :=
  match d with
  | some d => ts.set d x
  | none => ts

omit [Gl] in
theorem TR.put {E : Env} {w : World} {ts : List AV} {vs : Array Value} (h : TR E w ts vs) (d : Option Tmp) {x : AV} {v : Value} (hx : VR E w x v) :
    TR E w (aput ts d x) ((Act.put ⟨vs, []⟩ d v).tmps) := by
  cases d with
  | none => exact h
  | some d =>
    refine ⟨by simp [aput, Act.put, h.size], fun i hi hj => ?_⟩
    simp only [aput, Act.put, List.length_set, Array.size_setIfInBounds] at hi hj ⊢
    rw [List.getElem_set, Array.getElem_setIfInBounds hj]
    split
    · exact hx
    · exact h.val i hi hj

omit [Gl] in
theorem lt_put {n m : Nat} {ts : List AV} (h : ∀ x ∈ ts, Lt n m x) (d : Option Tmp) {x : AV} (hx : Lt n m x) : ∀ y ∈ aput ts d x, Lt n m y := by
  cases d with
  | none => exact h
  | some d =>
    intro y hy
    rcases List.mem_or_eq_of_mem_set hy with h' | h'
    · exact h y h'
    · exact h' ▸ hx

/-- The operands' values. -/
def cev (tmps : Array Value) : Operand → Value := Act.eval ⟨tmps, []⟩

theorem cev_VR {E : Env} {w : World} {st : St} {tmps : Array Value} (h : TR E w st.tmps tmps) (x : Operand) : VR E w (st.ev x) (cev tmps x) := by
  have := ev_VR h default [] [] x
  cases x <;> exact this

/-- A frame that stands at an operation. -/
structure AtOp (P : Program) (c : Frame) (cs : List Frame) (s : Sem Next) : Prop where
  step : ∀ w, stepG P true { frame := c, callers := cs, status := .running, dying := none } w = stepG.apply P true c cs none s w
  plain : ∀ d r s' k, c.todo ≠ .call d true r s' :: k

omit [Gl] in
theorem at_value {P : Program} {c : Frame} {cs : List Frame} {s : Sem Next} (h : AtOp P c cs s) {w w' : World} {v : Value} (hr : s.run P w = .ok (.value v) w') :
    step P (lone c cs w) = .next (lone (c.finish v) cs w') :=
  step_lone_go (by rw [h.step]; simp [stepG.apply, Sem.runT_eq, hr])
omit [Gl] in
theorem at_skip {P : Program} {c : Frame} {cs : List Frame} {s : Sem Next} (h : AtOp P c cs s) {w w' : World} (hr : s.run P w = .ok .skip w') :
    step P (lone c cs w) = .next (lone (c.finish undef) cs w') :=
  step_lone_go (by rw [h.step]; simp [stepG.apply, Sem.runT_eq, hr])
omit [Gl] in
theorem at_enter {P : Program} {c : Frame} {cs : List Frame} {s : Sem Next} (h : AtOp P c cs s) {w w' : World} {f : FuncId} {args : Array Value} (hr : s.run P w = .ok (.enter f args) w') :
    step P (lone c cs w) = .next (lone (Frame.enter P f args .normal) (c :: cs) w') := by
  have hk : (match c.todo with | .call _ true _ _ :: _ => CallKind.wrapped | _ => CallKind.normal) = .normal := by
    split
    · rename_i hx; exact absurd hx (h.plain _ _ _ _)
    · rfl
  refine step_lone_go ?_
  rw [h.step]
  simp only [stepG.apply, Sem.runT_eq, hr, if_true, GStep.bare_after]
  exact congrArg (fun kd => GStep.go { frame := Frame.enter P f args kd, callers := c :: cs, status := .running, dying := none } w') hk
omit [Gl] in
theorem at_round {P : Program} {c : Frame} {cs : List Frame} {s : Sem Next} (h : AtOp P c cs s) {w w' : World} {l : Nat} {f : FuncId} {tmps : Array Value} {as body : Code} (hr : s.run P w = .ok (.round l f tmps as body) w') :
    step P (lone c cs w) = .next (lone (Frame.round l f tmps as body .normal) (c :: cs) w') :=
  step_lone_go (by rw [h.step]; simp [stepG.apply, Sem.runT_eq, hr])

/-- What a term of the model's gives at an abstract heap: a value, the machine having gone on. -/
structure GivesSem (P : Program) (h : Heap) (s : World → Env → Sem Next → Prop) (K : AV → Heap → Prop) : Prop where
  run : ∀ (E : Env) (w : World) (t : Sem Next), HR E w h → s w E t → ∀ (c : Frame) (cs : List Frame), AtOp P c cs t →
    ∃ r h' E' w' v, K r h' ∧ VR E' w' r v ∧ HR E' w' h' ∧ Lt h'.blks.length h'.loops.length r ∧ h.blks.length ≤ h'.blks.length ∧ h.loops.length ≤ h'.loops.length ∧
      Ext h.blks.length h.loops.length E w E' w' ∧ Steps P (lone c cs w) (lone (c.finish v) cs w')

/-- An operation at a state. -/
def OpSem (P : Program) (o : Oper) (st : St) (K : AV → Heap → Prop) : Prop :=
  (∀ c, o.op ≠ .defer c) ∧ (∀ x ∈ st.tmps, Lt st.h.blks.length st.h.loops.length x) →
  GivesSem P st.h (fun w E t => ∃ tmps, TR E w st.tmps tmps ∧ t = execOp (cev tmps) o) K

theorem GivesSem.mono {P : Program} {h : Heap} {s : World → Env → Sem Next → Prop} {K K' : AV → Heap → Prop} (g : GivesSem P h s K) (hk : ∀ r h', K r h' → K' r h') : GivesSem P h s K' :=
  ⟨fun E w t h1 h2 c cs h3 => by obtain ⟨r, h', E', w', v, k, rest⟩ := g.run E w t h1 h2 c cs h3; exact ⟨r, h', E', w', v, hk _ _ k, rest⟩⟩

/-- A term that gives a value and leaves the memory alone. -/
theorem gives_value {P : Program} {h : Heap} {s : World → Env → Sem Next → Prop} {K : AV → Heap → Prop} {r : AV}
    (hr : ∀ E w t, HR E w h → s w E t → ∃ v, (t.run P w = .ok (.value v) w ∨ (t.run P w = .ok .skip w ∧ v = undef)) ∧ VR E w r v) (hl : Lt h.blks.length h.loops.length r) (hk : K r h) : GivesSem P h s K :=
  ⟨fun E w t h1 h2 c cs h3 => by
    obtain ⟨v, hv, hvr⟩ := hr E w t h1 h2
    refine ⟨r, h, E, w, v, hk, hvr, h1, hl, Nat.le_refl _, Nat.le_refl _, .refl .., .one ?_⟩
    rcases hv with hv | ⟨hv, rfl⟩
    · exact at_value h3 hv
    · exact at_skip h3 hv⟩

section region
variable {P : Program} {n m : Nat} {rnd : Option Nat} {st : St} {Q : AExit → St → Prop} {ops : Array Oper}

omit [Gl] in
theorem fat_atR (b : Frame) (tmps : Array Value) (ds : List Deferred) (todo : List Item) : fat b tmps ds todo = b.atR ⟨tmps, ds⟩ todo := rfl

theorem finish_fat (b : Frame) (tmps : Array Value) (ds : List Deferred) (i : Nat) (rest : List Nat) (k : List Item) (v : Value) :
    (fat b tmps ds (.inRegion ops (i :: rest) :: k)).finish v = fat b (Act.put ⟨tmps, []⟩ ((ops[i]?).bind (·.dst)) v).tmps ds (.inRegion ops rest :: k) := by
  rw [fat_atR, Frame.finish_atR]
  cases (ops[i]?).bind (·.dst) <;> rfl

/-- A guard's outcome in a state. -/
def guardA (ops : Array Oper) (ts : List AV) (o : Oper) : Option Bool :=
  match o.guard with
  | none => some true
  | some (j, want) =>
    match (ops[j]?).bind (·.dst) with
    | none => none
    | some d => match ts.getD d .junk with
      | .bool b => some (b == want)
      | .tup [] => some false
      | _ => none

omit [Gl] in
theorem VR.bool_inv {E : Env} {w : World} {b : Bool} {v : Value} (h : VR E w (.bool b) v) : v = .bool b := by cases h; rfl

theorem guardA_wanted {E : Env} {w : World} {ts : List AV} {tmps : Array Value} (h : TR E w ts tmps) {o : Oper} {g : Bool} (hg : guardA ops ts o = some g) :
    Region.wanted o (yielded ops tmps) = g := by
  unfold guardA at hg
  unfold Region.wanted
  split at hg
  · rename_i ho
    injection hg with hg
    rw [ho]; exact hg
  · rename_i j want ho
    rw [ho]
    split at hg
    · cases hg
    · rename_i d hd
      split at hg
      · rename_i b hx
        have hv := h.getD d
        rw [hx] at hv
        have this := hv.bool_inv
        have hsz : d < tmps.size := by
          rcases Nat.lt_or_ge d tmps.size with h | h
          · exact h
          · exfalso
            have e : tmps.getD d undef = undef := by simp [Array.getD, Nat.not_lt.2 h]
            rw [e] at this
            exact Value.noConfusion this
        have e : tmps[d]? = some (.bool b) := by
          simp only [Array.getD, hsz, dif_pos] at this
          rw [Array.getElem?_eq_getElem hsz]
          exact congrArg some this
        have ey : yielded ops tmps j = some b := by
          simp only [yielded, hd, Option.bind_some, e]
        have hg' : (b == want) = g := Option.some.inj hg
        show (yielded ops tmps j == some want) = g
        rw [ey, ← hg']
        rfl
      · rename_i hx
        injection hg with hg; subst hg
        have hv := h.getD d
        rw [hx] at hv
        have hne : ∀ b, tmps[d]? ≠ some (.bool b) := fun b e => by
          have e2 : tmps.getD d undef = .bool b := by
            obtain ⟨hd, e⟩ := Array.getElem?_eq_some_iff.1 e
            simp [Array.getD, hd, e]
          rw [e2] at hv
          cases hv
        have ey : yielded ops tmps j = none := by
          unfold yielded
          rw [hd, Option.bind_some]
          cases e3 : tmps[d]? with
          | none => rfl
          | some v => cases v <;> first | rfl | exact absurd e3 (hne _)
        show (yielded ops tmps j == some want) = false
        rw [ey]
        cases want <;> rfl
      · cases hg

/-- An operation of a region that is not wanted. -/
theorem todo_op_skip {i : Nat} {rest : List Nat} {o : Oper} (ho : ops[i]? = some o) (hg : guardA ops st.tmps o = some false)
    (h : TodoSem P n m rnd [.inRegion ops rest] { st with tmps := aput st.tmps o.dst (.tup []) } Q) : TodoSem P n m rnd [.inRegion ops (i :: rest)] st Q :=
  ⟨fun b E w tmps ds base h1 h2 hb h3 h4 h5 k cs => by
    have hw := guardA_wanted h1.tmps hg
    have h1' : StR E w { st with tmps := aput st.tmps o.dst (.tup []) } (Act.put ⟨tmps, []⟩ o.dst undef).tmps :=
      ⟨h1.heap, h1.tmps.put o.dst (.tup [] #[] rfl fun i hi => by simp at hi), lt_put h1.lt o.dst (.tup [] fun i hi => by simp at hi)⟩
    obtain ⟨e, st', E', w', tmps', ds', q, r1, r2, r3, r4, r5, r6⟩ := h.run b E w _ ds base h1' h2 hb h3 h4 h5 k cs
    refine ⟨e, st', E', w', tmps', ds', q, r1, r2, r3, r4, r5, .of_steps (.one ?_) r6⟩
    have hs := stepR_op_skip (P := P) (b := b) (a := ⟨tmps, ds⟩) (k := k) (cs := cs) (w := w) (ops := ops) (i := i) (rest := rest) (by simp [ho, hw])
    have e1 : (Act.put ⟨tmps, ds⟩ ((ops[i]?).bind (·.dst)) undef) = ⟨(Act.put ⟨tmps, []⟩ o.dst undef).tmps, ds⟩ := by
      simp only [ho, Option.bind_some]; cases o.dst <;> rfl
    rw [e1] at hs
    exact hs⟩

/-- An operation of a region that is wanted. -/
theorem todo_op {i : Nat} {rest : List Nat} {o : Oper} (ho : ops[i]? = some o) (hg : guardA ops st.tmps o = some true) (hd : ∀ c, o.op ≠ .defer c)
    (h : OpSem P o st (fun r h' => TodoSem P n m rnd [.inRegion ops rest] { tmps := aput st.tmps o.dst r, h := h' } Q)) : TodoSem P n m rnd [.inRegion ops (i :: rest)] st Q :=
  ⟨fun b E w tmps ds base h1 h2 hb h3 h4 h5 k cs => by
    have hw := guardA_wanted h1.tmps hg
    have hat : AtOp P (fat b tmps ds (.inRegion ops (i :: rest) :: k)) cs (execOp (cev tmps) o) := by
      refine ⟨fun w => ?_, fun _ _ _ _ h => by cases h⟩
      have := stepGR_op (P := P) (b := b) (a := ⟨tmps, ds⟩) (k := k) (cs := cs) (w := w) (ops := ops) (i := i) (rest := rest) ho hw
      rw [Oper.semAt_eq _ _ _ hd] at this
      exact this
    obtain ⟨r, h', E1, w1, v, q, s1, s2, s3, s4, s5, s6, s7⟩ := (h ⟨hd, h1.lt⟩).run E w _ h1.heap ⟨tmps, h1.tmps, rfl⟩ _ cs hat
    have ht : TR E1 w1 st.tmps tmps := h1.tmps.keep s6.keeps h1.lt
    have hst : StR E1 w1 { tmps := aput st.tmps o.dst r, h := h' } (Act.put ⟨tmps, []⟩ o.dst v).tmps :=
      ⟨s2, ht.put o.dst s1, lt_put (fun x hx => (h1.lt x hx).mono s4 s5) o.dst s3⟩
    have hx : Ext n m E w E1 w1 := s6.mono h4 h5
    obtain ⟨e, st', E', w', tmps', ds', q, r1, r2, r3, r4, r5, r6⟩ := TodoSem.run q b E1 w1 _ ds base hst (h2.ext hx) (Nat.le_trans hb hx.size) (h3.ext hx) (Nat.le_trans h4 s4) (Nat.le_trans h5 s5) k cs
    refine ⟨e, st', E', w', tmps', ds', q, r1, r2, hx.trans (Nat.le_refl _) (Nat.le_refl _) r3, r4, r5, .of_steps ?_ r6⟩
    rw [finish_fat] at s7
    simp only [ho, Option.bind_some] at s7
    exact s7⟩

theorem todo_region_end (h : Q .normal st) : TodoSem P n m rnd [.inRegion ops []] st Q :=
  todo_step (items' := []) (fun _ _ _ _ _ _ _ _ => st_regionEnd) (todo_nil h)
theorem t_region {id : Nat} (h : TodoSem P n m rnd [.inRegion ops (List.range ops.size)] st Q) : TodoSem P n m rnd [.code (.region id ops false)] st Q :=
  todo_step (items' := [.inRegion ops (List.range ops.size)]) (fun _ _ _ _ _ _ _ _ => st_region) h
end region
end Go.Abs
