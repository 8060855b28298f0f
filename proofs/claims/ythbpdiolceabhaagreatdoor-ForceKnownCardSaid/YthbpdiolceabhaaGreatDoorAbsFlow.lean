/-
  The rules for the control flow: what each kind of code asks.
  Conditions: none.
-/
import Derived.Test.YthbpdiolceabhaaGreatDoorAbsSem
set_option linter.unusedVariables false
set_option linter.unusedSimpArgs false
set_option linter.unusedSectionVars false
namespace Go.Abs
variable [Gl]

/-- The abstract value of a constant. -/
def ofV : Value → AV
  | .bool b => .bool b
  | .int k n => .int k n
  | .string s => .str s.data.toList
  | .pointer none => .nilp
  | .slice none 0 0 => .nils
  | .nilFunc => .nilf
  | .nilIface => .nili
  | .map none => .nilm
  | _ => .junk

omit [Gl] in
theorem ofV_VR (E : Env) (w : World) (v : Value) : VR E w (ofV v) v := by
  unfold ofV
  split <;> first | exact .junk _ | exact .bool _ | exact .int _ _ | exact .nilp | exact .nils | exact .nilf | exact .nili | exact .nilm | skip
  rename_i s
  have : VR E w (.str s.data.toList) (.string ⟨s.data.toList.toArray⟩) := .str _
  simpa using this

omit [Gl] in
theorem ofV_Lt (n m : Nat) (v : Value) : Lt n m (ofV v) := by
  unfold ofV
  split <;> first | exact .junk | exact .bool _ | exact .int _ _ | exact .str _ | exact .nilp | exact .nils | exact .nilf | exact .nili | exact .nilm

def St.ev (s : St) : Operand → AV
  | .tmp t => s.tmps.getD t .junk
  | .const v => ofV v
  | .global g => .gp g 0
  | .func f => .fn (.func f) [] []

omit [Gl] in
theorem ev_VR {E : Env} {w : World} {st : St} {tmps : Array Value} (h : TR E w st.tmps tmps) (b : Frame) (ds : List Deferred) (todo : List Item) (x : Operand) :
    VR E w (st.ev x) ((fat b tmps ds todo).eval x) := by
  cases x with
  | tmp t => exact h.getD t
  | const v => exact ofV_VR _ _ _
  | global g => exact .gp g 0
  | func f => exact .fn _ _ _ _ _ rfl rfl (fun i hi => by simp at hi) (fun i hi => by simp at hi)

omit [Gl] in
theorem ev_Lt {n m : Nat} {st : St} (h : ∀ x ∈ st.tmps, Lt n m x) (x : Operand) : Lt n m (st.ev x) := by
  cases x with
  | tmp t =>
    simp only [St.ev, List.getD]
    cases ht : st.tmps[t]? with
    | none => exact .junk
    | some v => exact h v (List.mem_of_getElem? ht)
  | const v => exact ofV_Lt _ _ _
  | global g => exact .gp g 0
  | func f => exact .fn _ _ _ (fun i hi => by simp at hi) (fun i hi => by simp at hi)

section steps
variable {P : Program} {b : Frame} {tmps : Array Value} {ds : List Deferred} {k : List Item} {cs : List Frame} {w : World}
omit [Gl] in
theorem st_skip : step P (lone (fat b tmps ds (.code .skip :: k)) cs w) = .next (lone (fat b tmps ds k) cs w) :=
  step_lone_go (by simp [stepG, stepG.exec, fat])
omit [Gl] in
theorem st_label {l : Nat} : step P (lone (fat b tmps ds (.code (.label l) :: k)) cs w) = .next (lone (fat b tmps ds k) cs w) :=
  step_lone_go (by simp [stepG, stepG.exec, fat])
omit [Gl] in
theorem st_inBlock {id : Nat} : step P (lone (fat b tmps ds (.inBlock id :: k)) cs w) = .next (lone (fat b tmps ds k) cs w) :=
  step_lone_go (by simp [stepG, stepG.exec, fat])
omit [Gl] in
theorem st_inScope {c : Code} : step P (lone (fat b tmps ds (.inScope c :: k)) cs w) = .next (lone (fat b tmps ds k) cs w) :=
  step_lone_go (by simp [stepG, stepG.exec, fat])
omit [Gl] in
theorem st_seq {x y : Code} : step P (lone (fat b tmps ds (.code (.seq x y) :: k)) cs w) = .next (lone (fat b tmps ds (.code x :: .code y :: k)) cs w) :=
  step_lone_go (by simp [stepG, stepG.exec, fat])
omit [Gl] in
theorem st_cond {c : Operand} {x y : Code} {t : Bool} (h : (fat b tmps ds (.code (.cond c x y) :: k)).eval c = .bool t) :
    step P (lone (fat b tmps ds (.code (.cond c x y) :: k)) cs w) = .next (lone (fat b tmps ds (.code (if t then x else y) :: k)) cs w) :=
  step_lone_go (by
    simp only [fat] at h
    simp [stepG, stepG.exec, fat, h])
omit [Gl] in
theorem st_block {id : Nat} {c : Code} : step P (lone (fat b tmps ds (.code (.block id c) :: k)) cs w) = .next (lone (fat b tmps ds (.code c :: .inBlock id :: k)) cs w) :=
  step_lone_go (by simp [stepG, stepG.exec, fat])
omit [Gl] in
theorem st_loop {c : Code} : step P (lone (fat b tmps ds (.code (.loop c) :: k)) cs w) = .next (lone (fat b tmps ds (.code c :: .inLoop c :: k)) cs w) :=
  step_lone_go (by simp [stepG, stepG.exec, fat])
omit [Gl] in
theorem st_inLoop {c : Code} : step P (lone (fat b tmps ds (.inLoop c :: k)) cs w) = .next (lone (fat b tmps ds (.code c :: .inLoop c :: k)) cs w) :=
  step_lone_go (by simp [stepG, stepG.exec, fat])
omit [Gl] in
theorem st_scope {c : Code} : step P (lone (fat b tmps ds (.code (.scope c) :: k)) cs w) = .next (lone (fat b tmps ds (.code c :: .inScope c :: k)) cs w) :=
  step_lone_go (by simp [stepG, stepG.exec, fat])
omit [Gl] in
theorem st_exit {id : Nat} {k' : List Item} (h : exitTo id k = some k') : step P (lone (fat b tmps ds (.code (.exit id) :: k)) cs w) = .next (lone (fat b tmps ds k') cs w) :=
  step_lone_go (by simp [stepG, stepG.exec, fat, h])
omit [Gl] in
theorem st_goto {l : Nat} {k' : List Item} (h : gotoIn l k = some k') : step P (lone (fat b tmps ds (.code (.goto l) :: k)) cs w) = .next (lone (fat b tmps ds k') cs w) :=
  step_lone_go (by simp [stepG, stepG.exec, fat, h])
omit [Gl] in
theorem st_region {id : Nat} {ops : Array Oper} : step P (lone (fat b tmps ds (.code (.region id ops false) :: k)) cs w) = .next (lone (fat b tmps ds (.inRegion ops (List.range ops.size) :: k)) cs w) :=
  step_lone_go (by simp [stepG, stepG.exec, fat])
omit [Gl] in
theorem st_regionEnd {ops : Array Oper} : step P (lone (fat b tmps ds (.inRegion ops [] :: k)) cs w) = .next (lone (fat b tmps ds k) cs w) :=
  step_lone_go (by simp [stepG, stepG.exec, fat])
end steps

section rules
variable {P : Program} {n m : Nat} {rnd : Option Nat} {st : St} {Q : AExit → St → Prop}

theorem t_skip (h : Q .normal st) : TodoSem P n m rnd [.code .skip] st Q :=
  todo_step (items' := []) (fun _ _ _ _ _ _ _ _ => st_skip) (todo_nil h)
theorem t_label {l : Nat} (h : Q .normal st) : TodoSem P n m rnd [.code (.label l)] st Q :=
  todo_step (items' := []) (fun _ _ _ _ _ _ _ _ => st_label) (todo_nil h)

theorem t_jump (j : Code) (hj : (match j with | .exit _ | .goto _ | .ret => True | _ => False)) (h : Q (.jump j) st) : TodoSem P n m rnd [.code j] st Q :=
  ⟨fun b E w tmps ds base h1 h2 _ _ h4 h5 k cs => ⟨.jump j, st, E, w, tmps, ds, h, h1, h2, .refl .., h4, h5, k, .refl .., rfl⟩⟩

theorem t_seq {x y : Code} (h : TodoSem P n m rnd [.code x] st (Then (fun s => TodoSem P n m rnd [.code y] s Q) Q)) : TodoSem P n m rnd [.code (.seq x y)] st Q :=
  todo_step (items' := [.code x, .code y]) (fun _ _ _ _ _ _ _ _ => st_seq) (todo_append (xs := [.code x]) rfl h)

theorem t_cond {c : Operand} {x y : Code} {t : Bool} (hc : st.ev c = .bool t) (h : TodoSem P n m rnd [.code (if t then x else y)] st Q) : TodoSem P n m rnd [.code (.cond c x y)] st Q :=
  todo_step (items' := [.code (if t then x else y)]) (fun b tmps ds k cs w E ht => st_cond (by
    show (fat b tmps ds (.code (.cond c x y) :: k)).eval c = .bool t
    have := ev_VR ht b ds (.code (.cond c x y) :: k) c
    rw [hc] at this
    revert this
    generalize (fat b tmps ds (.code (.cond c x y) :: k)).eval c = v
    intro this
    cases this; rfl)) h

theorem t_loop {c : Code} (h : TodoSem P n m rnd [.code c] st (Then (fun s => TodoSem P n m rnd [.inLoop c] s Q) Q)) : TodoSem P n m rnd [.code (.loop c)] st Q :=
  todo_step (items' := [.code c, .inLoop c]) (fun _ _ _ _ _ _ _ _ => st_loop) (todo_append (xs := [.code c]) rfl h)
theorem t_inLoop {c : Code} (h : TodoSem P n m rnd [.code c] st (Then (fun s => TodoSem P n m rnd [.inLoop c] s Q) Q)) : TodoSem P n m rnd [.inLoop c] st Q :=
  todo_step (items' := [.code c, .inLoop c]) (fun _ _ _ _ _ _ _ _ => st_inLoop) (todo_append (xs := [.code c]) rfl h)
/-- A loop is its head. -/
theorem t_loop_head {c : Code} (h : TodoSem P n m rnd [.inLoop c] st Q) : TodoSem P n m rnd [.code (.loop c)] st Q :=
  ⟨fun b E w tmps ds base h1 h2 hb h3 h4 h5 k cs => by
    obtain ⟨e, st', E', w', tmps', ds', q, r1, r2, r3, r4, r5, r6⟩ := h.run b E w tmps ds base h1 h2 hb h3 h4 h5 k cs
    refine ⟨e, st', E', w', tmps', ds', q, r1, r2, r3, r4, r5, ?_⟩
    have e1 := st_loop (P := P) (b := b) (tmps := tmps) (ds := ds) (c := c) (k := k) (cs := cs) (w := w)
    have e2 := st_inLoop (P := P) (b := b) (tmps := tmps) (ds := ds) (c := c) (k := k) (cs := cs) (w := w)
    -- both have the same next machine
    cases e with
    | normal =>
      obtain ⟨N, hN⟩ := r6
      cases N with
      | zero =>
        simp only [runN] at hN
        have hf : fat b tmps ds ([Item.inLoop c] ++ k) = fat b tmps' ds' k := by
          have := congrArg (fun s => match s with | Stepped.next mm => mm.gs | _ => #[]) hN
          simp [lone] at this
          exact this
        have : ([Item.inLoop c] ++ k) = k := congrArg Frame.todo hf
        have := congrArg List.length this
        simp at this
      | succ N => exact ⟨N + 1, by simp only [runN, List.cons_append, List.nil_append] at hN ⊢; rw [e2] at hN; rw [e1]; exact hN⟩
    | jump j =>
      obtain ⟨todo, ⟨N, hN⟩, hr⟩ := r6
      refine ⟨todo, ?_, hr⟩
      cases N with
      | zero =>
        simp only [runN] at hN
        have hf : fat b tmps ds ([Item.inLoop c] ++ k) = fat b tmps' ds' (.code j :: todo) := by
          have := congrArg (fun s => match s with | Stepped.next mm => mm.gs | _ => #[]) hN
          simp [lone] at this
          exact this
        have := congrArg Frame.todo hf
        simp [fat] at this
      | succ N => exact ⟨N + 1, by simp only [runN, List.cons_append, List.nil_append] at hN ⊢; rw [e2] at hN; rw [e1]; exact hN⟩⟩

/-- What a block does with an exit. -/
def InBlock (id : Nat) (Q : AExit → St → Prop) : AExit → St → Prop
  | .jump (.exit id'), s => if id' = id then Q .normal s else Q (.jump (.exit id')) s
  | e, s => Q e s

theorem t_block {id : Nat} {c : Code} (h : TodoSem P n m rnd [.code c] st (InBlock id Q)) : TodoSem P n m rnd [.code (.block id c)] st Q :=
  ⟨fun b E w tmps ds base h1 h2 hb h3 h4 h5 k cs => by
    obtain ⟨e, s, E1, w1, t1, d1, q, r1, r2, r3, r4, r5, r6⟩ := h.run b E w tmps ds base h1 h2 hb h3 h4 h5 (.inBlock id :: k) cs
    have h0 : Steps P (lone (fat b tmps ds ([.code (.block id c)] ++ k)) cs w) (lone (fat b tmps ds ([.code c] ++ .inBlock id :: k)) cs w) := .one st_block
    cases e with
    | normal => exact ⟨.normal, s, E1, w1, t1, d1, q, r1, r2, r3, r4, r5, h0.trans (Steps.trans r6 (.one st_inBlock))⟩
    | jump j =>
      obtain ⟨todo, hs, hr⟩ := r6
      have go : ∀ (_ : Q (.jump j) s) (_ : Res j (.inBlock id :: k) = Res j k), ∃ e st' E' w' tmps' ds', Q e st' ∧ StR E' w' st' tmps' ∧ DefOK base E' w' ds' ∧ Ext n m E w E' w' ∧ n ≤ st'.h.blks.length ∧ m ≤ st'.h.loops.length ∧
          Arr P (lone (fat b tmps ds ([.code (.block id c)] ++ k)) cs w) b k cs e tmps' ds' w' :=
        fun q e => ⟨.jump j, s, E1, w1, t1, d1, q, r1, r2, r3, r4, r5, todo, h0.trans hs, hr.trans e⟩
      cases j with
      | exit id' =>
        by_cases hid : id' = id
        · simp only [InBlock, hid, if_true] at q
          refine ⟨.normal, s, E1, w1, t1, d1, q, r1, r2, r3, r4, r5, h0.trans (hs.trans (.one (st_exit ?_)))⟩
          have : exitTo id' todo = exitTo id' (.inBlock id :: k) := hr
          rw [this]; simp [exitTo, hid]
        · simp only [InBlock, hid, if_false] at q
          refine go q ?_
          have : (id == id') = false := by simp; exact fun h => hid h.symm
          simp [Res, exitTo, this]
      | goto l => exact go q (by simp [Res, gotoIn])
      | _ => exact go q rfl⟩

/-- What a scope does with a jump to one of its labels. -/
def InScope (P : Program) (n m : Nat) (rnd : Option Nat) (c : Code) (Q : AExit → St → Prop) : AExit → St → Prop
  | .jump (.goto l), s => match findLabel c l with
    | some rest => TodoSem P n m rnd [.code rest, .inScope c] s Q
    | none => Q (.jump (.goto l)) s
  | e, s => Q e s

theorem t_inScope {c x : Code} (h : TodoSem P n m rnd [.code x] st (InScope P n m rnd c Q)) : TodoSem P n m rnd [.code x, .inScope c] st Q :=
  ⟨fun b E w tmps ds base h1 h2 hb h3 h4 h5 k cs => by
    obtain ⟨e, s, E1, w1, t1, d1, q, r1, r2, r3, r4, r5, r6⟩ := h.run b E w tmps ds base h1 h2 hb h3 h4 h5 (.inScope c :: k) cs
    simp only [List.cons_append, List.nil_append] at r6 ⊢
    cases e with
    | normal => exact ⟨.normal, s, E1, w1, t1, d1, q, r1, r2, r3, r4, r5, Steps.trans r6 (.one st_inScope)⟩
    | jump j =>
      obtain ⟨todo, hs, hr⟩ := r6
      cases j with
      | goto l =>
        have hr' : gotoIn l todo = gotoIn l (.inScope c :: k) := hr
        simp only [InScope] at q
        cases hf : findLabel c l with
        | none =>
          simp only [hf] at q
          exact ⟨.jump (.goto l), s, E1, w1, t1, d1, q, r1, r2, r3, r4, r5, todo, hs, by rw [hr]; simp [Res, gotoIn, hf]⟩
        | some rest =>
          simp only [hf] at q
          obtain ⟨e2, s2, E2, w2, t2, d2, q2, s1, s2', s3, s4, s5, s6⟩ := q.run b E1 w1 t1 d1 base r1 r2 (Nat.le_trans hb r3.size) (h3.ext r3) r4 r5 k cs
          refine ⟨e2, s2, E2, w2, t2, d2, q2, s1, s2', r3.trans (Nat.le_refl _) (Nat.le_refl _) s3, s4, s5, .of_steps (hs.trans (.one (st_goto ?_))) s6⟩
          rw [hr']; simp [gotoIn, hf]
      | exit id => exact ⟨.jump (.exit id), s, E1, w1, t1, d1, q, r1, r2, r3, r4, r5, todo, hs, by rw [hr]; simp [Res, exitTo]⟩
      | _ => exact ⟨.jump _, s, E1, w1, t1, d1, q, r1, r2, r3, r4, r5, todo, hs, hr⟩⟩

theorem t_scope {c : Code} (h : TodoSem P n m rnd [.code c, .inScope c] st Q) : TodoSem P n m rnd [.code (.scope c)] st Q :=
  todo_step (items' := [.code c, .inScope c]) (fun _ _ _ _ _ _ _ _ => st_scope) h

end rules
end Go.Abs
