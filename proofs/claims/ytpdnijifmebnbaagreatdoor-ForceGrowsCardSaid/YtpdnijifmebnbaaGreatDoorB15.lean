/-
  Steps to a law of this program: AbsEval6, AbsTables, AbsKnown.
  Conditions: none.
-/
import Derived.Test.YtpdnijifmebnbaaGreatDoorB14
import Derived.Test.YtpdnijifmebnbaaGreatDoorB4
set_option linter.unusedVariables false
set_option linter.unusedSimpArgs false
set_option linter.unusedSectionVars false
namespace Go.Abs
noncomputable section
variable [Gl]

section ops
variable [Bare] {R : Type} (ih : IH R) (T : Tab) {P : Program}

theorem guardE_eq {ts : TS} (ht : okT ts) {ops : Array Oper} {o : Oper} : guardE ops ts o = guardA ops ts.flatten o := by
  unfold guardE guardA
  cases hg : o.guard with
  | none => rfl
  | some g =>
    obtain ⟨j, want⟩ := g
    simp only [nthL_eq, Array.getElem?_toList]
    cases hd : (ops[j]?).bind (·.dst) with
    | none => rfl
    | some d => simp only [tsGet_eq _ _ _ ht]; rfl

abbrev OpsH (R : Type) := IH R → Tab → Array Oper → (AExit → TS → EH → Option R) → TS → EH → Option R

def opsNil : OpsH R := fun _ _ _ K ts e => K .normal ts e
def opsRun (o : Oper) (rest : OpsH R) : OpsH R := fun ih T ops K ts e => opE ih T ts e o fun r e => putK ts o.dst r fun ts => rest ih T ops K ts e
def opsGuard (o : Oper) (rest : OpsH R) : OpsH R := fun ih T ops K ts e => match guardE ops ts o with
  | none => none
  | some false => putK ts o.dst (.tup []) fun ts => rest ih T ops K ts e
  | some true => opE ih T ts e o fun r e => putK ts o.dst r fun ts => rest ih T ops K ts e
def opsOneC (o : Oper) (rest : OpsH R) : OpsH R := match o.guard with
  | none => opsRun o rest
  | some _ => opsGuard o rest
noncomputable def opsOne (o : Oper) (rest : OpsH R) : OpsH R := Option.rec (motive := fun _ => OpsH R) (opsRun o rest) (fun _ => opsGuard o rest) o.guard

def opsSelC : List Oper → OpsH R
  | [] => opsNil
  | o :: rest => opsOne o (opsSelC rest)
noncomputable def opsSel (l : List Oper) : OpsH R := List.rec (motive := fun _ => OpsH R) opsNil (fun o _ ih => opsOne o ih) l
def opsE (ops : Array Oper) (l : List Oper) (ts : TS) (e : EH) (K : AExit → TS → EH → Option R) : Option R := opsSel l ih T ops K ts e

theorem opsE_ok (hT : TabOK P T) (hX : BareOK P) (hih : ih.OK P) {ops : Array Oper} : ∀ (l : List Oper) (k : Nat) (ts : TS) (e : EH) (K : AExit → TS → EH → Option R) (y : R), ops.toList.drop k = l → e.ok → okT ts → opsE ih T ops l ts e K = some y →
    WentC K y fun Q => ∀ n m rnd, TodoSem P n m rnd [.inRegion ops (List.range' k l.length)] ⟨ts.flatten, e.abs⟩ Q
  | [], k, ts, e, K, y, _, he, ht, h => ⟨.normal, ts, e, he, ht, h, fun Q hq n m rnd => todo_region_end hq⟩
  | o :: l, k, ts, e, K, y, hk, he, ht, h => by
    have hlt : k < ops.toList.length := by
      rcases Nat.lt_or_ge k ops.toList.length with h | h
      · exact h
      · rw [List.drop_eq_nil_of_le h] at hk; cases hk
    rw [List.drop_eq_getElem_cons hlt] at hk
    injection hk with h1 h2
    have ho : ops[k]? = some o := by
      rw [← h1, Array.getElem_toList]
      exact Array.getElem?_eq_getElem (by simpa using hlt)
    rw [List.length_cons, List.range'_succ]
    have run : guardA ops ts.flatten o = some true → (opE ih T ts e o fun r e => putK ts o.dst r fun ts => opsE ih T ops l ts e K) = some y →
        WentC K y fun Q => ∀ n m rnd, TodoSem P n m rnd [.inRegion ops (k :: List.range' (k + 1) l.length)] ⟨ts.flatten, e.abs⟩ Q := fun hg hh => by
      obtain ⟨r, e1, g1, g2, g3⟩ := opE_ok ih T hX hih ht he hh
      replace g2 : putK ts o.dst r (fun ts => opsE ih T ops l ts e1 K) = some y := g2
      obtain ⟨ts1, ht1, hfl, g2⟩ := putK_ok ht g2
      obtain ⟨x, ts2, e2, k1, ht2, k2, k3⟩ := opsE_ok hT hX hih l (k + 1) _ _ K y h2 g1 ht1 g2
      refine ⟨x, ts2, e2, k1, ht2, k2, fun Q hq n m rnd => ?_⟩
      have hop := g3 (fun r h' => TodoSem P n m rnd [.inRegion ops (List.range' (k + 1) l.length)] ⟨aput ts.flatten o.dst r, h'⟩ Q) (hfl ▸ k3 Q hq n m rnd)
      exact todo_op ho hg (opW_noDefer hop) (opW_sound hT hop)
    replace h : opsOne o (opsSel l) ih T ops K ts e = some y := h
    cases hgd : o.guard with
    | none =>
      simp only [opsOne, hgd] at h
      exact run (by simp [guardA, hgd]) h
    | some q =>
      simp only [opsOne, hgd] at h
      unfold opsGuard at h
      rw [guardE_eq ht] at h
      split at h
      · cases h
      · rename_i hg
        obtain ⟨ts1, ht1, hfl, h⟩ := putK_ok ht h
        obtain ⟨x, ts2, e2, k1, ht2, k2, k3⟩ := opsE_ok hT hX hih l (k + 1) _ _ K y h2 he ht1 h
        exact ⟨x, ts2, e2, k1, ht2, k2, fun Q hq n m rnd => todo_op_skip ho hg (hfl ▸ k3 Q hq n m rnd)⟩
      · rename_i hg
        exact run hg h

def blockE (id : Nat) (K : AExit → TS → EH → Option R) (x : AExit) (ts : TS) (e : EH) : Option R :=
  match x with
  | .jump (.exit id') => (match Nat.beq id' id with | true => K .normal ts e | false => K (.jump (.exit id')) ts e)
  | x => K x ts e

def rangeDone (l : Nat) (ts : TS) (K : AExit → TS → EH → Option R) (_ : AV) (e : EH) : Option R :=
  match e.loop l with
  | none => none
  | some r => match r.state with
    | .busy => none
    | _ => (match r.pending with
      | none => e.setLoop l none fun e => K .normal ts e
      | some j => (match isJump j with
        | true => e.setLoop l none fun e => K (.jump j) ts e
        | false => none))

def rangeE (rnd : Option Nat) (f : AV) (ps : Array Tmp) (a body : Code) (ts : TS) (e : EH) (K : AExit → TS → EH → Option R) : Option R :=
  match (match rnd with | none => true | some l => (e.loop l).isSome) with
  | false => none
  | true =>
  match f with
  | .fn (.func g) first cap => fNat e.loops.length fun l => fList ts.flatten fun tl => e.pushLoop { state := .ready, pending := none, tmps := tl, params := ps, assign := a, body := body } fun e => fList (first ++ [.yld l] ++ cap) fun args => ih.call g args e (rangeDone l ts K)
  | _ => none

abbrev DrawH (R : Type) := IH R → Array Oper → TS → EH → (AExit → TS → EH → Option R) → Option R
variable (drawE : DrawH R)

abbrev CodeH (R : Type) := IH R → Tab → DrawH R → Option Nat → TS → EH → (AExit → TS → EH → Option R) → Option R
def cSkip : CodeH R := fun _ _ _ _ ts e K => K .normal ts e
def cLabel (_ : Nat) : CodeH R := cSkip
def cRegion (_ : Nat) (ops : Array Oper) (draw : Bool) : CodeH R := fun ih T drawE _ ts e K => match draw with
  | false => opsE ih T ops ops.toList ts e K
  | true => drawE ih ops ts e K
def seqK (ih : IH R) (rnd : Option Nat) (b : Code) (K : AExit → TS → EH → Option R) (x : AExit) (ts : TS) (e : EH) : Option R := match x with
  | .normal => ih.code rnd b ts e K
  | .jump j => K (.jump j) ts e
def cSeq (a b : Code) : CodeH R := fun ih _ _ rnd ts e K => ih.code rnd a ts e (seqK ih rnd b K)
def condK (ih : IH R) (rnd : Option Nat) (a b : Code) (ts : TS) (e : EH) (K : AExit → TS → EH → Option R) (c : AV) : Option R := match c with
  | .bool t => (match t with | true => ih.code rnd a ts e K | false => ih.code rnd b ts e K)
  | _ => none
def cCond (c : Operand) (a b : Code) : CodeH R := fun ih _ _ rnd ts e K => evK ts c (condK ih rnd a b ts e K)
def cBlock (id : Nat) (c : Code) : CodeH R := fun ih _ _ rnd ts e K => ih.code rnd c ts e (blockE id K)
def cLoop (c : Code) : CodeH R := fun ih _ _ rnd ts e K => ih.loop rnd c ts e K
def cExit (id : Nat) : CodeH R := fun _ _ _ _ ts e K => K (.jump (.exit id)) ts e
def cGoto (l : Nat) : CodeH R := fun _ _ _ _ ts e K => K (.jump (.goto l)) ts e
def cRet : CodeH R := fun _ _ _ _ ts e K => K (.jump .ret) ts e
def cScope (c : Code) : CodeH R := fun ih _ _ rnd ts e K => ih.scope rnd c c ts e K
def cRange (f : Operand) (ps : Array Tmp) (a b : Code) : CodeH R := fun ih _ _ rnd ts e K => evK ts f fun f => rangeE ih rnd f ps a b ts e K
def cNone : CodeH R := fun _ _ _ _ _ _ _ => none

def codeSelC (c : Code) : CodeH R :=
  match c with
  | .skip => cSkip
  | .label l => cLabel l
  | .region id ops draw => cRegion id ops draw
  | .seq a b => cSeq a b
  | .cond c a b => cCond c a b
  | .block id c => cBlock id c
  | .loop c => cLoop c
  | .exit id => cExit id
  | .goto l => cGoto l
  | .ret => cRet
  | .scope c => cScope c
  | .rangeFunc f ps a b => cRange f ps a b
  | .refuse _ => cNone

noncomputable def codeSel (c : Code) : CodeH R :=
  Code.rec (motive := fun _ => CodeH R) cSkip cRegion (fun a b _ _ => cSeq a b) (fun c a b _ _ => cCond c a b) (fun id c _ => cBlock id c) (fun c _ => cLoop c) (fun f ps a b _ _ => cRange f ps a b)
    cExit (fun c _ => cScope c) cLabel cGoto cRet (fun _ => cNone) c

def codeE (rnd : Option Nat) (c : Code) (ts : TS) (e : EH) (K : AExit → TS → EH → Option R) : Option R := codeSel c ih T drawE rnd ts e K

def loopE (rnd : Option Nat) (c : Code) (ts : TS) (e : EH) (K : AExit → TS → EH → Option R) : Option R :=
  ih.code rnd c ts e fun x ts e => match x with
    | .normal => ih.loop rnd c ts e K
    | .jump j => K (.jump j) ts e

def scopeE (rnd : Option Nat) (c x : Code) (ts : TS) (e : EH) (K : AExit → TS → EH → Option R) : Option R :=
  ih.code rnd x ts e fun x ts e => match x with
    | .jump (.goto l) => (match findLabel c l with
      | some rest => ih.scope rnd c rest ts e K
      | none => K (.jump (.goto l)) ts e)
    | x => K x ts e

structure DrawOK (P : Program) : Prop where
  ok : ∀ (ih : IH R), ih.OK P → ∀ id ops ts e K y, e.ok → okT ts → drawE ih ops ts e K = some y → WentC K y fun Q => ∀ n m rnd, TodoSem P n m rnd [.code (.region id ops true)] ⟨ts.flatten, e.abs⟩ Q

theorem codeE_ok (hT : TabOK P T) (hX : BareOK P) (hd : DrawOK drawE P) (hih : ih.OK P) (rnd : Option Nat) (c : Code) (ts : TS) (e : EH) (K : AExit → TS → EH → Option R) (y : R) (he : e.ok) (ht : okT ts) (h : codeE ih T drawE rnd c ts e K = some y) :
    WentC K y fun Q => ∀ n m, TodoSem P n m rnd [.code c] ⟨ts.flatten, e.abs⟩ Q := by
  unfold codeE at h
  cases c
  case skip => exact ⟨.normal, ts, e, he, ht, h, fun Q hq n m => t_skip hq⟩
  case label => exact ⟨.normal, ts, e, he, ht, h, fun Q hq n m => t_label hq⟩
  case region id ops draw =>
    replace h : cRegion id ops draw ih T drawE rnd ts e K = some y := h
    unfold cRegion at h
    split at h
    · obtain ⟨x, ts', e', h1, ht', h2, h3⟩ := opsE_ok ih T hT hX hih ops.toList 0 ts e K y rfl he ht h
      refine ⟨x, ts', e', h1, ht', h2, fun Q hq n m => t_region ?_⟩
      have := h3 Q hq n m rnd
      rw [Array.length_toList, ← List.range_eq_range'] at this
      exact this
    · obtain ⟨x, ts', e', h1, ht', h2, h3⟩ := hd.ok ih hih id ops ts e K y he ht h
      exact ⟨x, ts', e', h1, ht', h2, fun Q hq n m => h3 Q hq n m rnd⟩
  case seq a b =>
    replace h : ih.code rnd a ts e (seqK ih rnd b K) = some y := h
    obtain ⟨x, ts1, e1, h1, ht1, h2, h3⟩ := hih.code _ _ _ _ _ _ he ht h
    cases x with
    | normal =>
      obtain ⟨x2, ts2, e2, k1, ht2, k2, k3⟩ := hih.code _ _ _ _ _ _ h1 ht1 h2
      exact ⟨x2, ts2, e2, k1, ht2, k2, fun Q hq n m => t_seq (h3 (Then (fun s => TodoSem P n m rnd [.code b] s Q) Q) (k3 Q hq n m) n m)⟩
    | jump j => exact ⟨.jump j, ts1, e1, h1, ht1, h2, fun Q hq n m => t_seq (h3 (Then (fun s => TodoSem P n m rnd [.code b] s Q) Q) hq n m)⟩
  case cond c a b =>
    replace h : evK ts c (condK ih rnd a b ts e K) = some y := h
    rw [evK_eq ht e.abs] at h
    unfold condK at h
    split at h
    · rename_i t hc
      split at h
      · obtain ⟨x2, ts2, e2, k1, ht2, k2, k3⟩ := hih.code _ _ _ _ _ _ he ht h
        exact ⟨x2, ts2, e2, k1, ht2, k2, fun Q hq n m => t_cond hc (k3 Q hq n m)⟩
      · obtain ⟨x2, ts2, e2, k1, ht2, k2, k3⟩ := hih.code _ _ _ _ _ _ he ht h
        exact ⟨x2, ts2, e2, k1, ht2, k2, fun Q hq n m => t_cond hc (k3 Q hq n m)⟩
    · cases h
  case block id c =>
    replace h : ih.code rnd c ts e (blockE id K) = some y := h
    obtain ⟨x, ts1, e1, h1, ht1, h2, h3⟩ := hih.code _ _ _ _ _ _ he ht h
    unfold blockE at h2
    split at h2
    · rename_i id'
      split at h2
      · rename_i hb
        rw [Nat.beq_eq] at hb
        exact ⟨_, ts1, e1, h1, ht1, h2, fun Q hq n m => t_block (h3 (InBlock id Q) (by simp only [InBlock, if_pos hb]; exact hq) n m)⟩
      · rename_i hb
        have hb : ¬ id' = id := fun e => by rw [← Nat.beq_eq] at e; rw [e] at hb; cases hb
        exact ⟨_, ts1, e1, h1, ht1, h2, fun Q hq n m => t_block (h3 (InBlock id Q) (by simp only [InBlock, if_neg hb]; exact hq) n m)⟩
    · rename_i hne
      refine ⟨_, ts1, e1, h1, ht1, h2, fun Q hq n m => t_block (h3 (InBlock id Q) ?_ n m)⟩
      cases x with
      | normal => exact hq
      | jump j => cases j <;> first | exact hq | exact (hne _ rfl).elim
  case loop c =>
    replace h : ih.loop rnd c ts e K = some y := h
    obtain ⟨x2, ts2, e2, k1, ht2, k2, k3⟩ := hih.loop _ _ _ _ _ _ he ht h
    exact ⟨x2, ts2, e2, k1, ht2, k2, fun Q hq n m => t_loop_head (k3 Q hq n m)⟩
  case exit id => exact ⟨.jump (.exit id), ts, e, he, ht, h, fun Q hq n m => t_jump _ trivial hq⟩
  case goto l => exact ⟨.jump (.goto l), ts, e, he, ht, h, fun Q hq n m => t_jump _ trivial hq⟩
  case ret => exact ⟨.jump .ret, ts, e, he, ht, h, fun Q hq n m => t_jump _ trivial hq⟩
  case scope c =>
    replace h : ih.scope rnd c c ts e K = some y := h
    obtain ⟨x2, ts2, e2, k1, ht2, k2, k3⟩ := hih.scope _ _ _ _ _ _ _ he ht h
    exact ⟨x2, ts2, e2, k1, ht2, k2, fun Q hq n m => t_scope (k3 Q hq n m)⟩
  case refuse => exact absurd h (by intro h; cases h)
  case rangeFunc f ps a b =>
    replace h : evK ts f (fun f => rangeE ih rnd f ps a b ts e K) = some y := h
    rw [evK_eq ht e.abs] at h
    unfold rangeE at h
    split at h
    · cases h
    · rename_i hrnd
      split at h
      · rename_i g first cap hf
        rw [fNat_eq, fList_eq] at h
        obtain ⟨e1, g1, g2, g3⟩ := EH.pushLoop_eq he h
        rw [fList_eq] at g3
        obtain ⟨r, e2, k1, k2, k3⟩ := hih.call _ _ _ _ _ g1 g3
        unfold rangeDone at k2
        rw [EH.loop_abs] at k2
        have hl : e.loops.length = e.abs.loops.length := rfl
        have fin : ∀ (Q : AExit → St → Prop) n m, rangeQ ts.flatten e.abs.loops.length Q r e2.abs → TodoSem P n m rnd [.code (.rangeFunc f ps a b)] ⟨ts.flatten, e.abs⟩ Q := fun Q n m hq => by
          refine t_rangeFunc hf (fun l0 hl0 => ?_) ?_
          · subst hl0
            simp only [EH.loop_abs] at hrnd
            exact hrnd
          · have := k3 (rangeQ ts.flatten e.abs.loops.length Q) hq
            rw [g2] at this
            exact this
        split at k2
        · cases k2
        · rename_i r2 hr2
          rw [hl] at hr2 k2
          split at k2
          · cases k2
          · rename_i hst
            split at k2
            · rename_i hp
              obtain ⟨e3, m1, m2, m3⟩ := EH.setLoop_eq k1 k2
              refine ⟨_, ts, e3, m1, ht, m3, fun Q hq n m => fin Q n m ?_⟩
              simp only [rangeQ, hr2, hp]
              exact ⟨hst, m2 ▸ hq⟩
            · rename_i j hp
              split at k2
              · rename_i hj
                obtain ⟨e3, m1, m2, m3⟩ := EH.setLoop_eq k1 k2
                refine ⟨_, ts, e3, m1, ht, m3, fun Q hq n m => fin Q n m ?_⟩
                simp only [rangeQ, hr2, hp]
                exact ⟨hst, hj, m2 ▸ hq⟩
              · cases k2
      · cases h

omit [Bare] in
theorem loopE_ok (hih : ih.OK P) (rnd : Option Nat) (c : Code) (ts : TS) (e : EH) (K : AExit → TS → EH → Option R) (y : R) (he : e.ok) (ht : okT ts) (h : loopE ih rnd c ts e K = some y) :
    WentC K y fun Q => ∀ n m, TodoSem P n m rnd [.inLoop c] ⟨ts.flatten, e.abs⟩ Q := by
  unfold loopE at h
  obtain ⟨x, ts1, e1, h1, ht1, h2, h3⟩ := hih.code _ _ _ _ _ _ he ht h
  cases x with
  | normal =>
    obtain ⟨x2, ts2, e2, k1, ht2, k2, k3⟩ := hih.loop _ _ _ _ _ _ h1 ht1 h2
    exact ⟨x2, ts2, e2, k1, ht2, k2, fun Q hq n m => t_inLoop (h3 (Then (fun s => TodoSem P n m rnd [.inLoop c] s Q) Q) (k3 Q hq n m) n m)⟩
  | jump j => exact ⟨.jump j, ts1, e1, h1, ht1, h2, fun Q hq n m => t_inLoop (h3 (Then (fun s => TodoSem P n m rnd [.inLoop c] s Q) Q) hq n m)⟩

omit [Bare] in
theorem scopeE_ok (hih : ih.OK P) (rnd : Option Nat) (c x : Code) (ts : TS) (e : EH) (K : AExit → TS → EH → Option R) (y : R) (he : e.ok) (ht : okT ts) (h : scopeE ih rnd c x ts e K = some y) :
    WentC K y fun Q => ∀ n m, TodoSem P n m rnd [.code x, .inScope c] ⟨ts.flatten, e.abs⟩ Q := by
  unfold scopeE at h
  obtain ⟨x1, ts1, e1, h1, ht1, h2, h3⟩ := hih.code _ _ _ _ _ _ he ht h
  dsimp only at h2
  split at h2
  · rename_i l
    split at h2
    · rename_i rest hf
      obtain ⟨x2, ts2, e2, k1, ht2, k2, k3⟩ := hih.scope _ _ _ _ _ _ _ h1 ht1 h2
      exact ⟨x2, ts2, e2, k1, ht2, k2, fun Q hq n m => t_inScope (h3 (InScope P n m rnd c Q) (by simp only [InScope, hf]; exact k3 Q hq n m) n m)⟩
    · rename_i hf
      exact ⟨_, ts1, e1, h1, ht1, h2, fun Q hq n m => t_inScope (h3 (InScope P n m rnd c Q) (by simp only [InScope, hf]; exact hq) n m)⟩
  · rename_i hne
    refine ⟨_, ts1, e1, h1, ht1, h2, fun Q hq n m => t_inScope (h3 (InScope P n m rnd c Q) ?_ n m)⟩
    cases x1 with
    | normal => exact hq
    | jump j => cases j <;> first | exact hq | exact (hne _ rfl).elim

def resE (ts : TS) (e : EH) : List ResultVar → (List AV → Option R) → Option R
  | [], K => K []
  | .tmp t :: r, K => tsGet ts t fun x => resE ts e r fun l => K (x :: l)
  | .cell a t :: r, K => tsGet ts a fun x => loadE T e t x fun x => resE ts e r fun l => K (x :: l)

omit [Bare] in
theorem resE_ok {ts : TS} (ht : okT ts) {e : EH} (he : e.ok) : ∀ (rs : List ResultVar) (K : List AV → Option R) (y : R), resE T ts e rs K = some y → ∃ l, resA T ⟨ts.flatten, e.abs⟩ rs = some l ∧ K l = some y
  | [], K, y, h => ⟨[], rfl, h⟩
  | .tmp t :: r, K, y, h => by
    rw [resE, tsGet_eq _ _ _ ht] at h
    obtain ⟨l, h1, h2⟩ := resE_ok ht he r _ y h
    exact ⟨_, by simp only [resA, h1], h2⟩
  | .cell a t :: r, K, y, h => by
    rw [resE, tsGet_eq _ _ _ ht] at h
    obtain ⟨x, h1, h2⟩ := loadE_ok T he h
    obtain ⟨l, h3, h4⟩ := resE_ok ht he r _ y h2
    exact ⟨_, by simp only [resA, h1, h3], h4⟩

def endE (rs : List ResultVar) (K : AV → EH → Option R) (x : AExit) (ts : TS) (e : EH) : Option R :=
  match x with
  | .normal => resE T ts e rs fun l => fAV (packA l) fun r => K r e
  | .jump .ret => resE T ts e rs fun l => fAV (packA l) fun r => K r e
  | _ => none

theorem endE_ok {fn : Func} {K : AV → EH → Option R} {x : AExit} {ts : TS} {e : EH} {y : R} (he : e.ok) (ht : okT ts) (h : endE T fn.results.toList K x ts e = some y) :
    Went K y fun Q => endW T fn Q x ⟨ts.flatten, e.abs⟩ := by
  unfold endE at h
  split at h
  · obtain ⟨l, h1, h2⟩ := resE_ok T ht he _ _ _ h
    rw [fAV_eq] at h2
    exact ⟨_, e, he, h2, fun Q hq => by simp only [endW, h1]; exact hq⟩
  · obtain ⟨l, h1, h2⟩ := resE_ok T ht he _ _ _ h
    rw [fAV_eq] at h2
    exact ⟨_, e, he, h2, fun Q hq => by simp only [endW, h1]; exact hq⟩
  · cases h

structure Fun where
  body : Code
  ntmps : Nat
  results : List ResultVar

structure FunOK (P : Program) (F : FuncId → Option Fun) : Prop where
  ok : ∀ f x, F f = some x → ∃ fn, P.funcs[f]? = some fn ∧ fn.body = some x.body ∧ (fn.name == "runtime.NumGoroutine") = false ∧ fn.ntmps = x.ntmps ∧ fn.results.toList = x.results

variable (F : FuncId → Option Fun) (M : FuncId → Option (List AV → Option AV))

structure MemOK (P : Program) (M : FuncId → Option (List AV → Option AV)) : Prop where
  ok : ∀ f g args r, M f = some g → (∀ x ∈ args, Pure x) → g args = some r → KnownSem P f args r

def bodyE (f : FuncId) (args : List AV) (e : EH) (K : AV → EH → Option R) : Option R :=
  match F f with
  | none => none
  | some x => chunkN x.ntmps args fun ts => ih.code none x.body ts e (endE T x.results K)

def knownE (args : List AV) (g : List AV → Option AV) (e : EH) (K : AV → EH → Option R) (no : Unit → Option R) : Option R :=
  frzL (frz 30 e) args fun as => match g as with
    | some r => (match unmark r with
      | (x, true) => fAV x fun x => K x e
      | (x, false) => fAV x fun x => (match plainB 30 x with
        | true => K x e
        | false => (match beqL (beqA 30) args as with | true => K x e | false => no ())))
    | none => no ()

def insE (sz bytes : Nat) (args : List AV) (e : EH) (K : AV → EH → Option R) (no : Unit → Option R) : Option R :=
  match args with
  | [.ms b i0 n none, .int .i64 (.ofNat i), .ms b' j m _] => (match Nat.beq m 1 with
    | true => (match e.get b, e.get b' with
      | some (.rows rs _ false), some (.rows rs' _ false) => (match rs'[j]? with
        | some row => (match Nat.blt i n && Nat.ble (i0 + n) rs.length && !Nat.beq b b' && goodRows sz rs && goodRows sz [row] && Nat.ble ((n + 1) * bytes) 140737488355328 with
          | true => fList (((rs.drop i0).take n).take i ++ row :: ((rs.drop i0).take n).drop i) fun rows => fNat (n + 1) fun m => e.kill b fun e1 => e1.push (.rows rows true false) fun e2 => K (.ms e1.n 0 m none) e2
          | false => no ())
        | none => no ())
      | _, _ => no ())
    | false => no ())
  | _ => no ()

def callE (f : FuncId) (args : List AV) (e : EH) (K : AV → EH → Option R) : Option R :=
  match M f with
  | some g => knownE args g e K (fun _ => bodyE ih T F f args e K)
  | none => (match Bare.ins f with
    | some p => insE p.1 p.2 args e K (fun _ => bodyE ih T F f args e K)
    | none => bodyE ih T F f args e K)

theorem bodyE_ok (hT : TabOK P T) (hF : FunOK P F) (hih : ih.OK P) (f : FuncId) (args : List AV) (e : EH) (K : AV → EH → Option R) (y : R) (he : e.ok) (h : bodyE ih T F f args e K = some y) : Went K y (CallSem P f args e.abs) := by
  unfold bodyE at h
  split at h
  · cases h
  · rename_i x hx
    obtain ⟨fn, f1, f2, f3, f4, f5⟩ := hF.ok f x hx
    obtain ⟨ts0, ht0, hfl, h⟩ := chunkN_ok h
    obtain ⟨ex, ts, e1, h1, ht1, h2, h3⟩ := hih.code _ _ _ _ _ _ he ht0 h
    rw [hfl] at h3
    rw [← f5] at h2
    obtain ⟨r, e2, k1, k2, k3⟩ := endE_ok T h1 ht1 h2
    refine ⟨r, e2, k1, k2, fun Q hq => call_body f1 f2 f3 ?_⟩
    have := h3 (endW T fn Q) (k3 Q hq) e.abs.blks.length e.abs.loops.length
    rw [f4]
    refine this.mono fun e' s hq => ?_
    cases e' with
    | normal =>
      simp only [endW] at hq
      split at hq
      · rename_i l hl
        exact ⟨trivial, _, res_sound hT hl, hq⟩
      · exact hq.elim
    | jump j =>
      cases j <;> simp only [endW] at hq <;> first | (exact hq.elim) | skip
      split at hq
      · rename_i l hl
        exact ⟨trivial, _, res_sound hT hl, hq⟩
      · exact hq.elim

omit [Bare] in
theorem insE_ok {f : FuncId} {sz bytes : Nat} (hI : InsSem P f sz bytes) {args : List AV} {e : EH} {K : AV → EH → Option R} {no : Unit → Option R} {y : R} (he : e.ok) (h : insE sz bytes args e K no = some y)
    (hno : no () = some y → Went K y (CallSem P f args e.abs)) : Went K y (CallSem P f args e.abs) := by
  unfold insE at h
  split at h
  rotate_left
  · exact hno h
  rename_i b i0 n i b' j m c'
  split at h
  rotate_left
  · exact hno h
  rename_i hm
  obtain rfl := Nat.eq_of_beq_eq_true hm
  rw [EH.get_abs he, EH.get_abs he] at h
  split at h
  rotate_left
  · exact hno h
  rename_i rs g rs' g' hb hb'
  split at h
  rotate_left
  · exact hno h
  rename_i row hrow
  split at h
  rotate_left
  · exact hno h
  rename_i hc
  simp only [Bool.and_eq_true, Nat.blt_eq, Nat.ble_eq, Bool.not_eq_true', ← Bool.not_eq_true, Nat.beq_eq] at hc
  obtain ⟨⟨⟨⟨⟨h1, h2⟩, h3⟩, h4⟩, h5⟩, h6⟩ := hc
  rw [fList_eq, fNat_eq] at h
  obtain ⟨e1, k1, k2, k3, k4⟩ := EH.kill_ok he h
  obtain ⟨e2, m1, m2, m3⟩ := EH.push_ok k1 k4
  have hg := goodRows_ok h5 row (by simp)
  refine ⟨_, e2, m1, m3, fun Q hq => hI.run e.abs Q b i0 n rs g i b' j c' rs' g' row hb hb' h3 h1 h2 (goodRows_ok h4) hrow hg.1 hg.2 h6 ?_⟩
  rw [m2, k2, k3, ← EH.len he] at hq
  exact hq

theorem callE_ok (hX : BareOK P) (hT : TabOK P T) (hF : FunOK P F) (hM : MemOK P M) (hih : ih.OK P) (f : FuncId) (args : List AV) (e : EH) (K : AV → EH → Option R) (y : R) (he : e.ok) (h : callE ih T F M f args e K = some y) : Went K y (CallSem P f args e.abs) := by
  unfold callE at h
  split at h
  · rename_i g hg
    unfold knownE at h
    obtain ⟨as, h1, h2⟩ := frzL_ok (frz_ok he 30) args _ _ h
    split at h2
    · rename_i r hr
      have hq := hM.ok f g as r hg h1.pure hr
      split at h2
      · rename_i x hu
        rw [fAV_eq] at h2
        exact ⟨x, e, he, h2, fun Q hk => call_fresh h1.len h1.frz (hq.fresh hu) hk⟩
      rename_i x hu
      rw [fAV_eq] at h2
      have hp := hq.pure hu
      split at h2
      · rename_i hpl
        exact ⟨x, e, he, h2, fun Q hq => call_borrow h1.len h1.frz hp (plainB_ok _ _ hpl) hq⟩
      · split at h2
        · rename_i hb
          have := beqL_ok (beqA_ok 30) hb
          subst this
          exact ⟨x, e, he, h2, fun Q hq => call_pure h1.pure hp hq⟩
        · exact bodyE_ok ih T F hT hF hih f args e K y he h2
    · exact bodyE_ok ih T F hT hF hih f args e K y he h2
  · split at h
    · rename_i p hp
      exact insE_ok (hX.ins f p.1 p.2 hp) he h fun h => bodyE_ok ih T F hT hF hih f args e K y he h
    · exact bodyE_ok ih T F hT hF hih f args e K y he h

def runs : Nat → IH R
  | 0 => { code := fun _ _ _ _ _ => none, loop := fun _ _ _ _ _ => none, scope := fun _ _ _ _ _ _ => none, call := fun _ _ _ _ => none }
  | n + 1 => { code := codeE (runs n) T drawE, loop := loopE (runs n), scope := scopeE (runs n), call := callE (runs n) T F M }

theorem runs_ok (hT : TabOK P T) (hX : BareOK P) (hF : FunOK P F) (hM : MemOK P M) (hd : DrawOK drawE P) : ∀ n, (runs (R := R) T drawE F M n).OK P
  | 0 => ⟨fun _ _ _ _ _ _ _ _ h => (by cases h), fun _ _ _ _ _ _ _ _ h => (by cases h), fun _ _ _ _ _ _ _ _ _ h => (by cases h), fun _ _ _ _ _ _ h => (by cases h)⟩
  | n + 1 => ⟨fun rnd c ts e K y he ht h => codeE_ok _ T drawE hT hX hd (runs_ok hT hX hF hM hd n) rnd c ts e K y he ht h,
      fun rnd c ts e K y he ht h => loopE_ok _ (runs_ok hT hX hF hM hd n) rnd c ts e K y he ht h,
      fun rnd c x ts e K y he ht h => scopeE_ok _ (runs_ok hT hX hF hM hd n) rnd c x ts e K y he ht h,
      fun f args e K y he h => callE_ok _ T F M hX hT hF hM (runs_ok hT hX hF hM hd n) f args e K y he h⟩

end ops

section top
variable [Bare] (T : Tab) {P : Program} (drawE : DrawH AV) (F : FuncId → Option Fun) (M : FuncId → Option (List AV → Option AV))

def runCall (n : Nat) (f : FuncId) (args : List AV) : Option AV :=
  (runs T drawE F M n).call f args ⟨0, [], []⟩ fun r e => frz 30 e r fun r => some r

theorem runCall_ok (hT : TabOK P T) (hX : BareOK P) (hF : FunOK P F) (hM : MemOK P M) (hd : DrawOK drawE P) {n : Nat} {f : FuncId} {args : List AV} {r : AV} (ha : allB (pureB 30) args = true) (h : runCall T drawE F M n f args = some r) : PureSem P f args r := by
  unfold runCall at h
  obtain ⟨r', e, h1, h2, h3⟩ := (runs_ok T drawE F M hT hX hF hM hd n).call f args ⟨0, [], []⟩ _ _ EH.ok_nil h
  obtain ⟨y, k1, k2, k3⟩ := frz_ok h1 30 _ _ _ h2
  injection k3 with k3; subst k3
  exact pure_of_call (fun x hx => pureB_ok _ _ (allB_ok ha x hx)) k2 (h3 _ k1)

def callIs (n : Nat) (f : FuncId) (args : List AV) (r : AV) : Bool :=
  match allB (pureB 30) args with
  | true => (match runCall T drawE F M n f args with | some r' => beqA 30 r' r | none => false)
  | false => false

theorem callIs_ok (hT : TabOK P T) (hX : BareOK P) (hF : FunOK P F) (hM : MemOK P M) (hd : DrawOK drawE P) {n : Nat} {f : FuncId} {args : List AV} {r : AV} (h : callIs T drawE F M n f args r = true) : PureSem P f args r := by
  unfold callIs at h
  split at h
  · rename_i ha
    split at h
    · rename_i r' hr
      rw [beqA_ok _ _ _ h] at hr
      exact runCall_ok T drawE F M hT hX hF hM hd ha hr
    · cases h
  · cases h

def frzN {R : Type} : Nat → EH → AV → (AV → Option R) → Option R
  | 0, _, _, _ => none
  | n + 1, e, x, k => match x with
    | .agg cs => frzL (frzN n e) cs fun cs => k (.agg cs)
    | .tup cs => frzL (frzN n e) cs fun cs => k (.tup cs)
    | .ms b i len capo => (match e.get b with
      | some (.rows rs _ _) => (match Nat.ble (i + len) rs.length with
        | true => frzLL (frzN n e) ((rs.drop i).take len) fun es => k (.vs es capo)
        | false => none)
      | _ => none)
    | .bool b => k (.bool b)
    | .int q n => k (.int q n)
    | .str s => k (.str s)
    | .nilp => k .nilp
    | .nils => k .nils
    | .nilf => k .nilf
    | .nili => k .nili
    | .nilm => k .nilm
    | _ => none

structure FrzNL (h : Heap) (xs ys : List AV) : Prop where
  len : xs.length = ys.length
  frz : ∀ (i : Nat) (hi : i < xs.length) (hj : i < ys.length), FrzN h xs[i] ys[i]
  pure : ∀ y ∈ ys, Pure y

omit [Gl] [Bare] in
theorem frzNL_ok {R : Type} {h : Heap} {f : AV → (AV → Option R) → Option R} (hf : ∀ x k z, f x k = some z → ∃ y, FrzN h x y ∧ Pure y ∧ k y = some z) :
    ∀ (l : List AV) (k : List AV → Option R) (z : R), frzL f l k = some z → ∃ l', FrzNL h l l' ∧ k l' = some z
  | [], k, z, hk => ⟨[], ⟨rfl, fun i hi => by simp at hi, fun y hy => by cases hy⟩, hk⟩
  | a :: l, k, z, hk => by
    obtain ⟨y, h1, h2, h3⟩ := hf _ _ _ hk
    obtain ⟨l', h4, h5⟩ := frzNL_ok hf l _ z h3
    refine ⟨y :: l', ⟨by simp [h4.len], fun i hi hj => ?_, fun x hx => ?_⟩, h5⟩
    · cases i with
      | zero => exact h1
      | succ i => exact h4.frz i (by simpa using hi) (by simpa using hj)
    · rcases List.mem_cons.1 hx with rfl | hx
      · exact h2
      · exact h4.pure x hx

omit [Gl] [Bare] in
theorem frzNLL_ok {R : Type} {h : Heap} {f : AV → (AV → Option R) → Option R} (hf : ∀ x k z, f x k = some z → ∃ y, FrzN h x y ∧ Pure y ∧ k y = some z) :
    ∀ (l : List (List AV)) (k : List (List AV) → Option R) (z : R), frzLL f l k = some z →
      ∃ l' : List (List AV), l.length = l'.length ∧ (∀ (i : Nat) (hi : i < l.length) (hj : i < l'.length), FrzNL h l[i] l'[i]) ∧ k l' = some z
  | [], k, z, hk => ⟨[], rfl, fun i hi => by simp at hi, hk⟩
  | a :: l, k, z, hk => by
    obtain ⟨y, h1, h3⟩ := frzNL_ok hf a _ _ hk
    obtain ⟨l', h4, h5, h6⟩ := frzNLL_ok hf l _ z h3
    refine ⟨y :: l', by simp [h4], fun i hi hj => ?_, h6⟩
    cases i with
    | zero => exact h1
    | succ i => exact h5 i (by simpa using hi) (by simpa using hj)

omit [Bare] in
theorem frzN_ok {R : Type} {e : EH} (he : e.ok) : ∀ (n : Nat) (x : AV) (k : AV → Option R) (z : R), frzN n e x k = some z → ∃ y, FrzN e.abs x y ∧ Pure y ∧ k y = some z
  | 0, _, _, _, h => by cases h
  | n + 1, x, k, z, h => by
    have ih := frzN_ok he n (R := R)
    have self : ∀ {x : AV}, Plain x → Pure x → k x = some z → ∃ y, FrzN e.abs x y ∧ Pure y ∧ k y = some z := fun hp hq hk => ⟨_, .plain _ hp, hq, hk⟩
    unfold frzN at h
    split at h
    · obtain ⟨l, h1, h2⟩ := frzNL_ok ih _ _ _ h
      exact ⟨_, .agg _ _ h1.len h1.frz, .agg _ fun i hi => h1.pure _ (List.getElem_mem hi), h2⟩
    · obtain ⟨l, h1, h2⟩ := frzNL_ok ih _ _ _ h
      exact ⟨_, .tup _ _ h1.len h1.frz, .tup _ fun i hi => h1.pure _ (List.getElem_mem hi), h2⟩
    · rename_i b i len capo
      rw [EH.get_abs he] at h
      split at h
      · rename_i rs g fz hb
        split at h
        · rename_i hc
          rw [Nat.ble_eq] at hc
          obtain ⟨es, h1, h2, h3⟩ := frzNLL_ok ih _ _ _ h
          have hlen : ((rs.drop i).take len).length = len := by rw [List.length_take, List.length_drop]; omega
          have hl : es.length = len := by rw [← h1, hlen]
          have get : ∀ (t : Nat) (ht : t < es.length) (hr : i + t < rs.length), FrzNL e.abs rs[i + t] es[t] := fun t ht hr => by
            have := h2 t (by omega) ht
            simpa using this
          refine ⟨_, .ms b i len capo rs g fz es hb hl hc (fun t ht hr => (get t ht hr).len.symm) (fun t ht hr j h1 h2 => (get t ht hr).frz j h2 h1), .vs _ _ fun t ht j hj => (get t ht (by omega)).pure _ (List.getElem_mem hj), h3⟩
        · cases h
      · cases h
    · exact self (.bool _) (.bool _) h
    · exact self (.int _ _) (.int _ _) h
    · exact self (.str _) (.str _) h
    · exact self .nilp .nilp h
    · exact self .nils .nils h
    · exact self .nilf .nilf h
    · exact self .nili .nili h
    · exact self .nilm .nilm h
    · cases h

def runCallN (n : Nat) (f : FuncId) (args : List AV) : Option AV :=
  (runs T drawE F M n).call f args ⟨0, [], []⟩ fun r e => frzN 30 e r fun r => some r

theorem runCallN_ok (hT : TabOK P T) (hX : BareOK P) (hF : FunOK P F) (hM : MemOK P M) (hd : DrawOK drawE P) {n : Nat} {f : FuncId} {args : List AV} {r : AV} (ha : allB (pureB 30) args = true) (h : runCallN T drawE F M n f args = some r) : FreshSem P f args r := by
  unfold runCallN at h
  obtain ⟨r', e, h1, h2, h3⟩ := (runs_ok T drawE F M hT hX hF hM hd n).call f args ⟨0, [], []⟩ _ _ EH.ok_nil h
  obtain ⟨y, k1, k2, k3⟩ := frzN_ok h1 30 _ _ _ h2
  injection k3 with k3; subst k3
  exact fresh_of_call (fun x hx => pureB_ok _ _ (allB_ok ha x hx)) k2 (h3 _ k1)

def rowIs (n : Nat) (f : FuncId) (args : List AV) (r : AV) : Bool :=
  match unmark r with
  | (x, true) => (match allB (pureB 30) args with
    | true => (match runCallN T drawE F M n f args with | some r' => beqA 30 r' x | none => false)
    | false => false)
  | (x, false) => (match ifcB x with | true => false | false => callIs T drawE F M n f args x)

theorem rowIs_ok (hT : TabOK P T) (hX : BareOK P) (hF : FunOK P F) (hM : MemOK P M) (hd : DrawOK drawE P) {n : Nat} {f : FuncId} {args : List AV} {r : AV} (h : rowIs T drawE F M n f args r = true) : KnownSem P f args r := by
  have mk : ∀ x, unmark r = (x, true) → r = .ifc 999999 x := fun x hu => by
    unfold unmark at hu
    split at hu
    · split at hu
      · rename_i ht
        injection hu with hu _; subst hu
        rw [Nat.eq_of_beq_eq_true ht]
      · injection hu with _ hu; cases hu
    · injection hu with _ hu; cases hu
  have um : ∀ x, unmark r = (x, false) → r = x := fun x hu => by
    unfold unmark at hu
    split at hu
    · split at hu
      · injection hu with _ hu; cases hu
      · injection hu
    · injection hu
  unfold rowIs at h
  split at h
  · rename_i x hu
    split at h
    · rename_i ha
      split at h
      · rename_i r' hr
        rw [beqA_ok _ _ _ h] at hr
        rw [mk x hu]
        unfold KnownSem
        simp only [if_true]
        exact runCallN_ok T drawE F M hT hX hF hM hd ha hr
      · cases h
    · cases h
  · rename_i x hu
    split at h
    · cases h
    · rename_i hi
      rw [um x hu]
      refine .of_pure (callIs_ok T drawE F M hT hX hF hM hd h) fun y e => ?_
      rw [e] at hi
      cases hi
end top
end
end Go.Abs

namespace Go.Abs
noncomputable section

def isAggV : Value → Bool
  | .agg _ => true
  | _ => false

def infoL (P : Program) (t : TypeId) : Option TypeInfo := nthL P.types.toList t
theorem infoL_some {P : Program} {t : TypeId} {i : TypeInfo} (h : infoL P t = some i) : P.info? t = some i := by
  unfold infoL at h
  rw [nthL_eq, Array.getElem?_toList] at h
  obtain ⟨ht, _⟩ := Array.getElem?_eq_some_iff.1 h
  unfold Tables.info?
  rw [if_pos ht]
  exact h
def undL (P : Program) (t : TypeId) : Option TypeDesc :=
  match infoL P t with
  | none => none
  | some i => match i.desc with
    | .named _ u => (match infoL P u with | some j => some j.desc | none => none)
    | d => some d
theorem undL_some {P : Program} {t : TypeId} {d : TypeDesc} (h : undL P t = some d) : P.underlying t = some d := by
  unfold undL at h
  split at h
  · cases h
  · rename_i i hi
    have h1 := infoL_some hi
    unfold Program.underlying
    rw [h1]
    obtain ⟨dd⟩ := i
    split at h
    · rename_i u hu
      split at h
      · rename_i j hj
        have h2 := infoL_some hj
        simp only at hu; subst hu
        simp only [h2]
        exact h
      · cases h
    · rename_i hne
      simp only at hne
      cases dd <;> first | exact h | exact (hne _ _ rfl).elim

def tiOf (P : Program) (t : TypeId) : Option TI :=
  match undL P t with
  | none => none
  | some d => match infoL P t with
    | none => none
    | some info => match info.zero with
      | none => none
      | some z => match z.cells.size == info.size && z.cells.toList.all one && (isAggV z == isAggD d) with
        | true => some { desc := d, size := info.size, bytes := info.bytes, zero := z.cells.toList.map ofV, cmp := !(P.stoodInHeld t) && !(P.eqGuardType P.depth t) }
        | false => none

theorem tiOf_ok (P : Program) : TabOK P (tiOf P) where
  ok t i h := by
    unfold tiOf at h
    split at h
    · cases h
    · rename_i d hd
      split at h
      · cases h
      · rename_i info hinfo
        split at h
        · cases h
        · rename_i z hz
          split at h
          · rename_i hc
            injection h with h; subst h
            simp only [Bool.and_eq_true, beq_iff_eq, List.all_eq_true] at hc
            obtain ⟨⟨h1, h2⟩, h3⟩ := hc
            refine ⟨undL_some hd, info, infoL_some hinfo, rfl, rfl, z, hz, rfl, h1, h2, fun ha => ?_, fun ha => ?_⟩
            · simp only at ha
              rw [ha] at h3
              cases z <;> simp [isAggV] at h3
              rfl
            · simp only at ha
              rw [ha] at h3
              cases z <;> simp [isAggV] at h3 <;> rfl
          · cases h
  cmp t i h hc := by
    unfold tiOf at h
    split at h
    · cases h
    · split at h
      · cases h
      · split at h
        · cases h
        · split at h
          · injection h with h; subst h
            simpa using hc
          · cases h

def funOf (P : Program) (f : FuncId) : Option Fun :=
  match nthL P.funcs.toList f with
  | none => none
  | some fn => match fn.body with
    | none => none
    | some c => match fn.name == "runtime.NumGoroutine" with
      | true => none
      | false => some { body := c, ntmps := fn.ntmps, results := fn.results.toList }

theorem funOf_ok (P : Program) : FunOK P (funOf P) where
  ok f x h := by
    unfold funOf at h
    rw [nthL_eq, Array.getElem?_toList] at h
    split at h
    · cases h
    · rename_i fn hf
      split at h
      · cases h
      · rename_i c hc
        split at h
        · cases h
        · rename_i hn
          injection h with h; subst h
          exact ⟨fn, hf, hc, hn, rfl, rfl⟩

end
end Go.Abs

namespace Go.Abs
noncomputable section
variable [Gl]

def tabM : List (FuncId × List (List AV × AV)) → FuncId → Option (List AV → Option AV)
  | [], _ => none
  | x :: l, f => match Nat.beq x.1 f with
    | true => some fun args => findM args x.2
    | false => tabM l f

def TabHolds (P : Program) (l : List (FuncId × List (List AV × AV))) : Prop := ∀ x ∈ l, ∀ y ∈ x.2, KnownSem P x.1 y.1 y.2

theorem tabM_ok {P : Program} : ∀ {l : List (FuncId × List (List AV × AV))}, TabHolds P l → MemOK P (tabM l)
  | [], _ => ⟨fun _ _ _ _ h => by cases h⟩
  | x :: l, h => ⟨fun f g args r hf hp hr => by
    unfold tabM at hf
    split at hf
    · rename_i e
      obtain rfl := Nat.eq_of_beq_eq_true e
      injection hf with hf; subst hf
      exact h x List.mem_cons_self _ (findM_ok hr)
    · exact (tabM_ok fun y hy => h y (List.mem_cons_of_mem _ hy)).ok f g args r hf hp hr⟩

def allTrue {α : Type} (p : α → Bool) : List α → Bool
  | [] => true
  | a :: l => match p a with | true => allTrue p l | false => false
omit [Gl] in
theorem allTrue_ok {α : Type} {p : α → Bool} : ∀ {l : List α}, allTrue p l = true → ∀ x ∈ l, p x = true
  | [], _, _, h => by cases h
  | a :: l, h, x, hx => by
    unfold allTrue at h
    split at h
    · rename_i ha
      rcases List.mem_cons.1 hx with rfl | hx
      · exact ha
      · exact allTrue_ok h x hx
    · cases h
end
end Go.Abs
