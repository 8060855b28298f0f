/-
  What a piece of code asks of an abstract state, by its text: whole code.
  Conditions: none.
-/
import Derived.Test.YthbpdiolceabhaaGreatDoorAbsRun
set_option linter.unusedVariables false
set_option linter.unusedSimpArgs false
set_option linter.unusedSectionVars false
namespace Go.Abs
variable [Gl]

/-- The operations of a region, one after the other. -/
def opsL (P : Program) (T : Tab) (ops : Array Oper) (Q : AExit → St → Prop) : List Oper → St → Prop
  | [], st => Q .normal st
  | o :: rest, st =>
    match guardA ops st.tmps o with
    | none => False
    | some false => opsL P T ops Q rest { tmps := aput st.tmps o.dst (.tup []), h := st.h }
    | some true => opW P T st o (fun r h' => opsL P T ops Q rest { tmps := aput st.tmps o.dst r, h := h' })

/-- WHAT CODE ASKS. -/
def wpc (P : Program) (T : Tab) (n m : Nat) (rnd : Option Nat) : Code → St → (AExit → St → Prop) → Prop
  | .skip, st, Q => Q .normal st
  | .label _, st, Q => Q .normal st
  | .region id ops draw, st, Q =>
    match draw with
    | false => opsL P T ops Q ops.toList st
    | true => TodoSem P n m rnd [.code (.region id ops true)] st Q
  | .seq a b, st, Q => wpc P T n m rnd a st (Then (fun s => wpc P T n m rnd b s Q) Q)
  | .cond c a b, st, Q =>
    match st.ev c with
    | .bool t => match t with
      | true => wpc P T n m rnd a st Q
      | false => wpc P T n m rnd b st Q
    | _ => False
  | .block id c, st, Q => wpc P T n m rnd c st (InBlock id Q)
  | .loop c, st, Q => TodoSem P n m rnd [.inLoop c] st Q
  | .exit id, st, Q => Q (.jump (.exit id)) st
  | .goto l, st, Q => Q (.jump (.goto l)) st
  | .ret, st, Q => Q (.jump .ret) st
  | .scope c, st, Q => TodoSem P n m rnd [.code c, .inScope c] st Q
  | .rangeFunc f ps a b, st, Q => TodoSem P n m rnd [.code (.rangeFunc f ps a b)] st Q
  | .refuse _, _, _ => False

section sound
variable {P : Program} {T : Tab} {n m : Nat} {rnd : Option Nat}

theorem opW_noDefer {st : St} {o : Oper} {K : AV → Heap → Prop} (h : opW P T st o K) : ∀ c, o.op ≠ .defer c := by
  intro c hc
  unfold opW at h
  rw [hc] at h
  exact h

theorem ops_sound (hT : TabOK P T) {ops : Array Oper} {Q : AExit → St → Prop} : ∀ (l : List Oper) (k : Nat) (st : St), ops.toList.drop k = l → opsL P T ops Q l st →
    TodoSem P n m rnd [.inRegion ops (List.range' k l.length)] st Q
  | [], k, st, _, h => todo_region_end h
  | o :: l, k, st, hk, h => by
    have hlt : k < ops.toList.length := by
      rcases Nat.lt_or_ge k ops.toList.length with h | h
      · exact h
      · rw [List.drop_eq_nil_of_le h] at hk; cases hk
    rw [List.drop_eq_getElem_cons hlt] at hk
    injection hk with h1 h2
    have ho : ops[k]? = some o := by
      rw [← h1, Array.getElem_toList]
      exact Array.getElem?_eq_getElem (by simpa using hlt)
    rw [List.length_cons, List.range'_succ]
    simp only [opsL] at h
    split at h
    · exact h.elim
    · rename_i hg
      exact todo_op_skip ho hg (ops_sound hT l (k + 1) _ h2 h)
    · rename_i hg
      have hs := opW_sound hT h
      refine todo_op ho hg (opW_noDefer h) ?_
      intro hh
      exact (hs hh).mono fun r h' hq => ops_sound hT l (k + 1) _ h2 hq

theorem wpc_sound (hT : TabOK P T) : ∀ (c : Code) (st : St) (Q : AExit → St → Prop), wpc P T n m rnd c st Q → TodoSem P n m rnd [.code c] st Q := by
  intro c
  induction c with
  | skip => exact fun st Q h => t_skip h
  | label l => exact fun st Q h => t_label h
  | region id ops draw =>
    intro st Q h
    cases draw with
    | true => exact h
    | false =>
      refine t_region ?_
      have := ops_sound (n := n) (m := m) (rnd := rnd) hT ops.toList 0 st rfl h
      rw [Array.length_toList, ← List.range_eq_range'] at this
      exact this
  | seq a b iha ihb =>
    intro st Q h
    refine t_seq ((iha st _ h).mono fun e s hq => ?_)
    cases e with
    | normal => exact ihb s Q hq
    | jump j => exact hq
  | cond c a b iha ihb =>
    intro st Q h
    simp only [wpc] at h
    split at h
    · rename_i t hc
      cases t with
      | true => exact t_cond hc (iha st Q h)
      | false => exact t_cond hc (ihb st Q h)
    · exact h.elim
  | block id c ih => exact fun st Q h => t_block (ih st _ h)
  | loop c ih => exact fun st Q h => t_loop_head h
  | exit id => exact fun st Q h => t_jump _ trivial h
  | goto l => exact fun st Q h => t_jump _ trivial h
  | ret => exact fun st Q h => t_jump _ trivial h
  | scope c ih => exact fun st Q h => t_scope h
  | rangeFunc f ps a b iha ihb => exact fun st Q h => h
  | refuse why => exact fun st Q h => h.elim

def packA : List AV → AV
  | [x] => x
  | l => .tup l

/-- The results of a function, in places of their own or in cells. -/
def resA (T : Tab) (s : St) : List ResultVar → Option (List AV)
  | [] => some []
  | .tmp t :: r =>
    match resA T s r with
    | some l => some (s.tmps.getD t .junk :: l)
    | none => none
  | .cell a t :: r =>
    match loadA T s.h t (s.tmps.getD a .junk), resA T s r with
    | some x, some l => some (x :: l)
    | _, _ => none

theorem load_var (hT : TabOK P T) {E : Env} {w : World} {h : Heap} (hr : HR E w h) {t : TypeId} {x r : AV} {v : Value} (hv : VR E w x v) (hl : Lt h.blks.length h.loops.length x) (hx : loadA T h t x = some r) :
    ∃ a v', v = .pointer (some a) ∧ (loadVar t a).run P w = .ok v' w ∧ VR E w r v' ∧ Lt h.blks.length h.loops.length r := by
  unfold loadA at hx
  split at hx
  · cases hx
  · rename_i ti ht
    split at hx
    · rename_i b i j
      split at hx
      · rename_i rs g fz hb
        obtain ⟨row, hrow, hp⟩ := Option.bind_eq_some_iff.1 hx
        obtain ⟨B, o, rfl, hc⟩ := ptr_row hr hv hb hrow
        obtain ⟨v', hv1, hv2⟩ := part_load hT ht hc hp
        exact ⟨_, v', rfl, hv1, hv2, lt_of_partA hp fun y hy => hr.lt.blks b _ hb row (List.mem_of_getElem? hrow) y hy⟩
      · cases hx
    · rename_i row j
      obtain ⟨B, o, rfl, hc⟩ := vp_row hv
      obtain ⟨v', hv1, hv2⟩ := part_load hT ht hc hx
      refine ⟨_, v', rfl, hv1, hv2, lt_of_partA hx fun y hy => ?_⟩
      cases hl with | vp _ _ hl => obtain ⟨i, hi, rfl⟩ := List.getElem_of_mem hy; exact hl i hi
    · obtain ⟨row, hg, hp⟩ := Option.bind_eq_some_iff.1 hx
      obtain ⟨rfl, hc, hlt⟩ := gp_row hr hv hg
      obtain ⟨v', hv1, hv2⟩ := part_load hT ht hc hp
      exact ⟨_, v', rfl, hv1, hv2, lt_of_partA hp (hlt _ _)⟩
    · cases hx

/-- A result, read. -/
def resV (tmps : Array Value) : ResultVar → Sem Value
  | .tmp t => pure (tmps.getD t undef)
  | .cell a t => do loadVar t (← asAddr (tmps.getD a undef))

theorem res_list (hT : TabOK P T) {s : St} {E : Env} {w : World} {tmps : Array Value} (hs : StR E w s tmps) : ∀ (rs : List ResultVar) (l : List AV), resA T s rs = some l →
    ∃ vs : List Value, (rs.mapM (resV tmps)).run P w = .ok vs w ∧ l.length = vs.length ∧
      (∀ (i : Nat) (hi : i < l.length) (hj : i < vs.length), VR E w l[i] vs[i]) ∧ ∀ x ∈ l, Lt s.h.blks.length s.h.loops.length x
  | [], l, h => by
    simp only [resA, Option.some.injEq] at h
    subst h
    exact ⟨[], by simp, rfl, fun i hi => by simp at hi, fun x hx => by simp at hx⟩
  | .tmp t :: rs, l, h => by
    simp only [resA] at h
    split at h
    · rename_i l' hl'
      injection h with h; subst h
      obtain ⟨vs, h1, h2, h3, h4⟩ := res_list hT hs rs l' hl'
      refine ⟨tmps.getD t undef :: vs, ?_, by simp [h2], fun i hi hj => ?_, fun x hx => ?_⟩
      · simp only [List.mapM_cons, resV, Sem.run_bind, Sem.run_pure, Result.andThen_ok, h1]
      · cases i with
        | zero => exact hs.tmps.getD t
        | succ i => exact h3 i (by simpa using hi) (by simpa using hj)
      · rcases List.mem_cons.1 hx with rfl | hx
        · exact ev_Lt hs.lt (.tmp t)
        · exact h4 x hx
    · cases h
  | .cell a t :: rs, l, h => by
    simp only [resA] at h
    split at h
    · rename_i x l' hx hl'
      injection h with h; subst h
      obtain ⟨vs, h1, h2, h3, h4⟩ := res_list hT hs rs l' hl'
      obtain ⟨ad, v', e1, e2, e3, e4⟩ := load_var (P := P) hT hs.heap (hs.tmps.getD a) (ev_Lt hs.lt (.tmp a)) hx
      refine ⟨v' :: vs, ?_, by simp [h2], fun i hi hj => ?_, fun y hy => ?_⟩
      · simp only [List.mapM_cons, resV, Sem.run_bind, e1, asAddr, Sem.run_pure, Result.andThen_ok, e2, h1]
      · cases i with
        | zero => exact e3
        | succ i => exact h3 i (by simpa using hi) (by simpa using hj)
      · rcases List.mem_cons.1 hy with rfl | hy
        · exact e4
        · exact h4 y hy
    · cases h

theorem res_sound (hT : TabOK P T) {fn : Func} {s : St} {l : List AV} (h : resA T s fn.results.toList = some l) : ResSem P fn s (packA l) := by
  refine ⟨fun E w tmps hs => ?_⟩
  obtain ⟨vs, h1, h2, h3, h4⟩ := res_list (P := P) hT hs _ l h
  have he : results fn tmps = (do let vs ← fn.results.mapM (resV tmps); pure (if h : vs.size = 1 then vs[0] else .tuple vs)) := by
    unfold results
    congr 1
  have hm : (fn.results.mapM (resV tmps)).run P w = .ok vs.toArray w := by
    rw [Array.mapM_eq_mapM_toList]
    simp only [Sem.run_map, h1, Result.andThen_ok]
  have htup : l.length ≠ 1 → VR E w (packA l) (.tuple vs.toArray) ∧ Lt s.h.blks.length s.h.loops.length (packA l) ∧ packA l = .tup l := by
    intro hne
    have e : packA l = .tup l := by
      unfold packA
      split
      · simp at hne
      · rfl
    rw [e]
    exact ⟨.tup _ _ (by simpa using h2) fun i hi hj => by simpa using h3 i hi (by simpa using hj), .tup _ fun i hi => h4 _ (List.getElem_mem hi), rfl⟩
  by_cases hl : l.length = 1
  · obtain ⟨x, rfl⟩ := List.length_eq_one_iff.1 hl
    obtain ⟨v, rfl⟩ := List.length_eq_one_iff.1 (h2 ▸ hl)
    refine ⟨v, ?_, h3 0 (by simp) (by simp), h4 x (by simp)⟩
    simp only [he, Sem.run_bind, hm, Result.andThen_ok]
    simp
  · obtain ⟨a, b, _⟩ := htup hl
    refine ⟨.tuple vs.toArray, ?_, a, b⟩
    simp only [he, Sem.run_bind, hm, Result.andThen_ok]
    have : ¬ vs.toArray.size = 1 := by simpa using h2 ▸ hl
    rw [dif_neg this]
    rfl

/-- What a function's end asks. -/
def endW (T : Tab) (fn : Func) (K : AV → Heap → Prop) : AExit → St → Prop
  | .normal, s => (match resA T s fn.results.toList with | some l => K (packA l) s.h | none => False)
  | .jump .ret, s => (match resA T s fn.results.toList with | some l => K (packA l) s.h | none => False)
  | _, _ => False

/-- A CALL, BY THE FUNCTION'S TEXT. -/
theorem call_text (hT : TabOK P T) {f : FuncId} {fn : Func} {c : Code} {args : List AV} {h : Heap} {K : AV → Heap → Prop} (hf : P.funcs[f]? = some fn) (hb : fn.body = some c) (hn : (fn.name == "runtime.NumGoroutine") = false)
    (g : wpc P T h.blks.length h.loops.length none c { tmps := args ++ List.replicate (fn.ntmps - args.length) .junk, h := h } (endW T fn K)) : CallSem P f args h K := by
  refine call_body hf hb hn ((wpc_sound hT c _ _ g).mono fun e s hq => ?_)
  cases e with
  | normal =>
    simp only [endW] at hq
    split at hq
    · rename_i l hl
      exact ⟨trivial, _, res_sound hT hl, hq⟩
    · exact hq.elim
  | jump j =>
    cases j <;> simp only [endW] at hq <;> first | (exact hq.elim) | skip
    split at hq
    · rename_i l hl
      exact ⟨trivial, _, res_sound hT hl, hq⟩
    · exact hq.elim

end sound
end Go.Abs
