/-
  A region whose order is drawn: where every order that its edges allow comes to the same, the order of the text may stand for all.
  Conditions: none.
-/
import Derived.Test.YthbpdiolceabhaaGreatDoorAbsWp
import Derived.Orders
set_option linter.unusedVariables false
set_option linter.unusedSimpArgs false
set_option linter.unusedSectionVars false
namespace Go.Abs
variable [Gl]

section draw
variable {P : Program} {T : Tab} {n m : Nat} {rnd : Option Nat} {ops : Array Oper} {Q : AExit → St → Prop}

omit [Gl] in
theorem drew_grows (w : World) : Grows w { w with drawn := w.drawn + 1 } := ⟨Nat.le_refl _, rfl, rfl, rfl, fun _ _ => rfl⟩

theorem t_region_draw {id : Nat} {st : St} (hm : P.follows .mixedOrders = true) (h : ∀ t, TodoSem P n m rnd [.inRegion ops (Region.linearise .any ops t)] st Q) : TodoSem P n m rnd [.code (.region id ops true)] st Q :=
  ⟨fun b E w tmps ds base h1 h2 hb h3 h4 h5 k cs => by
    obtain ⟨x1, x2⟩ := (drew_grows w).ext h1.heap n m
    obtain ⟨x3, _⟩ := (drew_grows w).ext h1.heap st.h.blks.length st.h.loops.length
    have hs : StR E { w with drawn := w.drawn + 1 } st tmps := ⟨x2, h1.tmps.keep x3.keeps h1.lt, h1.lt⟩
    obtain ⟨e, st', E', w', tmps', ds', q, r1, r2, r3, r4, r5, r6⟩ := (h (w.tape w.drawn (.order b.fn id))).run b E _ tmps ds base hs (h2.ext x1) hb (h3.ext x1) h4 h5 k cs
    refine ⟨e, st', E', w', tmps', ds', q, r1, r2, x1.trans (Nat.le_refl _) (Nat.le_refl _) r3, r4, r5, .of_steps (.one ?_) r6⟩
    have := stepR_region_draw (P := P) (b := b) (a := ⟨tmps, ds⟩) (k := k) (cs := cs) (w := w) (ops := ops) (id := id)
    rw [hm] at this
    simp only [Region.schedule, Bool.true_or, if_true] at this
    exact this⟩

/-- How many places are not yet listed. -/
def left (listed : Array Bool) : Nat := (listed.toList.filter fun b => !b).length

omit [Gl] in
theorem left_set {listed : Array Bool} {i : Nat} (hi : i < listed.size) (h : listed[i] = false) : left (listed.setIfInBounds i true) + 1 = left listed := by
  unfold left
  rw [Array.toList_setIfInBounds]
  have hl : i < listed.toList.length := by simpa using hi
  have hv : listed.toList[i] = false := by simpa using h
  generalize listed.toList = l at hl hv
  clear h hi
  induction l generalizing i with
  | nil => simp at hl
  | cons a l ih =>
    cases i with
    | zero =>
      simp only [List.getElem_cons_zero] at hv
      subst hv
      simp
    | succ i =>
      simp only [List.getElem_cons_succ] at hv
      have := ih (i := i) (by simpa using hl) hv
      simp only [List.set_cons_succ, List.filter_cons]
      split <;> simp_all <;> omega

/-- EVERY ORDER: a property that each step keeps. -/
theorem any_orders (hT : TabOK P T) (Inv : Array Bool → St → Prop)
    (hstep : ∀ listed st i, Inv listed st → i ∈ Region.ready .any ops listed → ∃ o, ops[i]? = some o ∧ i < listed.size ∧ listed[i]? = some false ∧
      ((guardA ops st.tmps o = some false ∧ Inv (listed.setIfInBounds i true) { tmps := aput st.tmps o.dst (.tup []), h := st.h }) ∨
       (guardA ops st.tmps o = some true ∧ opW P T st o fun r h' => Inv (listed.setIfInBounds i true) { tmps := aput st.tmps o.dst r, h := h' })))
    (hend : ∀ listed st, Inv listed st → Region.ready .any ops listed = [] → Q .normal st)
    (hzero : ∀ listed st, Inv listed st → left listed = 0 → Region.ready .any ops listed = []) :
    ∀ (fuel t : Nat) (listed : Array Bool) (st : St), Inv listed st → left listed = fuel → TodoSem P n m rnd [.inRegion ops (Region.linearise.go .any ops fuel t listed [])] st Q := by
  intro fuel
  induction fuel with
  | zero =>
    intro t listed st hi hl
    simp only [Region.linearise.go, List.reverse_nil]
    exact todo_region_end (hend listed st hi (hzero listed st hi hl))
  | succ fuel ih =>
    intro t listed st hi hl
    simp only [Region.linearise.go]
    change TodoSem P n m rnd [.inRegion ops (match (Region.ready .any ops listed)[t % (Region.ready .any ops listed).length]? with
      | some i => Region.linearise.go .any ops fuel (t / (Region.ready .any ops listed).length) (listed.setIfInBounds i true) [i]
      | none => [].reverse)] st Q
    cases hr : (Region.ready .any ops listed)[t % (Region.ready .any ops listed).length]? with
    | none =>
      have hnil : Region.ready .any ops listed = [] := by
        cases hr' : Region.ready .any ops listed with
        | nil => rfl
        | cons x xs =>
          rw [hr'] at hr
          have hlt : t % (x :: xs).length < (x :: xs).length := Nat.mod_lt _ (by simp)
          rw [List.getElem?_eq_getElem hlt] at hr
          cases hr
      exact todo_region_end (hend listed st hi hnil)
    | some i =>
      simp only []
      rw [linearise_go_acc, List.reverse_singleton, List.singleton_append]
      obtain ⟨o, ho, hlt, hf, hcase⟩ := hstep listed st i hi (List.mem_of_getElem? hr)
      have hset : left (listed.setIfInBounds i true) = fuel := by
        have := left_set hlt (by rw [Array.getElem?_eq_getElem hlt] at hf; injection hf)
        omega
      rcases hcase with ⟨hg, hinv⟩ | ⟨hg, hop⟩
      · exact todo_op_skip ho hg (ih _ _ _ hinv hset)
      · refine todo_op ho hg (opW_noDefer hop) fun hh => (opW_sound hT hop hh).mono fun r h' hinv => ih _ _ _ hinv hset

end draw
end Go.Abs
