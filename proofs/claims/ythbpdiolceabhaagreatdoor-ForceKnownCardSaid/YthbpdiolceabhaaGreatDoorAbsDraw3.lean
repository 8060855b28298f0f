/-
  A region whose order is drawn: a plan for the order of the text serves every order.
  Conditions: none.
-/
import Derived.Test.YthbpdiolceabhaaGreatDoorAbsDraw2
set_option linter.unusedVariables false
set_option linter.unusedSimpArgs false
set_option linter.unusedSectionVars false
namespace Go.Abs
variable [Gl]

section plan
variable {P : Program} {T : Tab} {ops : Array Oper} {A0 : List AV} {V : Nat → AV} {isW : Nat → Bool} {H : Nat → Heap}

theorem Plan.range (pl : Plan P T ops A0 V isW H) {a : Nat} : ∀ b, a ≤ b → b ≤ ops.size → (∀ w, a ≤ w → w < b → isW w = false) → H b = H a
  | 0, h, _, _ => by obtain rfl : a = 0 := by omega
                     rfl
  | b + 1, h, hb, hw => by
    by_cases hab : a = b + 1
    · rw [hab]
    · rw [pl.same b (by omega) (hw b (by omega) (by omega))]
      exact pl.range b (by omega) (by omega) fun w h1 h2 => hw w h1 (by omega)

omit [Gl] in
theorem guardA_congr {X Y : List AV} {o : Oper} (hxy : ∀ t, t ∈ o.looksAt ops → X[t]? = Y[t]?) : guardA ops X o = guardA ops Y o := by
  unfold guardA
  cases hg : o.guard with
  | none => rfl
  | some gw =>
    obtain ⟨j, want⟩ := gw
    simp only
    cases hd : (ops[j]?).bind (·.dst) with
    | none => simp only
    | some d =>
      have : d ∈ o.looksAt ops := by simp [Oper.looksAt, hg, hd]
      simp only [List.getD_eq_getElem?_getD, hxy d this]

def on (listed : Array Bool) (j : Nat) : Bool := listed.getD j false

omit [Gl] in
theorem on_set {listed : Array Bool} {i j : Nat} (hi : i < listed.size) : on (listed.setIfInBounds i true) j = if j = i then true else on listed j := by
  unfold on
  by_cases h : j = i
  · subst h; simp [Array.getD, hi]
  · rw [if_neg h, getD_set_ne false (Ne.symm h)]

structure Inv (pl : Plan P T ops A0 V isW H) (listed : Array Bool) (s : St) : Prop where
  size : listed.size = ops.size
  closed : ∀ i, on listed i = true → ∀ j, Bef ops j i → on listed j = true
  tmps : s.tmps = tmk ops V A0 (on listed) ops.size
  heap : ∃ p, p ≤ ops.size ∧ s.h = H p ∧ ∀ w, w < ops.size → isW w = true → (on listed w = true ↔ w < p)

variable (pl : Plan P T ops A0 V isW H)

omit [Gl] in
theorem ready_preds {listed : Array Bool} {i : Nat} (hc : ∀ i, on listed i = true → ∀ j, Bef ops j i → on listed j = true) (hr : i ∈ Region.ready .any ops listed) : ∀ j, Bef ops j i → on listed j = true := by
  obtain ⟨_, o, ho, he⟩ := mem_ready.1 hr
  have : ∀ a b, Bef ops a b → b = i → on listed a = true := fun a b hab => by
    induction hab with
    | edge o' e b ho' he' hb =>
      intro hbi
      subst hbi
      rw [ho] at ho'; injection ho' with ho'; subst ho'
      exact he e he' hb
    | trans j k b h1 h2 _ ih2 =>
      intro hbi
      exact hc k (ih2 hbi) j h1
  exact fun j hj => this j i hj rfl

include pl in
theorem inv_step (listed : Array Bool) (st : St) (i : Nat) (hi : Inv pl listed st) (hr : i ∈ Region.ready .any ops listed) : ∃ o, ops[i]? = some o ∧ i < listed.size ∧ listed[i]? = some false ∧
      ((guardA ops st.tmps o = some false ∧ Inv pl (listed.setIfInBounds i true) { tmps := aput st.tmps o.dst (.tup []), h := st.h }) ∨
       (guardA ops st.tmps o = some true ∧ opW P T st o fun r h' => Inv pl (listed.setIfInBounds i true) { tmps := aput st.tmps o.dst r, h := h' })) := by
  have hp := ready_preds hi.closed hr
  obtain ⟨hun, o, ho, _⟩ := mem_ready.1 hr
  have hlt : i < ops.size := (Array.getElem?_eq_some_iff.1 ho).1
  have hls : i < listed.size := by rw [hi.size]; exact hlt
  have hff : listed[i] = false := by simpa [Array.getD, hls] using hun
  have hoff : on listed i = false := by simp [on, Array.getD, hls, hff]
  refine ⟨o, ho, hls, by rw [Array.getElem?_eq_getElem hls, hff], ?_⟩
  have hdo : dstOf ops i = o.dst := by simp [dstOf, ho]
  have names : ∀ t, (t ∈ o.looksAt ops ∨ o.dst = some t) → ∀ j, j < ops.size → dstOf ops j = some t → j ≠ i → (on listed j = true ∧ j < i) ∨ (on listed j = false ∧ i < j) := fun t ht j hj hd hne => by
    have hoj : ops[j]? = some ops[j] := Array.getElem?_eq_getElem hj
    have hdj : ops[j].dst = some t := by simpa [dstOf, hoj] using hd
    rcases pl.apart j i ops[j] o t hoj ho hne hdj ht with h | h
    · exact .inl ⟨hp j h, pl.back j i h⟩
    · refine .inr ⟨?_, pl.back i j h⟩
      cases hon : on listed j with
      | false => rfl
      | true => rw [hi.closed j hon i h] at hoff; cases hoff
  have agree : ∀ t, (t ∈ o.looksAt ops ∨ o.dst = some t) → st.tmps[t]? = (XT ops V A0 i)[t]? := fun t ht => by
    have e1 : (tmk ops V A0 (fun j => decide (j < i)) ops.size) = XT ops V A0 i := by
      rw [tmk_stop (fun j => decide (j < i)) i (fun j hj => by simp; omega) ops.size (by omega)]
      exact tmk_all _ i (fun j hj => by simpa using hj) i (Nat.le_refl _)
    rw [hi.tmps, ← e1]
    refine tmk_agree ops.size fun j hj hd => ?_
    by_cases hji : j = i
    · subst hji; rw [hoff]; simp
    · rcases names t ht j hj hd hji with ⟨h1, h2⟩ | ⟨h1, h2⟩
      · rw [h1]; simp [h2]
      · rw [h1]; simp; omega
  have hlook : ∀ t, t ∈ o.looksAt ops → st.tmps[t]? = (XT ops V A0 i)[t]? := fun t ht => agree t (.inl ht)
  have hg := guardA_congr hlook
  have newt : aput st.tmps o.dst (V i) = tmk ops V A0 (on (listed.setIfInBounds i true)) ops.size := by
    apply List.ext_getElem?
    intro t
    rw [aput_get, hi.tmps]
    by_cases hd : o.dst = some t
    · rw [if_pos hd, tmk_length]
      refine (tmk_last (by rw [on_set hls, if_pos rfl]) (by rw [hdo]; exact hd) ops.size hlt fun j h1 h2 h3 => ?_).symm
      rw [on_set hls, if_neg (by omega)]
      rcases names t (.inr hd) j h2 h3 (by omega) with ⟨_, h⟩ | ⟨h, _⟩
      · omega
      · exact h
    · rw [if_neg hd]
      refine tmk_agree ops.size fun j hj hdj => ?_
      rw [on_set hls, if_neg]
      intro hji
      subst hji
      rw [hdo] at hdj
      exact hd hdj
  have newc : ∀ k, on (listed.setIfInBounds i true) k = true → ∀ j, Bef ops j k → on (listed.setIfInBounds i true) j = true := fun k hk j hj => by
    rw [on_set hls]
    split
    · rfl
    · rw [on_set hls] at hk
      split at hk
      · rename_i hki; rw [hki] at hj; exact hp j hj
      · exact hi.closed k hk j hj
  have news : (listed.setIfInBounds i true).size = ops.size := by simpa using hi.size
  obtain ⟨p, hpn, hh, hpw⟩ := hi.heap
  -- a step that is no writer's
  have quiet : isW i = false → Inv pl (listed.setIfInBounds i true) { tmps := aput st.tmps o.dst (V i), h := H p } := fun hw =>
    ⟨news, newc, newt, p, hpn, rfl, fun w hwn hww => by
      rw [on_set hls, if_neg (fun e => by rw [e, hw] at hww; cases hww)]
      exact hpw w hwn hww⟩
  rcases pl.ok i o ho with ⟨g1, g2, g3⟩ | ⟨g1, g2, g3⟩ | ⟨g1, g2, g3⟩
  · refine .inl ⟨hg.trans g1, ?_⟩
    rw [← g2, hh]
    exact quiet g3
  · refine .inr ⟨hg.trans g1, ?_⟩
    have hpi : p ≤ i := by
      rcases Nat.lt_or_ge i p with h | h
      · rw [(hpw i hlt g2).2 h] at hoff; cases hoff
      · exact h
    have hHp : H i = H p := pl.range i hpi (by omega) fun w h1 h2 => by
      cases hw : isW w with
      | false => rfl
      | true =>
        have := (hpw w (by omega) hw).1 (hp w (pl.total w i h2 hlt hw g2))
        omega
    obtain ⟨tm, hs⟩ := st
    simp only at hh; subst hh
    rw [← hHp]
    refine opW_congr (fun t ht => (hlook t ht).symm) (g3 _ ⟨news, newc, newt, i + 1, by omega, rfl, fun w hwn hww => ?_⟩)
    rw [on_set hls]
    split
    · rename_i hwi; constructor <;> intro <;> first | omega | trivial
    · rename_i hwi
      rcases Nat.lt_or_ge w i with h | h
      · have := hp w (pl.total w i h hlt hww g2)
        rw [this]; constructor <;> intro <;> first | omega | trivial
      · have hiw := pl.total i w (by omega) hwn g2 hww
        have : on listed w = false := by
          cases hon : on listed w with
          | false => rfl
          | true => rw [hi.closed w hon i hiw] at hoff; cases hoff
        rw [this]
        constructor
        · intro h; cases h
        · intro h; omega
  · refine .inr ⟨hg.trans g1, ?_⟩
    obtain ⟨tm, hs⟩ := st
    simp only at hh; subst hh
    refine opW_congr (fun t ht => (hlook t ht).symm) (g3 p hpn (fun w hww hwp hb => ?_) (fun w hww hwn hpw' hb => ?_) _ (quiet g2))
    · have hwn : w < ops.size := by omega
      have := hi.closed w ((hpw w hwn hww).2 hwp) i hb
      rw [this] at hoff; cases hoff
    · have := (hpw w hwn hww).1 (hp w hb)
      omega

include pl in
theorem all_listed {listed : Array Bool} (hi : listed.size = ops.size) (hr : Region.ready .any ops listed = []) : ∀ i, i < ops.size → on listed i = true := by
  intro i
  induction i using Nat.strongRecOn with
  | ind i ih =>
    intro hlt
    cases hon : on listed i with
    | true => rfl
    | false =>
      exfalso
      have hls : i < listed.size := by omega
      have : i ∈ Region.ready .any ops listed := by
        refine mem_ready.2 ⟨by simpa [on, Array.getD, hls] using hon, ops[i], Array.getElem?_eq_getElem hlt, fun e he hb => ?_⟩
        have hlt' := pl.back e.on i (.edge ops[i] e i (Array.getElem?_eq_getElem hlt) he hb)
        exact ih e.on hlt' (by omega)
      rw [hr] at this
      cases this

include pl in
theorem plan_sound (hT : TabOK P T) (hm : P.follows .mixedOrders = true) {n m : Nat} {rnd : Option Nat} {id : Nat} {h0 : Heap} {Q : AExit → St → Prop} (hh : H 0 = h0) (hq : Q .normal ⟨XT ops V A0 ops.size, H ops.size⟩) :
    TodoSem P n m rnd [.code (.region id ops true)] ⟨A0, h0⟩ Q := by
  refine t_region_draw hm fun t => any_orders hT (Inv pl) (fun listed st i => inv_step pl listed st i) (fun listed st hi hr => ?_) (fun listed st hi hl => ?_) ops.size t (Array.replicate ops.size false) _ ?_ ?_
  · have hall := all_listed pl hi.size hr
    obtain ⟨p, hp, h1, h2⟩ := hi.heap
    have e1 : st.tmps = XT ops V A0 ops.size := by
      rw [hi.tmps]
      exact tmk_all _ ops.size hall ops.size (Nat.le_refl _)
    have e2 : st.h = H ops.size := by
      rw [h1]
      refine (pl.range ops.size hp (Nat.le_refl _) fun w h3 h4 => ?_).symm
      cases hw : isW w with
      | false => rfl
      | true => have := (h2 w h4 hw).1 (hall w h4); omega
    obtain ⟨tm, hs⟩ := st
    simp only at e1 e2
    rw [e1, e2]; exact hq
  · cases hr : Region.ready .any ops listed with
    | nil => rfl
    | cons i r =>
      exfalso
      have hi' : i ∈ Region.ready .any ops listed := by rw [hr]; exact List.mem_cons_self
      obtain ⟨hun, o, ho, _⟩ := mem_ready.1 hi'
      have hlt : i < listed.size := by rw [hi.size]; exact (Array.getElem?_eq_some_iff.1 ho).1
      have hff : listed[i] = false := by simpa [Array.getD, hlt] using hun
      have := left_set hlt hff
      omega
  · refine ⟨by simp, fun i hi => ?_, ?_, 0, Nat.zero_le _, hh.symm, fun w hw _ => ?_⟩
    · simp [on, Array.getD] at hi
    · show A0 = _
      rw [tmk_stop _ 0 (fun j _ => by simp [on, Array.getD]) ops.size (Nat.zero_le _)]
      rfl
    · simp [on, Array.getD]
  · simp [left, Array.toList_replicate]
end plan
end Go.Abs
