/-
  Steps to a law of this program: AbsLimb, AbsPerm, AbsRen, AbsSim, AbsDraw5.
  Conditions: none.
-/
import Derived.Test.YtpdnijifmebnbaaGreatDoorB18
import Derived.Test.YtpdnijifmebnbaaGreatDoorB4
import Derived.Test.YtpdnijifmebnbaaGreatDoorB17
set_option linter.unusedVariables false
set_option linter.unusedSimpArgs false
set_option linter.unusedSectionVars false
namespace Go.Abs
noncomputable section

def val : List Nat → Nat
  | [] => 0
  | x :: l => x + 1000000000 * val l













def encF : Nat → Nat → List Nat
  | 0, _ => []
  | f + 1, n => if n = 0 then [] else n % 1000000000 :: encF f (n / 1000000000)
def enc (n : Nat) : List Nat := encF (n + 1) n



theorem pure1 {x : AV} (h : Pure x) : ∀ y ∈ [x], Pure y := by intro y hy; simp at hy; subst hy; exact h
theorem pure2 {x y : AV} (h : Pure x) (h' : Pure y) : ∀ z ∈ [x, y], Pure z := by intro z hz; simp at hz; rcases hz with rfl | rfl <;> assumption

def limbsV (l : List Nat) : List (List AV) := l.map fun (n : Nat) => [AV.int .u32 (n : Int)]

inductive MagV (l : List Nat) : AV → Prop where
  | nils (h : l = []) : MagV l .nils
  | vs (c : Option Nat) : MagV l (.vs (limbsV l) c)
theorem pure_limbs (l : List Nat) (c : Option Nat) : Pure (.vs (limbsV l) c) := by
  refine .vs _ _ fun i hi j hj => ?_
  simp [limbsV] at hi hj ⊢
  exact .int _ _
theorem MagV.pure {l : List Nat} {x : AV} (h : MagV l x) : Pure x := by
  cases h with
  | nils => exact .nils
  | vs c => exact pure_limbs l c
theorem pure_agg2 {x y : AV} (h : Pure x) (h' : Pure y) : Pure (.agg [x, y]) := .agg _ fun i hi => by
  match i, hi with
  | 0, _ => exact h
  | 1, _ => exact h'




























def WholeV (z : Int) (x : AV) : Prop := ∃ X, MagV (enc z.natAbs) X ∧ x = .agg [.bool (decide (z < 0)), X]
theorem WholeV.pure {z : Int} {x : AV} (h : WholeV z x) : Pure x := by
  obtain ⟨X, h, rfl⟩ := h
  exact pure_agg2 (.bool _) h.pure


/-! ### Products -/










/-! ### Division by one limb -/






/-! ### Products with one limb -/

/-! ### A multiple is taken away, in place -/


/-! ### A magnitude is added, in place -/
end
end Go.Abs

namespace Go.Abs
noncomputable section
variable [Gl]

section perm
variable {P : Program} {T : Tab} {n m : Nat} {rnd : Option Nat} {ops : Array Oper} {Q : AExit → St → Prop}

def KeepX (ops : Array Oper) (X : List (Nat × Nat)) : Nat → Nat → Array Bool → Prop
  | 0, _, _ => True
  | fuel + 1, t, listed => match (Region.ready .any ops listed)[t % (Region.ready .any ops listed).length]? with
    | none => True
    | some i => (∀ p ∈ X, p.2 = i → on listed p.1 = true) ∧ KeepX ops X fuel (t / (Region.ready .any ops listed).length) (listed.setIfInBounds i true)

omit [Gl] in
theorem on_mono {listed : Array Bool} {i j : Nat} (h : on listed j = true) : on (listed.setIfInBounds i true) j = true := by
  by_cases hi : i < listed.size
  · rw [on_set hi]; split
    · rfl
    · exact h
  · rw [Array.setIfInBounds, dif_neg hi]; exact h
omit [Gl] in
theorem keep_on {a b : Nat} : ∀ (fuel t : Nat) (listed : Array Bool), on listed a = true → KeepX ops [(a, b)] fuel t listed
  | 0, _, _, _ => True.intro
  | fuel + 1, t, listed, h => by
    unfold KeepX
    split
    · trivial
    · exact ⟨fun p hp _ => by simp at hp; subst hp; exact h, keep_on fuel _ _ (on_mono h)⟩
omit [Gl] in
theorem ready_size {i : Nat} {listed : Array Bool} (hi : i ∈ Region.ready .any ops listed) : i < listed.size := by
  have h := (mem_ready.1 hi).1
  rcases Nat.lt_or_ge i listed.size with h1 | h1
  · exact h1
  · simp [Array.getD, Nat.not_lt.2 h1] at h
omit [Gl] in
theorem keep_split {a b : Nat} (hab : a ≠ b) : ∀ (fuel t : Nat) (listed : Array Bool), KeepX ops [(a, b)] fuel t listed ∨ KeepX ops [(b, a)] fuel t listed
  | 0, _, _ => .inl True.intro
  | fuel + 1, t, listed => by
    unfold KeepX
    split
    · exact .inl True.intro
    · rename_i i hi
      have hs := ready_size (List.mem_of_getElem? hi)
      by_cases ha : i = a
      · refine .inl ⟨fun p hp h => ?_, keep_on fuel _ _ (by rw [on_set hs, if_pos ha.symm])⟩
        simp at hp; subst hp
        exact absurd (h.trans ha).symm hab
      · by_cases hb : i = b
        · refine .inr ⟨fun p hp h => ?_, keep_on fuel _ _ (by rw [on_set hs, if_pos hb.symm])⟩
          simp at hp; subst hp
          exact absurd (h.trans hb) hab
        · rcases keep_split hab fuel (t / (Region.ready .any ops listed).length) (listed.setIfInBounds i true) with h | h
          · refine .inl ⟨fun p hp h => ?_, h⟩
            simp at hp; subst hp
            exact absurd h.symm hb
          · refine .inr ⟨fun p hp h => ?_, h⟩
            simp at hp; subst hp
            exact absurd h.symm ha

theorem orders_keep (hT : TabOK P T) (X : List (Nat × Nat)) (Inv : Array Bool → St → Prop)
    (hstep : ∀ listed st i, Inv listed st → i ∈ Region.ready .any ops listed → (∀ p ∈ X, p.2 = i → on listed p.1 = true) → ∃ o, ops[i]? = some o ∧ i < listed.size ∧ listed[i]? = some false ∧
      ((guardA ops st.tmps o = some false ∧ Inv (listed.setIfInBounds i true) { tmps := aput st.tmps o.dst (.tup []), h := st.h }) ∨
       (guardA ops st.tmps o = some true ∧ opW P T st o fun r h' => Inv (listed.setIfInBounds i true) { tmps := aput st.tmps o.dst r, h := h' })))
    (hend : ∀ listed st, Inv listed st → Region.ready .any ops listed = [] → Q .normal st)
    (hzero : ∀ listed st, Inv listed st → left listed = 0 → Region.ready .any ops listed = []) :
    ∀ (fuel t : Nat) (listed : Array Bool) (st : St), Inv listed st → left listed = fuel → KeepX ops X fuel t listed → TodoSem P n m rnd [.inRegion ops (Region.linearise.go .any ops fuel t listed [])] st Q := by
  intro fuel
  induction fuel with
  | zero =>
    intro t listed st hi hl _
    simp only [Region.linearise.go, List.reverse_nil]
    exact todo_region_end (hend listed st hi (hzero listed st hi hl))
  | succ fuel ih =>
    intro t listed st hi hl hk
    unfold KeepX at hk
    simp only [Region.linearise.go]
    change TodoSem P n m rnd [.inRegion ops (match (Region.ready .any ops listed)[t % (Region.ready .any ops listed).length]? with
      | some i => Region.linearise.go .any ops fuel (t / (Region.ready .any ops listed).length) (listed.setIfInBounds i true) [i]
      | none => [].reverse)] st Q
    cases hr : (Region.ready .any ops listed)[t % (Region.ready .any ops listed).length]? with
    | none =>
      have hnil : Region.ready .any ops listed = [] := by
        cases hr' : Region.ready .any ops listed with
        | nil => rfl
        | cons x xs =>
          rw [hr'] at hr
          have hlt : t % (x :: xs).length < (x :: xs).length := Nat.mod_lt _ (by simp)
          rw [List.getElem?_eq_getElem hlt] at hr
          cases hr
      exact todo_region_end (hend listed st hi hnil)
    | some i =>
      simp only []
      rw [hr] at hk
      simp only [] at hk
      rw [linearise_go_acc, List.reverse_singleton, List.singleton_append]
      obtain ⟨o, ho, hlt, hf, hcase⟩ := hstep listed st i hi (List.mem_of_getElem? hr) hk.1
      have hset : left (listed.setIfInBounds i true) = fuel := by
        have := left_set hlt (by rw [Array.getElem?_eq_getElem hlt] at hf; injection hf)
        omega
      rcases hcase with ⟨hg, hinv⟩ | ⟨hg, hop⟩
      · exact todo_op_skip ho hg (ih _ _ _ hinv hset hk.2)
      · refine todo_op ho hg (opW_noDefer hop) fun hh => (opW_sound hT hop hh).mono fun r h' hinv => ih _ _ _ hinv hset hk.2




theorem opW_after {o : Oper} {a : Array Edge} {g : Option (Nat × Bool)} {st : St} {K : AV → Heap → Prop} : opW P T st { o with after := a, guard := g } K → opW P T st o K := fun h => by
  cases o; exact h

theorem plan_zero {t : Nat} {ops : Array Oper} {A0 : List AV} {H : Nat → Heap} {h : Heap} (h0 : H 0 = h) (g : TodoSem P n m rnd [.inRegion ops (Region.linearise .any ops t)] ⟨A0, H 0⟩ Q) : TodoSem P n m rnd [.inRegion ops (Region.linearise .any ops t)] ⟨A0, h⟩ Q := h0 ▸ g


variable [Bare] [FH]
end perm
end
end Go.Abs

namespace Go.Abs
noncomputable section
variable [Gl]

inductive RenF (σ : Nat → Nat) (N : Nat) : AV → AV → Prop where
  | junk (y : AV) : RenF σ N .junk y
  | same (x : AV) (M : Nat) (h : Lt N M x) : RenF σ N x x
  | agg (cs ds : List AV) (hl : cs.length = ds.length) (hh : ∀ (i : Nat) (hi : i < cs.length) (hj : i < ds.length), RenF σ N cs[i] ds[i]) : RenF σ N (.agg cs) (.agg ds)
  | tup (cs ds : List AV) (hl : cs.length = ds.length) (hh : ∀ (i : Nat) (hi : i < cs.length) (hj : i < ds.length), RenF σ N cs[i] ds[i]) : RenF σ N (.tup cs) (.tup ds)
  | ptr (b i j : Nat) : RenF σ N (.ptr b i j) (.ptr (σ b) i j)
  | ms (b i l : Nat) (c : Option Nat) : RenF σ N (.ms b i l c) (.ms (σ b) i l c)
  | mp (b : Nat) : RenF σ N (.mp b) (.mp (σ b))

def Env.turn (E : Env) (σ : Nat → Nat) : Env := { F := E.F, ρ := fun b => E.ρ (σ b), lam := E.lam }

structure PermN (σ τ : Nat → Nat) (N : Nat) : Prop where
  st : ∀ b, σ (τ b) = b
  ts : ∀ b, τ (σ b) = b
  fix : ∀ b, b < N → σ b = b

omit [Gl] in
theorem turn_keeps {σ τ : Nat → Nat} {N : Nat} (hp : PermN σ τ N) (E : Env) (w : World) (M : Nat) : Keeps N M E w (E.turn σ) w :=
  ⟨fun B o v h1 h2 => ⟨h1, h2⟩, fun b hb Ls' h => ⟨Ls', by rw [← h]; show E.ρ b = E.ρ (σ b); rw [hp.fix b hb], fun L hL => ⟨L, hL, rfl, rfl, rfl, rfl, Nat.le_refl _⟩⟩, fun l _ o h => h⟩

omit [Gl] in
theorem RenF.VR {σ τ : Nat → Nat} {N : Nat} (hp : PermN σ τ N) {E : Env} {w : World} {x y : AV} (h : RenF σ N x y) : ∀ v, Abs.VR E w y v → Abs.VR (E.turn σ) w x v := by
  induction h with
  | junk y => exact fun v _ => .junk v
  | same x M h => exact fun v hv => hv.keep (turn_keeps hp E w M) h
  | agg cs ds hl hh ih => intro v hv; cases hv with | agg _ vs hs hv => exact .agg _ vs (by omega) fun i hi hj => ih i hi (by omega) _ (hv i (by omega) hj)
  | tup cs ds hl hh ih => intro v hv; cases hv with | tup _ vs hs hv => exact .tup _ vs (by omega) fun i hi hj => ih i hi (by omega) _ (hv i (by omega) hj)
  | ptr b i j => intro v hv; cases hv with | ptr _ _ _ a hv => exact .ptr _ _ _ a hv
  | ms b i l c => intro v hv; cases hv with | ms _ _ _ _ a l c hv => exact .ms _ _ _ _ a l c hv
  | mp b => intro v hv; cases hv with | mp _ r hv => exact .mp _ r hv

omit [Gl] in
theorem RenF.lt {σ : Nat → Nat} {N L M : Nat} (hσ : ∀ b, σ b < L → b < L) {x y : AV} (h : RenF σ N x y) : Lt L M y → Lt L M x := by
  induction h with
  | junk y => exact fun _ => .junk
  | same x M' h => exact fun h => h
  | agg cs ds hl hh ih => intro hx; cases hx with | agg _ hx => exact .agg _ fun i hi => ih i hi (by omega) (hx i (by omega))
  | tup cs ds hl hh ih => intro hx; cases hx with | tup _ hx => exact .tup _ fun i hi => ih i hi (by omega) (hx i (by omega))
  | ptr b i j => intro hx; cases hx with | ptr _ _ _ hx => exact .ptr _ _ _ (hσ b hx)
  | ms b i l c => intro hx; cases hx with | ms _ _ _ _ hx => exact .ms _ _ _ _ (hσ b hx)
  | mp b => intro hx; cases hx with | mp _ hx => exact .mp _ (hσ b hx)

inductive BRenF (σ : Nat → Nat) (N : Nat) : Option Blk → Option Blk → Prop where
  | dead : BRenF σ N none none
  | same (x : Blk) (M : Nat) (h : x.Lt N M) : BRenF σ N (some x) (some x)
  | rows (rs rs' : List (List AV)) (g fz : Bool) (hl : rs.length = rs'.length) (hl' : ∀ (i : Nat) (hi : i < rs.length) (hj : i < rs'.length), rs[i].length = rs'[i].length)
      (hh : ∀ (i : Nat) (hi : i < rs.length) (hj : i < rs'.length) (j : Nat) (h1 : j < rs[i].length) (h2 : j < rs'[i].length), RenF σ N rs[i][j] rs'[i][j]) : BRenF σ N (some (.rows rs g fz)) (some (.rows rs' g fz))

structure RenSt (σ τ : Nat → Nat) (N : Nat) (s0 s : St) : Prop where
  perm : PermN σ τ N
  len : s0.h.blks.length = s.h.blks.length
  low : N ≤ s.h.blks.length
  into : ∀ b, σ b < s.h.blks.length → b < s.h.blks.length
  blks : ∀ b, BRenF σ N (s0.h.blk? b) (s.h.blk? (σ b))
  loops : s0.h.loops = s.h.loops
  ltl : ∀ l r, s.h.loop? l = some r → ∃ M, ∀ x ∈ r.tmps, Lt N M x
  tlen : s0.tmps.length = s.tmps.length
  tmps : ∀ (i : Nat) (hi : i < s0.tmps.length) (hj : i < s.tmps.length), RenF σ N s0.tmps[i] s.tmps[i]

omit [Gl] in
theorem turn_foot {σ τ : Nat → Nat} {N : Nat} (hp : PermN σ τ N) {E : Env} {B : Nat} : foot (E.turn σ) B ↔ foot E B := by
  constructor
  · rintro (⟨b, Ls, L, h1, h2, h3⟩ | ⟨l, h⟩)
    · exact .inl ⟨σ b, Ls, L, h1, h2, h3⟩
    · exact .inr ⟨l, h⟩
  · rintro (⟨b, Ls, L, h1, h2, h3⟩ | ⟨l, h⟩)
    · exact .inl ⟨τ b, Ls, L, by show E.ρ (σ (τ b)) = _; rw [hp.st]; exact h1, h2, h3⟩
    · exact .inr ⟨l, h⟩

theorem RowsAt.turn {σ τ : Nat → Nat} {N : Nat} (hp : PermN σ τ N) {E : Env} {w : World} {Ls : List Loc} {rs rs' : List (List AV)} {g fz : Bool}
    (hl : rs.length = rs'.length) (hl' : ∀ (i : Nat) (hi : i < rs.length) (hj : i < rs'.length), rs[i].length = rs'[i].length)
    (hh : ∀ (i : Nat) (hi : i < rs.length) (hj : i < rs'.length) (j : Nat) (h1 : j < rs[i].length) (h2 : j < rs'[i].length), RenF σ N rs[i][j] rs'[i][j])
    (h : RowsAt E w Ls rs' g fz) : RowsAt (E.turn σ) w Ls rs g fz := by
  refine ⟨h.one, ?_, fun L hL => ?_, h.apart⟩
  · obtain ⟨L, h1, h2⟩ := h.now; exact ⟨L, h1, by omega⟩
  · have la := h.all L hL
    obtain ⟨arr, el, a1, a2, a3⟩ := la.lies
    refine ⟨⟨arr, el, a1, a2, fun i hi hi' j hj => ?_⟩, by have := la.len; omega, la.fits, fun i hi => by rw [hl' i hi (by omega)]; exact la.sz i (by omega), la.own, la.free⟩
    obtain ⟨v, b1, b2, b3⟩ := a3 i (by omega) hi' j (by rw [← hl' i hi (by omega)]; exact hj)
    exact ⟨v, b1, (hh i hi (by omega) j hj _).VR hp v b2, b3⟩

theorem turn_StR {σ τ : Nat → Nat} {N : Nat} {s0 s : St} (hr : RenSt σ τ N s0 s) {E : Env} {w : World} {tmps : Array Value} (h : StR E w s tmps) : StR (E.turn σ) w s0 tmps := by
  have hp := hr.perm
  have hh := h.heap
  have hloop : ∀ l, s0.h.loop? l = s.h.loop? l := fun l => by unfold Heap.loop?; rw [hr.loops]
  have hll : s0.h.loops.length = s.h.loops.length := by rw [hr.loops]
  refine ⟨⟨fun b hb => ?_, fun b rs g fz hb => ?_, fun b es hb => ?_, fun b b' Ls Ls' L L' hne h2 h3 => ?_, fun l hl => ?_, fun l r hl => ?_, hh.lapart, ⟨fun b x hb => ?_, fun l r hl x hx => ?_⟩, hh.inside, ⟨fun g row hg => ?_⟩⟩, ⟨by rw [hr.tlen]; exact h.tmps.size, fun i hi hj => ?_⟩, fun x hx => ?_⟩
  · have hb' := hr.blks b
    rw [hb] at hb'
    generalize hx : s.h.blk? (σ b) = y at hb'
    cases hb'
    exact hh.dead _ hx
  · have hb' := hr.blks b
    rw [hb] at hb'
    generalize hx : s.h.blk? (σ b) = y at hb'
    cases hb' with
    | same _ M hlt =>
      obtain ⟨Ls, a1, a2⟩ := hh.rows _ _ _ _ hx
      exact ⟨Ls, a1, a2.turn hp rfl (fun _ _ _ => rfl) fun i hi hj j h1 h2 => .same _ M (hlt _ (List.getElem_mem _) _ (List.getElem_mem _))⟩
    | rows _ rs' _ _ e1 e2 e3 =>
      obtain ⟨Ls, a1, a2⟩ := hh.rows _ _ _ _ hx
      exact ⟨Ls, a1, a2.turn hp e1 e2 e3⟩
  · have hb' := hr.blks b
    rw [hb] at hb'
    generalize hx : s.h.blk? (σ b) = y at hb'
    cases hb' with
    | same _ M hlt =>
      obtain ⟨Ls, a1, ⟨L, ces, clock, c1, c2, c3, c4, c5⟩⟩ := hh.maps _ _ hx
      exact ⟨Ls, a1, ⟨L, ces, clock, c1, c2, c3, c4, fun i hi hj => ⟨(c5 i hi hj).1.keep (turn_keeps hp E w M) (hlt _ (List.getElem_mem hi)).1, (c5 i hi hj).2.keep (turn_keeps hp E w M) (hlt _ (List.getElem_mem hi)).2⟩⟩⟩
  · exact hh.apart (σ b) (σ b') Ls Ls' L L' (fun e => hne (by rw [← hp.ts b, ← hp.ts b', e])) h2 h3
  · rw [hloop] at hl; exact hh.deadl l hl
  · rw [hloop] at hl
    obtain ⟨o, q1, ⟨ct, df, fi, q2, q3⟩⟩ := hh.loops l r hl
    obtain ⟨M, hM⟩ := hr.ltl l r hl
    exact ⟨o, q1, ⟨ct, df, fi, q2, q3.size, fun i hi hj => (q3.val i hi hj).keep (turn_keeps hp E w M) (hM _ (List.getElem_mem hi))⟩⟩
  · have hb' := hr.blks b
    rw [hb] at hb'
    generalize hx2 : s.h.blk? (σ b) = y at hb'
    have hlt := hh.lt
    rw [hr.len, hll]
    cases hb' with
    | same _ M _ => exact hlt.blks _ _ hx2
    | rows rs rs' g fz e1 e2 e3 =>
      have h1 := hlt.blks _ _ hx2
      intro r hrm x hxm
      obtain ⟨i, hi, rfl⟩ := List.getElem_of_mem hrm
      obtain ⟨j, hj, rfl⟩ := List.getElem_of_mem hxm
      exact (e3 i hi (by omega) j hj (by rw [← e2 i hi (by omega)]; exact hj)).lt hr.into (h1 _ (List.getElem_mem _) _ (List.getElem_mem _))
  · rw [hloop] at hl
    rw [hr.len, hll]
    exact hh.lt.loops l r hl x hx
  · obtain ⟨x0, x1, x2, x3⟩ := hh.globs.ok g row hg
    exact ⟨x0, x1, fun hf => x2 ((turn_foot hp).1 hf), x3⟩
  · exact (hr.tmps i hi (by have := h.tmps.size; omega)).VR hp _ (h.tmps.val i (by have := hr.tlen; omega) hj)
  · rw [hr.len, hll]
    obtain ⟨i, hi, rfl⟩ := List.getElem_of_mem hx
    have hj : i < s.tmps.length := by have := hr.tlen; omega
    exact (hr.tmps i hi hj).lt hr.into (h.lt _ (List.getElem_mem hj))

theorem turn_ext {σ τ : Nat → Nat} {N n m : Nat} (hp : PermN σ τ N) (hn : n ≤ N) (E : Env) (w : World) : Ext n m E w (E.turn σ) w := by
  have k := turn_keeps hp E w m
  exact ⟨⟨k.cells, fun b hb => k.refs b (by omega), k.loops⟩, Nat.le_refl _, rfl, rfl, rfl, fun _ _ _ => rfl, fun B _ hF => .inl hF, fun B _ hf => (turn_foot hp).1 hf⟩

theorem todo_ren {P : Program} {n m : Nat} {rnd : Option Nat} {items : List Item} {st : St} {Q : AExit → St → Prop}
    (h : TodoSem P n m rnd items st (fun e s => ∃ σ τ N s0, st.h.blks.length ≤ N ∧ RenSt σ τ N s0 s ∧ Q e s0)) : TodoSem P n m rnd items st Q :=
  ⟨fun b E w tmps ds base h1 h2 hb h3 h4 h5 k cs => by
    obtain ⟨e, s, E', w', tmps', ds', ⟨σ, τ, N, s0, hN, hr, hq⟩, r1, r2, r3, r4, r5, r6⟩ := h.run b E w tmps ds base h1 h2 hb h3 h4 h5 k cs
    have x : Ext n m E' w' (E'.turn σ) w' := turn_ext hr.perm (by omega) E' w'
    refine ⟨e, s0, E'.turn σ, w', tmps', ds', hq, turn_StR hr r1, r2.ext x, Ext.trans (Nat.le_refl n) (Nat.le_refl m) r3 x, by rw [hr.len]; exact r4, by rw [hr.loops]; exact r5, r6⟩⟩
end
end Go.Abs

namespace Go.Abs
noncomputable section
variable [Gl]

section sim
variable {P : Program} {T : Tab} {n m : Nat} {rnd : Option Nat} {ops opx : Array Oper} {Q : AExit → St → Prop}

structure Sim (ops opx : Array Oper) (π ρ : Nat → Nat) (X : List (Nat × Nat)) : Prop where
  size : opx.size = ops.size
  pr : ∀ i, ρ (π i) = i
  rp : ∀ i, π (ρ i) = i
  lt : ∀ i, i < ops.size ↔ π i < ops.size
  op : ∀ i o, ops[i]? = some o → ∃ a, opx[π i]? = some { o with after := a, guard := o.guard.map fun g => (π g.1, g.2) } ∧
    (∀ e ∈ a, Region.binds .any e = true → (∃ e' ∈ o.after, Region.binds .any e' = true ∧ e.on = π e'.on) ∨ ∃ p ∈ X, p.2 = i ∧ e.on = π p.1 ∧ p.1 < ops.size) ∧
    ∀ e ∈ o.after, Region.binds .any e = true → ∃ e' ∈ a, Region.binds .any e' = true ∧ e'.on = π e.on

omit [Gl] in
theorem Sim.id (ops : Array Oper) : Sim ops ops (fun i => i) (fun i => i) [] := by
  refine ⟨rfl, fun _ => rfl, fun _ => rfl, fun _ => Iff.rfl, fun i o ho => ⟨o.after, ?_, fun e he hb => .inl ⟨e, he, hb, rfl⟩, fun e he hb => ⟨e, he, hb, rfl⟩⟩⟩
  rw [ho]
  obtain ⟨d, op, ty, pos, af, g⟩ := o
  cases g <;> rfl

def numOps (ops : Array Oper) (κ μ : Nat → Nat) (p q : Nat) : Array Oper :=
  ((List.range ops.size).map fun j => match ops[μ j]? with
    | some o => { o with after := (o.after.toList.map fun e => { e with on := κ e.on }).toArray ++ (if j = q then #[{ on := p, ground := .data }] else #[]), guard := o.guard.map fun g => (κ g.1, g.2) }
    | none => ⟨none, .move (.tmp 0), 0, "", #[], none⟩).toArray
omit [Gl] in
theorem numOps_size (κ μ : Nat → Nat) (p q : Nat) : (numOps ops κ μ p q).size = ops.size := by simp [numOps]
omit [Gl] in
theorem numOps_get {κ μ : Nat → Nat} {p q : Nat} (inv : ∀ i, μ (κ i) = i) (hlt : ∀ i, i < ops.size → κ i < ops.size) {i : Nat} {o : Oper} (h : ops[i]? = some o) :
    (numOps ops κ μ p q)[κ i]? = some { o with after := (o.after.toList.map fun e => { e with on := κ e.on }).toArray ++ (if κ i = q then #[{ on := p, ground := .data }] else #[]), guard := o.guard.map fun g => (κ g.1, g.2) } := by
  have hi : i < ops.size := (Array.getElem?_eq_some_iff.1 h).1
  have hp := hlt i hi
  unfold numOps
  rw [List.getElem?_toArray, List.getElem?_map, List.getElem?_range hp]
  simp only [Option.map_some, inv, h]

omit [Gl] in
theorem Sim.step {π ρ κ μ : Nat → Nat} {X : List (Nat × Nat)} (h : Sim ops opx π ρ X) (inv : ∀ i, μ (κ i) = i) (inv' : ∀ i, κ (μ i) = i) (hlt : ∀ i, i < opx.size → κ i < opx.size) (hlt2 : ∀ i, i < opx.size → μ i < opx.size) {p q : Nat} (hp : p < opx.size) :
    Sim ops (numOps opx κ μ p q) (fun i => κ (π i)) (fun i => ρ (μ i)) ((ρ (μ p), ρ (μ q)) :: X) := by
  have hs := h.size
  have hlt' : ∀ i, κ i < opx.size → i < opx.size := fun i hi => by have := hlt2 _ hi; rwa [inv] at this
  refine ⟨by rw [numOps_size, hs], fun i => by rw [inv, h.pr], fun i => by rw [h.rp, inv'], fun i => ⟨fun hi => by have := hlt (π i) (by rw [hs]; exact (h.lt i).1 hi); rwa [hs] at this, fun hi => (h.lt i).2 (by have := hlt' (π i) (by rw [hs]; exact hi); rwa [hs] at this)⟩, fun i o ho => ?_⟩
  obtain ⟨a, h1, h2, h3⟩ := h.op i o ho
  have hg := numOps_get (p := p) (q := q) inv hlt h1
  refine ⟨(a.toList.map fun e => { e with on := κ e.on }).toArray ++ (if κ (π i) = q then #[{ on := p, ground := .data }] else #[]), ?_, fun e he hb => ?_, fun e he hb => ?_⟩
  · rw [hg]
    cases o.guard with
    | none => rfl
    | some g => rfl
  · simp only [Array.mem_append, List.mem_toArray, List.mem_map, Array.mem_toList_iff] at he
    rcases he with ⟨e', he', rfl⟩ | he
    · rcases h2 e' he' hb with ⟨e2, k1, k2, k3⟩ | ⟨x, k1, k2, k3, k4⟩
      · exact .inl ⟨e2, k1, k2, by show κ e'.on = _; rw [k3]⟩
      · exact .inr ⟨x, List.mem_cons_of_mem _ k1, k2, by show κ e'.on = _; rw [k3], k4⟩
    · split at he
      · rename_i hpq
        simp at he
        subst he
        refine .inr ⟨(ρ (μ p), ρ (μ q)), List.mem_cons_self, ?_, ?_, ?_⟩
        · show ρ (μ q) = i
          rw [← hpq, inv, h.pr]
        · show p = κ (π (ρ (μ p)))
          rw [h.rp, inv']
        · exact (h.lt _).2 (by rw [h.rp, ← hs]; exact hlt2 p hp)
      · simp at he
  · obtain ⟨e', k1, k2, k3⟩ := h3 e he hb
    refine ⟨{ e' with on := κ e'.on }, ?_, k2, by show κ e'.on = _; rw [k3]⟩
    simp only [Array.mem_append, List.mem_toArray, List.mem_map, Array.mem_toList_iff]
    exact .inl ⟨e', k1, rfl⟩

omit [Gl] in
theorem keep_cons {x : Nat × Nat} {X : List (Nat × Nat)} : ∀ (fuel t : Nat) (listed : Array Bool), KeepX ops [x] fuel t listed → KeepX ops X fuel t listed → KeepX ops (x :: X) fuel t listed
  | 0, _, _, _, _ => True.intro
  | fuel + 1, t, listed, h1, h2 => by
    unfold KeepX at *
    split
    · trivial
    · rename_i i hi
      rw [hi] at h1 h2
      refine ⟨fun p hp => ?_, keep_cons fuel _ _ h1.2 h2.2⟩
      rcases List.mem_cons.1 hp with rfl | hp
      · exact h1.1 p (by simp)
      · exact h2.1 p hp
omit [Gl] in
theorem keep_nil : ∀ (fuel t : Nat) (listed : Array Bool), KeepX ops [] fuel t listed
  | 0, _, _ => True.intro
  | fuel + 1, t, listed => by
    unfold KeepX
    split
    · trivial
    · exact ⟨fun p hp => absurd hp List.not_mem_nil, keep_nil fuel _ _⟩

def permR (ρ : Nat → Nat) (listed : Array Bool) : Array Bool := ((List.range listed.size).map fun j => on listed (ρ j)).toArray
omit [Gl] in
theorem permR_size (ρ : Nat → Nat) (listed : Array Bool) : (permR ρ listed).size = listed.size := by simp [permR]
omit [Gl] in
theorem permR_get {ρ : Nat → Nat} {listed : Array Bool} {j : Nat} (hj : j < listed.size) (d : Bool) : (permR ρ listed).getD j d = on listed (ρ j) := by
  have : (permR ρ listed)[j]? = some (on listed (ρ j)) := by
    unfold permR
    rw [List.getElem?_toArray, List.getElem?_map, List.getElem?_range hj]; rfl
  rw [Array.getD_eq_getD_getElem?, this]; rfl
omit [Gl] in
theorem permR_set {π ρ : Nat → Nat} (pr : ∀ i, ρ (π i) = i) (rp : ∀ i, π (ρ i) = i) {listed : Array Bool} {i : Nat} (hi : i < listed.size) (hp : π i < listed.size) : permR ρ (listed.setIfInBounds i true) = (permR ρ listed).setIfInBounds (π i) true := by
  apply Array.ext
  · simp [permR]
  · intro j h1 h2
    have hj : j < listed.size := by simpa [permR] using h1
    have e1 : (permR ρ (listed.setIfInBounds i true))[j] = on (listed.setIfInBounds i true) (ρ j) := by simp [permR]
    rw [e1, on_set hi, Array.getElem_setIfInBounds]
    · have e2 : (permR ρ listed)[j]'(by rw [permR_size]; exact hj) = on listed (ρ j) := by simp [permR]
      by_cases h : ρ j = i
      · rw [if_pos h, if_pos (by rw [← h, rp])]
      · rw [if_neg h, if_neg (fun e => h (by rw [← e, pr])), e2]
    · rw [permR_size]; exact hj

theorem sim_sound {π ρ : Nat → Nat} {X : List (Nat × Nat)} (sm : Sim ops opx π ρ X) {A0 : List AV} {V : Nat → AV} {isW : Nat → Bool} {H : Nat → Heap}
    (pl : Plan P T opx A0 V isW H) (hT : TabOK P T) {t : Nat} (hk : KeepX ops X ops.size t (Array.replicate ops.size false)) (hq : Q .normal ⟨XT opx V A0 opx.size, H opx.size⟩) :
    TodoSem P n m rnd [.inRegion ops (Region.linearise .any ops t)] ⟨A0, H 0⟩ Q := by
  have hsz := sm.size
  refine orders_keep hT X (fun listed st => Inv pl (permR ρ listed) st) ?_ ?_ ?_ ops.size t _ _ ?_ ?_ hk
  · intro listed st i hi hr hx
    have hs : listed.size = ops.size := by have := hi.size; rwa [permR_size, hsz] at this
    obtain ⟨hun, o, ho, hall⟩ := mem_ready.1 hr
    have hio : i < ops.size := (Array.getElem?_eq_some_iff.1 ho).1
    have hpi := (sm.lt i).1 hio
    obtain ⟨a, hget, ha, _⟩ := sm.op i o ho
    have hr' : π i ∈ Region.ready .any opx (permR ρ listed) := by
      refine mem_ready.2 ⟨?_, _, hget, fun e he hb => ?_⟩
      · rw [permR_get (by omega), sm.pr]
        have : i < listed.size := by omega
        simpa [on, Array.getD, this] using hun
      · rcases ha e he hb with ⟨e', k1, k2, k3⟩ | ⟨x, k1, k2, k3, k4⟩
        · have h1 := hall e' k1 k2
          have h2 : e'.on < listed.size := by
            rcases Nat.lt_or_ge e'.on listed.size with h | h
            · exact h
            · simp [Array.getD, Nat.not_lt.2 h] at h1
          rw [k3, permR_get (by rw [hs]; exact (sm.lt _).1 (by omega)), sm.pr]
          exact h1
        · rw [k3, permR_get (by rw [hs]; exact (sm.lt _).1 k4), sm.pr]
          exact hx x k1 k2
    obtain ⟨o', ho', hl', hf', hcase⟩ := inv_step pl (permR ρ listed) st (π i) hi hr'
    rw [hget] at ho'
    injection ho' with ho'
    have hls : i < listed.size := by omega
    refine ⟨o, ho, hls, by have : listed[i] = false := by simpa [Array.getD, hls] using hun
                           rw [Array.getElem?_eq_getElem hls, this], ?_⟩
    have hg : guardA opx st.tmps o' = guardA ops st.tmps o := by
      rw [← ho']
      unfold guardA
      cases hgo : o.guard with
      | none => rfl
      | some gw =>
        obtain ⟨j, want⟩ := gw
        simp only [Option.map_some]
        have : (opx[π j]?).bind (·.dst) = (ops[j]?).bind (·.dst) := by
          cases hoj : ops[j]? with
          | some oj =>
            obtain ⟨a2, h2, _⟩ := sm.op j oj hoj
            rw [h2]; rfl
          | none =>
            have : opx[π j]? = none := by
              rw [Array.getElem?_eq_none_iff, hsz]
              rw [Array.getElem?_eq_none_iff] at hoj
              rcases Nat.lt_or_ge (π j) ops.size with h | h
              · have := (sm.lt j).2 h; omega
              · exact h
            rw [this]
        rw [this]
    have hset : permR ρ (listed.setIfInBounds i true) = (permR ρ listed).setIfInBounds (π i) true := permR_set sm.pr sm.rp hls (by omega)
    have hd : o'.dst = o.dst := by rw [← ho']
    rcases hcase with ⟨h1, h2⟩ | ⟨h1, h2⟩
    · refine .inl ⟨hg ▸ h1, ?_⟩
      rw [hset, ← hd]; exact h2
    · refine .inr ⟨hg ▸ h1, ?_⟩
      rw [hset]
      rw [← ho'] at h2
      exact opW_after h2
  · intro listed st hi hr
    have hs : listed.size = ops.size := by have := hi.size; rwa [permR_size, hsz] at this
    have hall0 : ∀ j, j < opx.size → on (permR ρ listed) j = true := by
      intro j
      induction j using Nat.strongRecOn with
      | ind j ih =>
        intro hj
        rw [hsz] at hj
        cases hon : on (permR ρ listed) j with
        | true => rfl
        | false =>
          exfalso
          have hpj : ρ j < ops.size := (sm.lt _).2 (by rw [sm.rp]; exact hj)
          have hun : on listed (ρ j) = false := by rw [← hon]; exact (permR_get (ρ := ρ) (listed := listed) (by omega) false).symm
          have hlp : ρ j < listed.size := by omega
          have hmem : ρ j ∈ Region.ready .any ops listed := by
            refine mem_ready.2 ⟨by simpa [on, Array.getD, hlp] using hun, ops[ρ j], Array.getElem?_eq_getElem hpj, fun e he hb => ?_⟩
            obtain ⟨a, hget, _, hback⟩ := sm.op (ρ j) _ (Array.getElem?_eq_getElem hpj)
            rw [sm.rp] at hget
            obtain ⟨e', k1, k2, k3⟩ := hback e he hb
            have hb' : Bef opx (π e.on) j := by
              have := Bef.edge (ops := opx) _ e' j hget k1 k2
              rwa [k3] at this
            have hlt2 := pl.back _ _ hb'
            have := ih _ hlt2 (by omega)
            have e2 : on (permR ρ listed) (π e.on) = on listed (ρ (π e.on)) := permR_get (ρ := ρ) (listed := listed) (by omega) false
            rw [e2, sm.pr] at this
            exact this
          rw [hr] at hmem
          cases hmem
    obtain ⟨p', hp', h1, h2⟩ := hi.heap
    have e1 : st.tmps = XT opx V A0 opx.size := by
      rw [hi.tmps]
      exact tmk_all _ _ hall0 _ (Nat.le_refl _)
    have e2 : st.h = H opx.size := by
      rw [h1]
      refine (pl.range opx.size hp' (Nat.le_refl _) fun w h3 h4 => ?_).symm
      cases hw : isW w with
      | false => rfl
      | true => have := (h2 w h4 hw).1 (hall0 w h4); omega
    obtain ⟨tm, hs'⟩ := st
    simp only at e1 e2
    rw [e1, e2]; exact hq
  · intro listed st hi hl
    cases hr : Region.ready .any ops listed with
    | nil => rfl
    | cons i r =>
      exfalso
      have hi' : i ∈ Region.ready .any ops listed := by rw [hr]; exact List.mem_cons_self
      obtain ⟨hun, o, ho, _⟩ := mem_ready.1 hi'
      have hlt : i < listed.size := ready_size hi'
      have hff : listed[i] = false := by simpa [Array.getD, hlt] using hun
      have := left_set hlt hff
      omega
  · have hoff : ∀ j, on (permR ρ (Array.replicate ops.size false)) j = false := fun j => by
      by_cases hj : j < ops.size
      · have e := permR_get (ρ := ρ) (listed := Array.replicate ops.size false) (j := j) (by simpa using hj) false
        show (permR ρ (Array.replicate ops.size false)).getD j false = false
        rw [e]
        simp [on, Array.getD]
      · simp [on, Array.getD, permR_size, hj]
    refine ⟨by simp [permR_size, hsz], fun i hi => ?_, ?_, 0, Nat.zero_le _, rfl, fun w hw _ => ?_⟩
    · rw [hoff] at hi; cases hi
    · show A0 = _
      rw [tmk_stop _ 0 (fun j _ => hoff j) opx.size (Nat.zero_le _)]
      rfl
    · rw [hoff]; simp
  · simp [left, Array.toList_replicate]

def OrdSem (P : Program) (n m : Nat) (rnd : Option Nat) (ops : Array Oper) (X : List (Nat × Nat)) (st : St) (Q : AExit → St → Prop) : Prop :=
  ∀ t, KeepX ops X ops.size t (Array.replicate ops.size false) → TodoSem P n m rnd [.inRegion ops (Region.linearise .any ops t)] st Q

theorem ord_split {X : List (Nat × Nat)} {a b : Nat} (hab : a ≠ b) {st : St} (h1 : OrdSem P n m rnd ops ((a, b) :: X) st Q) (h2 : OrdSem P n m rnd ops ((b, a) :: X) st Q) : OrdSem P n m rnd ops X st Q := fun t hk => by
  rcases keep_split (ops := ops) hab ops.size t (Array.replicate ops.size false) with h | h
  · exact h1 t (keep_cons _ _ _ h hk)
  · exact h2 t (keep_cons _ _ _ h hk)

theorem ord_region (hm : P.follows .mixedOrders = true) {id : Nat} {st : St} (h : OrdSem P n m rnd ops [] st Q) : TodoSem P n m rnd [.code (.region id ops true)] st Q :=
  t_region_draw hm fun t => h t (keep_nil _ _ _)

theorem ord_ren {X : List (Nat × Nat)} {st : St} (h : OrdSem P n m rnd ops X st (fun e s => ∃ σ τ N s0, st.h.blks.length ≤ N ∧ RenSt σ τ N s0 s ∧ Q e s0)) : OrdSem P n m rnd ops X st Q :=
  fun t hk => todo_ren (h t hk)
end sim
end
end Go.Abs

namespace Go.Abs
noncomputable section
variable [Gl]

section ren
def allB2 {α : Type} (p : α → α → Bool) : List α → List α → Bool
  | [], [] => true
  | a :: l, b :: m => match p a b with
    | true => allB2 p l m
    | false => false
  | _, _ => false
theorem allB2_ok {α : Type} {p : α → α → Bool} : ∀ {l m : List α}, allB2 p l m = true → l.length = m.length ∧ ∀ (i : Nat) (hi : i < l.length) (hj : i < m.length), p l[i] m[i] = true
  | [], [], _ => ⟨rfl, fun i hi => absurd hi (Nat.not_lt_zero _)⟩
  | a :: l, b :: m, h => by
    unfold allB2 at h
    split at h
    · rename_i hp
      obtain ⟨h1, h2⟩ := allB2_ok h
      refine ⟨by simp [h1], fun i hi hj => ?_⟩
      cases i with
      | zero => exact hp
      | succ i => exact h2 i (by simpa using hi) (by simpa using hj)
    · cases h
  | [], _ :: _, h => by cases h
  | _ :: _, [], h => by cases h

def eqO : Option Nat → Option Nat → Bool
  | none, none => true
  | some a, some b => Nat.beq a b
  | _, _ => false
theorem eqO_ok {a b : Option Nat} (h : eqO a b = true) : a = b := by
  unfold eqO at h
  split at h
  · rfl
  · rw [Nat.eq_of_beq_eq_true h]
  · cases h

def ltB (N : Nat) : Nat → AV → Bool
  | 0, _ => false
  | f + 1, x => match x with
    | .junk | .bool _ | .int _ _ | .str _ | .nilp | .nils | .nilf | .nili | .nilm | .gp _ _ => true
    | .agg cs => allB (ltB N f) cs
    | .tup cs => allB (ltB N f) cs
    | .vs es _ => allB (allB (ltB N f)) es
    | .vp row _ => allB (ltB N f) row
    | .ptr b _ _ => Nat.blt b N
    | .ms b _ _ _ => Nat.blt b N
    | .mp b => Nat.blt b N
    | .yld l => Nat.blt l 1000000000
    | .fn _ a c => allB (ltB N f) a && allB (ltB N f) c
    | .ifc _ x => ltB N f x
theorem ltB_ok {N : Nat} : ∀ {f : Nat} {x : AV}, ltB N f x = true → Lt N 1000000000 x
  | 0, _, h => by cases h
  | f + 1, x, h => by
    have ih : ∀ {x : AV}, ltB N f x = true → Lt N 1000000000 x := fun h => ltB_ok h
    have all : ∀ {l : List AV}, allB (ltB N f) l = true → ∀ (i : Nat) (hi : i < l.length), Lt N 1000000000 l[i] := fun h i hi => ih (allB_ok h _ (List.getElem_mem hi))
    unfold ltB at h
    split at h
    · exact .junk
    · exact .bool _
    · exact .int _ _
    · exact .str _
    · exact .nilp
    · exact .nils
    · exact .nilf
    · exact .nili
    · exact .nilm
    · exact .gp _ _
    · exact .agg _ (all h)
    · exact .tup _ (all h)
    · exact .vs _ _ fun i hi j hj => all (allB_ok h _ (List.getElem_mem hi)) j hj
    · exact .vp _ _ (all h)
    · exact .ptr _ _ _ (by simpa [Nat.blt_eq] using h)
    · exact .ms _ _ _ _ (by simpa [Nat.blt_eq] using h)
    · exact .mp _ (by simpa [Nat.blt_eq] using h)
    · exact .yld _ (by simpa [Nat.blt_eq] using h)
    · rw [Bool.and_eq_true] at h
      exact .fn _ _ _ (all h.1) (all h.2)
    · exact .ifc _ _ (ih h)

def renB (N : Nat) (σ : Nat → Nat) : Nat → AV → AV → Bool
  | 0, _, _ => false
  | f + 1, x, y => match x, y with
    | .junk, .junk => true
    | .ptr b k l, .ptr b' k' l' => Nat.beq (σ b) b' && Nat.beq k k' && Nat.beq l l'
    | .ms b k l c, .ms b' k' l' c' => Nat.beq (σ b) b' && Nat.beq k k' && Nat.beq l l' && eqO c c'
    | .agg l, .agg l' => allB2 (renB N σ f) l l'
    | .tup l, .tup l' => allB2 (renB N σ f) l l'
    | .mp b, .mp b' => Nat.beq (σ b) b'
    | x, y => beqA 30 x y && ltB N 30 x
theorem renB_ok {σ : Nat → Nat} {N : Nat} : ∀ {f : Nat} {x y : AV}, renB N σ f x y = true → RenF σ N x y
  | 0, _, _, h => by cases h
  | f + 1, x, y, h => by
    have ih : ∀ {x y : AV}, renB N σ f x y = true → RenF σ N x y := fun h => renB_ok h
    unfold renB at h
    split at h
    · exact .same _ 0 .junk
    · rename_i b k l b' k' l'
      simp only [Bool.and_eq_true] at h
      obtain ⟨⟨h1, h2⟩, h3⟩ := h
      rw [← Nat.eq_of_beq_eq_true h1, ← Nat.eq_of_beq_eq_true h2, ← Nat.eq_of_beq_eq_true h3]
      exact .ptr _ _ _
    · rename_i b k l c b' k' l' c'
      simp only [Bool.and_eq_true] at h
      obtain ⟨⟨⟨h1, h2⟩, h3⟩, h4⟩ := h
      rw [← Nat.eq_of_beq_eq_true h1, ← Nat.eq_of_beq_eq_true h2, ← Nat.eq_of_beq_eq_true h3, ← eqO_ok h4]
      exact .ms _ _ _ _
    · obtain ⟨h1, h2⟩ := allB2_ok h
      exact .agg _ _ h1 fun i hi hj => ih (h2 i hi hj)
    · obtain ⟨h1, h2⟩ := allB2_ok h
      exact .tup _ _ h1 fun i hi hj => ih (h2 i hi hj)
    · rw [← Nat.eq_of_beq_eq_true h]
      exact .mp _
    · simp only [Bool.and_eq_true] at h
      rw [← beqA_ok _ _ _ h.1]
      exact .same _ _ (ltB_ok h.2)

def eqB : Bool → Bool → Bool
  | true, b => b
  | false, b => !b
theorem eqB_ok {a b : Bool} (h : eqB a b = true) : a = b := by cases a <;> cases b <;> first | rfl | cases h
def samePair (N : Nat) (p q : AV × AV) : Bool := beqA 30 p.1 q.1 && beqA 30 p.2 q.2 && ltB N 30 p.1 && ltB N 30 p.2
def renBlk (N : Nat) (σ : Nat → Nat) : Option Blk → Option Blk → Bool
  | none, none => true
  | some (.rows rs g fz), some (.rows rs' g' fz') => eqB g g' && eqB fz fz' && allB2 (allB2 (renB N σ 30)) rs rs'
  | some (.mapb es), some (.mapb es') => allB2 (samePair N) es es'
  | _, _ => false
theorem renBlk_ok {σ : Nat → Nat} {N : Nat} {x y : Option Blk} (h : renBlk N σ x y = true) : BRenF σ N x y := by
  unfold renBlk at h
  split at h
  · exact .dead
  · simp only [Bool.and_eq_true] at h
    obtain ⟨⟨h1, h2⟩, h3⟩ := h
    rw [← eqB_ok h1, ← eqB_ok h2]
    obtain ⟨a1, a2⟩ := allB2_ok h3
    exact .rows _ _ _ _ a1 (fun k h1 h2 => (allB2_ok (a2 k h1 h2)).1) fun k h1 h2 l h3 h4 => renB_ok ((allB2_ok (a2 k h1 h2)).2 l h3 h4)
  · rename_i es es'
    obtain ⟨a1, a2⟩ := allB2_ok h
    have e : es = es' := by
      apply List.ext_getElem a1
      intro k h1 h2
      have := a2 k h1 h2
      unfold samePair at this
      simp only [Bool.and_eq_true] at this
      exact Prod.ext (beqA_ok _ _ _ this.1.1.1) (beqA_ok _ _ _ this.1.1.2)
    subst e
    refine .same _ 1000000000 fun e he => ?_
    obtain ⟨k, hk, rfl⟩ := List.getElem_of_mem he
    have := a2 k hk hk
    unfold samePair at this
    simp only [Bool.and_eq_true] at this
    exact ⟨ltB_ok this.1.2, ltB_ok this.2⟩
  · cases h

def noneL {α : Type} : List (Option α) → Bool
  | [] => true
  | none :: l => noneL l
  | some _ :: _ => false
theorem noneL_eq {α : Type} : ∀ {l : List (Option α)}, noneL l = true → l = List.replicate l.length none
  | [], _ => rfl
  | none :: l, h => by rw [List.length_cons, List.replicate_succ, ← noneL_eq (l := l) h]
  | some _ :: _, h => by cases h
end ren

def turnN (p a b i : Nat) : Nat := match Nat.blt i p with
  | true => i
  | false => match Nat.blt i (p + a) with
    | true => i + b
    | false => match Nat.blt i (p + a + b) with
      | true => i - a
      | false => i
omit [Gl] in
theorem turnN_eq (p a b i : Nat) : turnN p a b i = if i < p then i else if i < p + a then i + b else if i < p + a + b then i - a else i := by
  unfold turnN
  split
  · rename_i h; rw [Nat.blt_eq] at h; rw [if_pos h]
  · rename_i h
    have h : ¬ i < p := by rw [← Nat.blt_eq, h]; exact Bool.false_ne_true
    rw [if_neg h]
    split
    · rename_i h2; rw [Nat.blt_eq] at h2; rw [if_pos h2]
    · rename_i h2
      have h2 : ¬ i < p + a := by rw [← Nat.blt_eq, h2]; exact Bool.false_ne_true
      rw [if_neg h2]
      split
      · rename_i h3; rw [Nat.blt_eq] at h3; rw [if_pos h3]
      · rename_i h3
        have h3 : ¬ i < p + a + b := by rw [← Nat.blt_eq, h3]; exact Bool.false_ne_true
        rw [if_neg h3]
omit [Gl] in
theorem turnN_inv (p a b i : Nat) : turnN p b a (turnN p a b i) = i := by
  rw [turnN_eq, turnN_eq]
  by_cases h1 : i < p
  · rw [if_pos h1, if_pos h1]
  · rw [if_neg h1]
    by_cases h2 : i < p + a
    · rw [if_pos h2, if_neg (by omega), if_neg (by omega), if_pos (by omega)]; omega
    · rw [if_neg h2]
      by_cases h3 : i < p + a + b
      · rw [if_pos h3, if_neg (by omega), if_pos (by omega)]; omega
      · rw [if_neg h3, if_neg h1, if_neg (by omega), if_neg (by omega)]

def turnL (N : Nat) (σ : Nat → Nat) (e : EH) : List (Option Blk) :=
  ((List.range (e.n - N)).map fun k => nthB e.cells (e.n - 1 - σ (e.n - 1 - k))) ++ e.cells.drop (e.n - N)
def renS (N p a b : Nat) (tsA : TS) (eA : EH) (tsB : TS) (eB : EH) : Bool :=
  Nat.ble N p && Nat.ble (p + a + b) eB.n && allB2 (renB N (turnN p a b) 30) tsA.flatten tsB.flatten && allB2 (renBlk N (turnN p a b)) eA.cells (turnL N (turnN p a b) eB)
def namesA : Nat → AV → List Nat
  | 0, _ => []
  | f + 1, x => match x with
    | .ptr b _ _ => [b]
    | .ms b _ _ _ => [b]
    | .mp b => [b]
    | .agg l => l.flatMap (namesA f)
    | .tup l => l.flatMap (namesA f)
    | _ => []
def upOf : List Nat → List Nat → Nat
  | x :: l, y :: m => match Nat.blt x y with | true => y - x | false => upOf l m
  | _, _ => 0
def guessT (N : Nat) (tsA : TS) (tsB : TS) (n : Nat) : List (Nat × Nat × Nat) :=
  let A := tsA.flatten.flatMap (namesA 20)
  let B := tsB.flatten.flatMap (namesA 20)
  let b := upOf A B
  let a := upOf B A
  match Nat.beq a 0, Nat.beq b 0 with
  | true, true => [(N, 0, 0)]
  | false, false => (List.range (n - N)).map fun p => (N + p, a, b)
  | true, false => (List.range (n - N)).flatMap fun p => (List.range (n - N - p)).map fun a => (N + p, a + 1, b)
  | false, true => (List.range (n - N)).flatMap fun p => (List.range (n - N - p)).map fun b => (N + p, a, b + 1)

def ltLoops (N : Nat) : List (Option ALoop) → Bool
  | [] => true
  | none :: l => ltLoops N l
  | some r :: l => match allB (ltB N 30) r.tmps with | true => ltLoops N l | false => false
theorem ltLoops_ok {N : Nat} : ∀ {l : List (Option ALoop)}, ltLoops N l = true → ∀ r, some r ∈ l → ∀ x ∈ r.tmps, Lt N 1000000000 x
  | [], _, _, hr => by cases hr
  | none :: l, h, r, hr => by
    rcases List.mem_cons.1 hr with hr | hr
    · cases hr
    · exact ltLoops_ok (l := l) h r hr
  | some r' :: l, h, r, hr => by
    unfold ltLoops at h
    split at h
    · rename_i ha
      rcases List.mem_cons.1 hr with hr | hr
      · injection hr with hr; subst hr
        exact fun x hx => ltB_ok (allB_ok ha x hx)
      · exact ltLoops_ok h r hr
    · cases h
def sameB (q : Bool) (N : Nat) (tsA : TS) (eA : EH) (tsB : TS) (eB : EH) : Bool :=
  Nat.beq eA.n eB.n && Nat.ble N eB.n && (match q with | true => ltLoops N eA.loops | false => noneL eA.loops && noneL eB.loops && Nat.beq eA.loops.length eB.loops.length) &&
    (guessT N tsA tsB eB.n).any fun g => renS N g.1 g.2.1 g.2.2 tsA eA tsB eB

theorem renS_ok {N p a b : Nat} {tsA tsB : TS} {eA eB : EH} (hA : eA.ok) (hB : eB.ok) (hn : eA.n = eB.n) (hN : N ≤ eB.n)
    (hll : eA.loops = eB.loops) (hlt : ltLoops N eA.loops = true) (h : renS N p a b tsA eA tsB eB = true) :
    RenSt (turnN p a b) (turnN p b a) N ⟨tsA.flatten, eA.abs⟩ ⟨tsB.flatten, eB.abs⟩ := by
  unfold renS at h
  simp only [Bool.and_eq_true, Nat.ble_eq] at h
  obtain ⟨⟨⟨hp, hpe⟩, ht⟩, hb⟩ := h
  obtain ⟨t1, t2⟩ := allB2_ok ht
  obtain ⟨b1, b2⟩ := allB2_ok hb
  have lA : eA.cells.length = eA.n := hA.1.symm
  have lB : eB.cells.length = eB.n := hB.1.symm
  have hfix : ∀ c, c < N → turnN p a b c = c := fun c hc => by rw [turnN_eq, if_pos (by omega)]
  have hin : ∀ c, eB.n ≤ c → turnN p a b c = c := fun c hc => by rw [turnN_eq, if_neg (by omega), if_neg (by omega), if_neg (by omega)]
  have hlt' : ∀ c, c < eB.n → turnN p a b c < eB.n := fun c hc => by
    rw [turnN_eq]
    split
    · exact hc
    · split
      · omega
      · split
        · omega
        · exact hc
  refine ⟨⟨turnN_inv p b a, turnN_inv p a b, hfix⟩, by simp [EH.abs]; omega, by simp [EH.abs]; omega, fun c hc => ?_, fun c => ?_, hll, fun l r hl => ?_, t1, fun k h1 h2 => renB_ok (t2 k h1 h2)⟩
  · have hc' : turnN p a b c < eB.n := by simpa [EH.abs, lB] using hc
    show c < eB.cells.reverse.length
    rw [List.length_reverse, lB]
    rcases Nat.lt_or_ge c eB.n with h | h
    · exact h
    · rw [hin c h] at hc'; exact hc'
  · rcases Nat.lt_or_ge c eB.n with hc | hc
    · have hs := hlt' c hc
      have eA1 : eA.abs.blk? c = (eA.cells[eB.n - 1 - c]?).join := by
        show (eA.cells.reverse[c]?).join = _
        rw [List.getElem?_reverse (by omega), lA, hn]
      have eB1 : eB.abs.blk? (turnN p a b c) = (eB.cells[eB.n - 1 - turnN p a b c]?).join := by
        show (eB.cells.reverse[turnN p a b c]?).join = _
        rw [List.getElem?_reverse (by omega), lB]
      have hk : eB.n - 1 - c < eA.cells.length := by omega
      have hpl : (turnL N (turnN p a b) eB).length = eB.n := by simp [turnL, lB, hN]
      have hk2 : eB.n - 1 - c < (turnL N (turnN p a b) eB).length := by omega
      have hx := b2 _ hk hk2
      have hsw0 : (turnL N (turnN p a b) eB)[eB.n - 1 - c]? = some ((eB.cells[eB.n - 1 - turnN p a b c]?).join) := by
        show (((List.range (eB.n - N)).map fun k => nthB eB.cells (eB.n - 1 - turnN p a b (eB.n - 1 - k))) ++ eB.cells.drop (eB.n - N))[eB.n - 1 - c]? = _
        rcases Nat.lt_or_ge c N with hcN | hcN
        · rw [List.getElem?_append_right (by simp; omega), List.getElem?_drop]
          simp only [List.length_map, List.length_range]
          rw [show eB.n - N + (eB.n - 1 - c - (eB.n - N)) = eB.n - 1 - c from by omega, hfix c hcN, List.getElem?_eq_getElem (by omega)]
          rfl
        · rw [List.getElem?_append_left (by simp; omega), List.getElem?_map, List.getElem?_range (by omega)]
          simp only [Option.map_some, nthB_eq]
          rw [show eB.n - 1 - (eB.n - 1 - c) = c from by omega]
      have hsw : (turnL N (turnN p a b) eB)[eB.n - 1 - c] = (eB.cells[eB.n - 1 - turnN p a b c]?).join := (List.getElem?_eq_some_iff.1 hsw0).2
      rw [hsw] at hx
      rw [eA1, eB1, List.getElem?_eq_getElem hk]
      exact renBlk_ok hx
    · have eA1 : eA.abs.blk? c = none := by
        show (eA.cells.reverse[c]?).join = none
        rw [List.getElem?_eq_none (by rw [List.length_reverse]; omega)]; rfl
      have eB1 : eB.abs.blk? (turnN p a b c) = none := by
        rw [hin c hc]
        show (eB.cells.reverse[c]?).join = none
        rw [List.getElem?_eq_none (by rw [List.length_reverse]; omega)]; rfl
      rw [eA1, eB1]; exact .dead
  · refine ⟨1000000000, ltLoops_ok hlt r ?_⟩
    have hl' : (eB.loops[l]?).join = some r := hl
    rw [hll]
    cases ho : eB.loops[l]? with
    | none => rw [ho] at hl'; cases hl'
    | some o => rw [ho] at hl'; have : o = some r := hl'; exact this ▸ List.mem_of_getElem? ho

theorem ltLoops_none {N : Nat} : ∀ {l : List (Option ALoop)}, noneL l = true → ltLoops N l = true
  | [], _ => rfl
  | none :: l, h => ltLoops_none (l := l) h
  | some _ :: _, h => by cases h

theorem sameB_ok {q : Bool} {N : Nat} {tsA tsB : TS} {eA eB : EH} (hA : eA.ok) (hB : eB.ok) (hq : q = true → eA.loops = eB.loops) (h : sameB q N tsA eA tsB eB = true) : ∃ σ τ, RenSt σ τ N ⟨tsA.flatten, eA.abs⟩ ⟨tsB.flatten, eB.abs⟩ := by
  unfold sameB at h
  simp only [Bool.and_eq_true, List.any_eq_true] at h
  obtain ⟨⟨⟨h1, h2⟩, h3⟩, h6⟩ := h
  have hn := Nat.eq_of_beq_eq_true h1
  have hN : N ≤ eB.n := by simpa [Nat.ble_eq] using h2
  have hl : eA.loops = eB.loops ∧ ltLoops N eA.loops = true := by
    cases q with
    | true => exact ⟨hq rfl, h3⟩
    | false =>
      simp only [Bool.and_eq_true] at h3
      exact ⟨by rw [noneL_eq h3.1.1, noneL_eq h3.1.2, Nat.eq_of_beq_eq_true h3.2], ltLoops_none h3.1.1⟩
  obtain ⟨g, _, h6⟩ := h6
  exact ⟨_, _, renS_ok hA hB hn hN hl.1 hl.2 h6⟩

section run
variable [Bare] {R : Type} (ih : IH R) {P : Program} (T : Tab) (M : FuncId → Option (List AV → Option AV))

def hardW (ops : Array Oper) (lt : List Nat) (k : Nat) : Bool := match ops[k]? with
  | some o => isWr o.op && !(lettable M o.op && lt.any (Nat.beq k))
  | none => false
def looseP (lt : List Nat) (ops : Array Oper) : Option (Nat × Nat) :=
  let ms := masksOf ops
  (List.range ops.size).findSome? fun b => match hardW M ops lt b with
    | true => (match (List.range b).reverse.find? fun a => hardW M ops lt a with
      | some a => (match Nat.testBit (ms.getD b 0) a with
        | true => none
        | false => some (a, b))
      | none => none)
    | false => none

def ordN (ops : Array Oper) (a b : Nat) : List Nat :=
  let m := (masksOf ops).getD b 0
  let seg := (List.range (b + 1 - a)).map fun d => a + d
  let anc := fun i => Nat.beq i b || Nat.testBit m i
  List.range a ++ seg.filter anc ++ (seg.filter fun i => !anc i) ++ (List.range (ops.size - 1 - b)).map fun d => b + 1 + d
def muN (l : List Nat) (n j : Nat) : Nat := match Nat.blt j n with | true => l.getD j j | false => j
def kapN (l : List Nat) (n i : Nat) : Nat := match Nat.blt i n with | true => l.idxOf i | false => i
def permB (l : List Nat) (n : Nat) : Bool := (List.range n).all fun i => Nat.blt (muN l n i) n && Nat.blt (kapN l n i) n && Nat.beq (kapN l n (muN l n i)) i && Nat.beq (muN l n (kapN l n i)) i
omit [Gl] [Bare] in
theorem permB_ok {l : List Nat} {n : Nat} (h : permB l n = true) : (∀ i, muN l n (kapN l n i) = i) ∧ (∀ i, kapN l n (muN l n i) = i) ∧ (∀ i, i < n → kapN l n i < n) ∧ (∀ i, i < n → muN l n i < n) := by
  have hin : ∀ i, i < n → muN l n i < n ∧ kapN l n i < n ∧ kapN l n (muN l n i) = i ∧ muN l n (kapN l n i) = i := fun i hi => by
    have := (List.all_eq_true.1 h) i (List.mem_range.2 hi)
    simp only [Bool.and_eq_true, Nat.blt_eq, Nat.beq_eq] at this
    exact ⟨this.1.1.1, this.1.1.2, this.1.2, this.2⟩
  have hout : ∀ i, ¬ i < n → muN l n i = i ∧ kapN l n i = i := fun i hi => by
    have : Nat.blt i n = false := by rw [← Bool.not_eq_true, Nat.blt_eq]; exact hi
    unfold muN kapN
    rw [this]; exact ⟨rfl, rfl⟩
  refine ⟨fun i => ?_, fun i => ?_, fun i hi => (hin i hi).2.1, fun i hi => (hin i hi).1⟩
  · by_cases hi : i < n
    · exact (hin i hi).2.2.2
    · rw [(hout i hi).2, (hout i hi).1]
  · by_cases hi : i < n
    · exact (hin i hi).2.2.1
    · rw [(hout i hi).1, (hout i hi).2]

def drawT (q : Bool) : Nat → List Nat → Array Oper → TS → EH → (AExit → TS → EH → Option R) → Option R
  | 0, _, _, _, _, _ => none
  | f + 1, lt, ops, ts, e, K => match looseP M lt ops with
    | none => drawL T M lt ih ops ts e K
    | some (a, b) => match Nat.blt a b && Nat.blt b ops.size && permB (ordN ops a b) ops.size with
      | true => drawT q f lt (numOps ops (fun i => i) (fun i => i) a b) ts e fun xA tsA eA => drawT q f (lt.map (kapN (ordN ops a b) ops.size)) (numOps ops (kapN (ordN ops a b) ops.size) (muN (ordN ops a b) ops.size) (kapN (ordN ops a b) ops.size b) (kapN (ordN ops a b) ops.size a)) ts e fun _ tsB eB => match sameB q e.n tsA eA tsB eB with
        | true => K xA tsA eA
        | false => none
      | false => none

theorem drawT_calm (hc : ∀ ts e o, Calm (R := R) e (opE ih T ts e o)) (q : Bool) : ∀ (f : Nat) (lt : List Nat) (ops : Array Oper) (ts : TS) (e : EH), CalmD e fun K => drawT ih T M q f lt ops ts e K
  | 0, _, _, _, _, _, _, _ => rfl
  | f + 1, lt, ops, ts, e, K, K', h => by
    show drawT ih T M q (f + 1) lt ops ts e K = drawT ih T M q (f + 1) lt ops ts e K'
    unfold drawT
    split
    · unfold drawL
      split
      · exact drawGo_calm T ih M hc _ _ _ _ _ _ _ _ _ K K' h
      · rfl
    · split
      · refine drawT_calm hc q f _ _ ts e _ _ fun xA tsA eA hA => ?_
        refine congrArg _ ?_
        funext _ tsB eB
        split
        · exact h _ _ _ hA
        · rfl
      · rfl

theorem drawT_ok (hT : TabOK P T) (hX : BareOK P) (hM : MemOK P M) (hih : ih.OK P) {q : Bool} (hq : q = true → ∀ ts e o, Calm (R := R) e (opE ih T ts e o)) {ops : Array Oper} {ts : TS} {e : EH} (he : e.ok) (ht : okT ts) : ∀ (f : Nat) (lt : List Nat) (opx : Array Oper) (π ρ : Nat → Nat) (X : List (Nat × Nat)) (K : AExit → TS → EH → Option R) (y : R),
    Sim ops opx π ρ X → drawT ih T M q f lt opx ts e K = some y →
    ∃ ts' e', (q = true → e'.loops = e.loops) ∧ e'.ok ∧ okT ts' ∧ K .normal ts' e' = some y ∧ ∀ Q : AExit → St → Prop, Q .normal ⟨ts'.flatten, e'.abs⟩ → ∀ n m rnd, OrdSem P n m rnd ops X ⟨ts.flatten, e.abs⟩ Q
  | 0, _, _, _, _, _, _, _, _, h => by cases h
  | f + 1, lt, opx, π, ρ, X, K, y, sm, h => by
    let K₁ : AExit → TS → EH → Option R := fun x ts' e' => @ite _ (q = true → e'.loops = e.loops) (Classical.propDecidable _) (K x ts' e') none
    have hK : drawT ih T M q (f + 1) lt opx ts e K = drawT ih T M q (f + 1) lt opx ts e K₁ := by
      cases hqq : q with
      | true =>
        rw [hqq] at hq
        refine drawT_calm ih T M (hq rfl) true (f + 1) lt opx ts e K K₁ fun x ts' e' hl => ?_
        show _ = @ite _ _ (Classical.propDecidable _) _ _
        rw [if_pos fun _ => hl]
      | false =>
        have : K = K₁ := by
          funext x ts' e'
          show _ = @ite _ _ (Classical.propDecidable _) _ _
          rw [if_pos fun h => by rw [hqq] at h; cases h]
        rw [← this]
    have hK₁ : ∀ {x ts' e' y}, K₁ x ts' e' = some y → (q = true → e'.loops = e.loops) ∧ K x ts' e' = some y := fun {x ts' e' y} h => by
      replace h : @ite _ (q = true → e'.loops = e.loops) (Classical.propDecidable _) (K x ts' e') none = some y := h
      by_cases hh : q = true → e'.loops = e.loops
      · rw [if_pos hh] at h; exact ⟨hh, h⟩
      · rw [if_neg hh] at h; cases h
    rw [hK] at h
    unfold drawT at h
    split at h
    · unfold drawL at h
      split at h
      · rename_i hb
        unfold drawB at hb
        rw [Bool.and_eq_true] at hb
        have hback := backB_ok hb.1
        obtain ⟨V, isW, H, past, sil, ts', e', pr, h0, he', ht', hX1, hH, hk⟩ := drawGo_ok (P := P) (A0 := ts.flatten) ih T M hM hX hih hback opx.toList 0 [] [] ts e (fun _ => .junk) (fun _ => false) (fun _ => e.abs) rfl (Nat.zero_le _)
          ⟨fun i j _ h => by omega, fun i h => by omega, fun i o h => by omega, (fun s hs => nomatch hs), (fun p hp => nomatch hp), fun w h => by omega, trivial⟩ he ht rfl rfl h
        have pl : Plan P T opx ts.flatten V isW H := ⟨hback, apartB_ok hb.2, fun i j hij hj => pr.total i j hij hj, fun i hi => pr.same i hi, fun i o ho => by
          rcases pr.ok i o (Array.getElem?_eq_some_iff.1 ho).1 ho with g | g | ⟨g1, g2, _, g4⟩
          · exact .inl g
          · exact .inr (.inl g)
          · exact .inr (.inr ⟨g1, g2, g4⟩)⟩
        refine ⟨ts', e', (hK₁ hk).1, he', ht', (hK₁ hk).2, fun Q hq n m rnd t hkeep => ?_⟩
        have := sim_sound (n := n) (m := m) (rnd := rnd) (Q := Q) sm pl hT hkeep (by rw [← hX1, ← hH]; exact hq)
        rw [h0] at this
        exact this
      · cases h
    · rename_i a b hab
      split at h
      · rename_i hlt
        rw [Bool.and_eq_true, Bool.and_eq_true, Nat.blt_eq, Nat.blt_eq] at hlt
        obtain ⟨⟨h1, h2⟩, hperm⟩ := hlt
        obtain ⟨v1, v2, v3, v4⟩ := permB_ok hperm
        have smA := sm.step (κ := fun i => i) (μ := fun i => i) (p := a) (q := b) (fun _ => rfl) (fun _ => rfl) (fun _ h => h) (fun _ h => h) (by omega)
        have smB := sm.step (κ := kapN (ordN opx a b) opx.size) (μ := muN (ordN opx a b) opx.size) (p := kapN (ordN opx a b) opx.size b) (q := kapN (ordN opx a b) opx.size a) v1 v2 v3 v4 (v3 b h2)
        obtain ⟨tsA, eA, a0, a1, a2, a3, a4⟩ := drawT_ok hT hX hM hih hq he ht f _ _ _ _ _ _ y smA h
        obtain ⟨tsB, eB, b0, b1, b2, b3, b4⟩ := drawT_ok hT hX hM hih hq he ht f _ _ _ _ _ _ y smB a3
        split at b3
        · rename_i hs
          obtain ⟨σ, τ, hr⟩ := sameB_ok a1 b1 (fun h => (a0 h).trans (b0 h).symm) hs
          refine ⟨tsA, eA, a0, a1, a2, (hK₁ b3).2, fun Q hq n m rnd => ?_⟩
          have hne : ρ a ≠ ρ b := fun e => by
            have := congrArg π e
            rw [sm.rp, sm.rp] at this
            omega
          have hN : e.abs.blks.length ≤ e.n := by
            have hok : e.n = e.cells.length := he.1
            simp [EH.abs, hok]
          refine ord_split hne (a4 Q hq n m rnd) (ord_ren ?_)
          have := b4 (fun x s => ∃ σ τ N s0, e.abs.blks.length ≤ N ∧ RenSt σ τ N s0 s ∧ Q x s0) ⟨σ, τ, _, _, hN, hr, hq⟩ n m rnd
          rw [v1, v1] at this
          exact this
        · cases b3
      · cases h

variable (hd : Op → Bool)
def drawX : DrawH R := fun ih ops ts e K => match (match looseP M (letsOf M hd ops) ops with | none => true | some _ => noneL e.loops) with
  | true => drawT ih T M false 20 (letsOf M hd ops) ops ts e K
  | false => drawT calmI T M true 20 (letsOf M hd ops) ops ts e K
theorem drawX_ok (hT : TabOK P T) (hX : BareOK P) (hM : MemOK P M) (hm : P.follows .mixedOrders = true) : DrawOK (drawX (R := R) T M hd) P where
  ok ih hih id ops ts e K y he ht h := by
    unfold drawX at h
    split at h
    · obtain ⟨ts', e', _, h1, h2, h3, h4⟩ := drawT_ok ih T M hT hX hM hih (q := false) (fun h => by cases h) he ht 20 _ ops _ _ [] K y (Sim.id ops) h
      exact ⟨.normal, ts', e', h1, h2, h3, fun Q hq n m rnd => ord_region hm (h4 Q hq n m rnd)⟩
    · obtain ⟨ts', e', _, h1, h2, h3, h4⟩ := drawT_ok calmI T M hT hX hM (calmI_ok P) (q := true) (fun _ ts e o => opE_calm T ts e o) he ht 20 _ ops _ _ [] K y (Sim.id ops) h
      exact ⟨.normal, ts', e', h1, h2, h3, fun Q hq n m rnd => ord_region hm (h4 Q hq n m rnd)⟩
end run
end
end Go.Abs
