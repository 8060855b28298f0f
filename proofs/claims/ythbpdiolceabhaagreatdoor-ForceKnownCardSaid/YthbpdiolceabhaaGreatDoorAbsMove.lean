/-
  A block that is known whole by one slice may take a new name; the old name is given up.
  Conditions: none.
-/
import Derived.Test.YthbpdiolceabhaaGreatDoorAbsOps9
set_option linter.unusedVariables false
set_option linter.unusedSimpArgs false
set_option linter.unusedSectionVars false
namespace Go.Abs
variable [Gl]

def Heap.kill (h : Heap) (b : Nat) : Heap := { h with blks := h.blks.set b none }

omit [Gl] in
theorem blk?_kill (h : Heap) (c b : Nat) : (h.kill c).blk? b = if b = c then none else h.blk? b := by
  unfold Heap.kill Heap.blk?
  simp only [List.getElem?_set]
  by_cases hb : c = b
  · subst hb
    simp only [if_true]
    split <;> rfl
  · rw [if_neg hb, if_neg (fun e => hb e.symm)]

/-- What a new name asks. -/
def moveW (h : Heap) (r : AV) (K : AV → Heap → Prop) : Prop :=
  match r with
  | .ms b 0 n none =>
    match h.blk? b with
    | some (.rows rs _ false) => n = rs.length ∧ K (.ms h.blks.length 0 n none) ((h.kill b).push (.rows rs false false))
    | _ => False
  | _ => False

/-- The reading in which a name has moved. -/
def Env.move (E : Env) (b B : Nat) (L : Loc) : Env := { E with ρ := fun c => if c = B then some [L] else if c = b then none else E.ρ c }

theorem hr_move {E : Env} {w : World} {h : Heap} (hr : HR E w h) {b : Nat} {rs : List (List AV)} {g : Bool} {Ls : List Loc} {L : Loc}
    (hb : h.blk? b = some (.rows rs g false)) (hLs : E.ρ b = some Ls) (hL : L ∈ Ls) (hlen : L.len = rs.length) (n m : Nat) (hn : n ≤ h.blks.length) :
    HR (E.move b h.blks.length L) w ((h.kill b).push (.rows rs false false)) ∧ Ext n m E w (E.move b h.blks.length L) w := by
  have hblt : b < h.blks.length := blk?_lt hb
  have hklen : (h.kill b).blks.length = h.blks.length := by simp [Heap.kill]
  have hB : (E.move b h.blks.length L).ρ h.blks.length = some [L] := by simp [Env.move]
  have hb0 : (E.move b h.blks.length L).ρ b = none := by simp [Env.move]; omega
  have ho : ∀ c, c ≠ h.blks.length → c ≠ b → (E.move b h.blks.length L).ρ c = E.ρ c := fun c h1 h2 => by simp [Env.move, h1, h2]
  have keeps : ∀ m, Keeps h.blks.length m E w (E.move b h.blks.length L) w := fun m => by
    refine ⟨fun B o v a b => ⟨a, b⟩, fun c hc Ls' hLs' => ?_, fun _ _ _ h => h⟩
    by_cases hcb : c = b
    · rw [hcb, hb0] at hLs'; cases hLs'
    · rw [ho c (by omega) hcb] at hLs'
      exact ⟨Ls', hLs', fun L hL => ⟨L, hL, rfl, rfl, rfl, rfl, Nat.le_refl _⟩⟩
  have hfoot : ∀ B, foot (E.move b h.blks.length L) B → foot E B := by
    rintro B (⟨c, Ls', L', h1, h2, rfl⟩ | ⟨l, h1⟩)
    · by_cases hc : c = h.blks.length
      · subst hc; rw [hB] at h1; injection h1 with h1; subst h1
        obtain rfl : L' = L := by simpa using h2
        exact .inl ⟨b, Ls, L', hLs, hL, rfl⟩
      · by_cases hcb : c = b
        · subst hcb; rw [hb0] at h1; cases h1
        · rw [ho c hc hcb] at h1; exact .inl ⟨c, Ls', L', h1, h2, rfl⟩
    · exact .inr ⟨l, h1⟩
  refine andx (B := Ext ..) ⟨(Keeps.refl n m E w).trans hn (Nat.le_refl _) (keeps m), Nat.le_refl _, rfl, rfl, rfl, fun _ _ _ => rfl, fun _ _ h => .inl h, fun B _ h => hfoot B h⟩ fun hx => ?_
  obtain ⟨Ls0, h1, h2⟩ := hr.rows b rs g false hb
  rw [hLs] at h1; injection h1 with h1; subst h1
  have blk : ∀ c, ((h.kill b).push (.rows rs false false)).blk? c = if c = h.blks.length then some (.rows rs false false) else if c = b then none else h.blk? c := fun c => by
    rw [blk?_push, hklen, blk?_kill]
  have loc : ∀ {L' : Loc} {rs' : List (List AV)} {fz : Bool} {c : Nat} {g' : Bool}, h.blk? c = some (.rows rs' g' fz) → LocAt E w L' rs' fz → LocAt (E.move b h.blks.length L) w L' rs' fz := fun hc hl => by
    obtain ⟨arr, el, a1, a2, a3⟩ := hl.lies
    refine ⟨⟨arr, el, a1, a2, fun i hi hi' j hj => ?_⟩, hl.len, hl.fits, hl.sz, hl.own, hl.free⟩
    obtain ⟨v, b1, b2, b3⟩ := a3 i hi hi' j hj
    exact ⟨v, b1, b2.keep (keeps h.loops.length) (hr.lt.blks _ _ hc _ (List.getElem_mem hi) _ (List.getElem_mem hj)), b3⟩
  refine ⟨fun c hc => ?_, fun c rs' g' fz hc => ?_, fun c es hc => ?_, fun c c' L1s L2s L1 L2 hne g1 g2 m1 m2 hF => ?_, hr.deadl, fun l r hl => ?_, hr.lapart, ?_, hr.inside, hr.globs.ext hx⟩
  · rw [blk] at hc
    split at hc
    · cases hc
    · rename_i hcB
      split at hc
      · rename_i hcb; rw [hcb]; exact hb0
      · rename_i hcb; rw [ho c hcB hcb]; exact hr.dead c hc
  · rw [blk] at hc
    split at hc
    · rename_i hcB
      injection hc with hc; injection hc with e1 e2 e3
      subst hcB; subst e1; subst e2; subst e3
      refine ⟨[L], hB, fun _ => ⟨L, rfl⟩, ⟨L, by simp, hlen⟩, fun L' hL' => ?_, by simp⟩
      obtain rfl : L' = L := by simpa using hL'
      exact loc hb (h2.all L' hL)
    · rename_i hcB
      split at hc
      · cases hc
      · rename_i hcb
        obtain ⟨Ls', k1, k2⟩ := hr.rows c rs' g' fz hc
        exact ⟨Ls', by rw [ho c hcB hcb]; exact k1, k2.one, k2.now, fun L' hL' => loc hc (k2.all L' hL'), k2.apart⟩
  · rw [blk] at hc
    split at hc
    · injection hc with hc; cases hc
    · rename_i hcB
      split at hc
      · cases hc
      · rename_i hcb
        obtain ⟨Ls', k1, ⟨L', ces, clock, rfl, k3, k4, k5, k6⟩⟩ := hr.maps c es hc
        refine ⟨[L'], by rw [ho c hcB hcb]; exact k1, ⟨L', ces, clock, rfl, k3, k4, k5, fun i hi hj => ?_⟩⟩
        have hl := hr.lt.blks c _ hc _ (List.getElem_mem hi)
        exact ⟨(k6 i hi hj).1.keep (keeps _) hl.1, (k6 i hi hj).2.keep (keeps _) hl.2⟩
  · have old : ∀ c Ls' L', (E.move b h.blks.length L).ρ c = some Ls' → L' ∈ Ls' → ∃ d Ds, E.ρ d = some Ds ∧ L' ∈ Ds ∧ (c = h.blks.length ∧ d = b ∨ c = d ∧ c ≠ b) := fun c Ls' L' k1 k2 => by
      by_cases hc : c = h.blks.length
      · subst hc; rw [hB] at k1; injection k1 with k1; subst k1
        obtain rfl : L' = L := by simpa using k2
        exact ⟨b, Ls, hLs, hL, .inl ⟨rfl, rfl⟩⟩
      · by_cases hcb : c = b
        · subst hcb; rw [hb0] at k1; cases k1
        · rw [ho c hc hcb] at k1; exact ⟨c, Ls', k1, k2, .inr ⟨rfl, hcb⟩⟩
    obtain ⟨d, Ds, k1, k2, k3⟩ := old c L1s L1 g1 m1
    obtain ⟨d', Ds', k1', k2', k3'⟩ := old c' L2s L2 g2 m2
    have hne' : d ≠ d' := by
      rcases k3 with ⟨e1, e2⟩ | ⟨e1, e2⟩ <;> rcases k3' with ⟨e1', e2'⟩ | ⟨e1', e2'⟩ <;> omega
    exact hr.apart d d' Ds Ds' L1 L2 hne' k1 k1' k2 k2' hF
  · obtain ⟨o, k1, ⟨ct, df, fi, k2, k3⟩⟩ := hr.loops l r hl
    exact ⟨o, k1, ⟨ct, df, fi, k2, k3.keep (keeps h.loops.length) (hr.lt.loops l r hl)⟩⟩
  · have hk : (h.kill b).Lt := by
      refine ⟨fun c x hc => ?_, fun l r hl => ?_⟩
      · rw [blk?_kill] at hc
        split at hc
        · cases hc
        · rw [hklen]; exact hr.lt.blks c x hc
      · rw [hklen]; exact hr.lt.loops l r hl
    refine hk.push fun r hr' x hx => ?_
    rw [hklen]
    exact (hr.lt.blks b _ hb r hr' x hx).mono (by omega) (Nat.le_refl _)

section ops
variable {P : Program} {h : Heap} {E : Env} {w : World} {K : AV → Heap → Prop}

theorem VOK.move {s : Sem Value} (hv : VOK P h E w s (fun r h' => K r h' ∨ moveW h' r K)) : VOK P h E w s K := by
  obtain ⟨r, h', E', w', v, hrun, hk, v1, v2, v3, v4, v5, v6⟩ := hv
  rcases hk with hk | hk
  · exact ⟨r, h', E', w', v, hrun, hk, v1, v2, v3, v4, v5, v6⟩
  · unfold moveW at hk
    split at hk
    · rename_i b n
      split at hk
      · rename_i rs g hb
        obtain ⟨hn, hk⟩ := hk
        subst hn
        obtain ⟨Ls, h1, h2⟩ := v2.rows b rs g false hb
        cases v1 with
        | ms _ _ _ _ a l c hv =>
          obtain ⟨L, hL, g1, g2, g3, g4, rfl, rfl⟩ := hv Ls h1
          have hlen : L.len = rs.length := by have := (h2.all L hL).len; omega
          obtain ⟨k1, k2⟩ := hr_move v2 hb h1 hL hlen h.blks.length h.loops.length v4
          have hkl : (h'.kill b).blks.length = h'.blks.length := by simp [Heap.kill]
          refine ⟨_, _, E'.move b h'.blks.length L, w', _, hrun, hk, ?_, k1, ?_, ?_, ?_, v6.trans (Nat.le_refl _) (Nat.le_refl _) k2⟩
          · refine .ms _ _ _ _ _ _ _ fun Ls' hLs' => ?_
            have hB : (E'.move b h'.blks.length L).ρ h'.blks.length = some [L] := by simp [Env.move]
            rw [hB] at hLs'; injection hLs' with hLs'; subst hLs'
            exact ⟨L, by simp, g1, g2, g3, g4, rfl, rfl⟩
          · refine .ms _ _ _ _ ?_
            simp [Heap.push, hkl]
          · simp [Heap.push, hkl]; omega
          · exact v5
      · exact hk.elim
    · exact hk.elim
end ops
end Go.Abs
