/-
  Steps to a law of this program: AbsCut, AbsDrop, AbsIter, AbsDead, AbsOrd, AbsBits, AbsScope.
  Conditions: none.
-/
import Derived.Test.YtpdnijifmebnbaaGreatDoorB19
import Derived.Test.YtpdnijifmebnbaaGreatDoorB18
import Derived.Test.YtpdnijifmebnbaaGreatDoorB4
import Derived.IntWalk
set_option linter.unusedVariables false
set_option linter.unusedSimpArgs false
set_option linter.unusedSectionVars false
namespace Go.Abs
noncomputable section
variable [Gl]

section weak
def Heap.le (h0 h : Heap) : Prop := h0.blks.length = h.blks.length ∧ h0.loops = h.loops ∧ ∀ b x, h0.blk? b = some x → h.blk? b = some x
omit [Gl] in
theorem Heap.le_refl (h : Heap) : h.le h := ⟨rfl, rfl, fun _ _ h => h⟩
def Env.only (E : Env) (h0 : Heap) : Env := { E with ρ := fun b => match h0.blk? b with | some _ => E.ρ b | none => none }

theorem hr_only {E : Env} {w : World} {h h0 : Heap} (hr : HR E w h) (hle : h0.le h) (n m : Nat) : HR (E.only h0) w h0 ∧ Ext n m E w (E.only h0) w := by
  obtain ⟨l1, l2, l3⟩ := hle
  have hin : ∀ b x, h0.blk? b = some x → (E.only h0).ρ b = E.ρ b := fun b x hb => by simp [Env.only, hb]
  have hout : ∀ b Ls, (E.only h0).ρ b = some Ls → E.ρ b = some Ls := fun b Ls hb => by
    cases hx : h0.blk? b with
    | none => simp [Env.only, hx] at hb
    | some x => rw [hin b x hx] at hb; exact hb
  have keeps : ∀ n m, Keeps n m E w (E.only h0) w := fun n m =>
    ⟨fun B o v a b => ⟨a, b⟩, fun b _ Ls' hLs' => ⟨Ls', hout b Ls' hLs', fun L hL => ⟨L, hL, rfl, rfl, rfl, rfl, Nat.le_refl _⟩⟩, fun _ _ _ h => h⟩
  have hfoot : ∀ B, foot (E.only h0) B → foot E B := by
    rintro B (⟨b, Ls, L, h1, h2, rfl⟩ | ⟨l, h1⟩)
    · exact .inl ⟨b, Ls, L, hout b Ls h1, h2, rfl⟩
    · exact .inr ⟨l, h1⟩
  refine andx (B := Ext ..) ⟨keeps n m, Nat.le_refl _, rfl, rfl, rfl, fun _ _ _ => rfl, fun _ _ h => .inl h, fun B _ h => hfoot B h⟩ fun hx => ?_
  have lp : ∀ l, h0.loop? l = h.loop? l := fun l => by unfold Heap.loop?; rw [l2]
  refine ⟨fun b hb => by simp [Env.only, hb], fun b rs g fz hb => ?_, fun b es hb => ?_, fun b b' Ls Ls' L L' hne k1 k2 => hr.apart b b' Ls Ls' L L' hne (hout _ _ k1) (hout _ _ k2), fun l hl => hr.deadl l (lp l ▸ hl), fun l r hl => ?_, hr.lapart, ⟨fun b x hb => ?_, fun l r hl x hx => ?_⟩, hr.inside, hr.globs.ext hx⟩
  · have hb' := l3 _ _ hb
    obtain ⟨Ls, h1, h2⟩ := hr.rows b rs g fz hb'
    refine ⟨Ls, by rw [hin b _ hb]; exact h1, h2.one, h2.now, fun L hL => ?_, h2.apart⟩
    have hl := h2.all L hL
    obtain ⟨arr, el, a1, a2, a3⟩ := hl.lies
    refine ⟨⟨arr, el, a1, a2, fun i hi hi' j hj => ?_⟩, hl.len, hl.fits, hl.sz, hl.own, hl.free⟩
    obtain ⟨v, b1, b2, b3⟩ := a3 i hi hi' j hj
    exact ⟨v, b1, b2.keep (keeps _ _) (hr.lt.blks b _ hb' _ (List.getElem_mem hi) _ (List.getElem_mem hj)), b3⟩
  · have hb' := l3 _ _ hb
    obtain ⟨Ls, h1, ⟨L, ces, clock, rfl, h3, h4, h5, h6⟩⟩ := hr.maps b es hb'
    refine ⟨[L], by rw [hin b _ hb]; exact h1, ⟨L, ces, clock, rfl, h3, h4, h5, fun i hi hj => ?_⟩⟩
    have hl := hr.lt.blks b _ hb' _ (List.getElem_mem hi)
    exact ⟨(h6 i hi hj).1.keep (keeps _ _) hl.1, (h6 i hi hj).2.keep (keeps _ _) hl.2⟩
  · rw [lp] at hl
    obtain ⟨o, k1, ⟨ct, df, fi, k2, k3⟩⟩ := hr.loops l r hl
    exact ⟨o, k1, ⟨ct, df, fi, k2, k3.keep (keeps h.blks.length h.loops.length) (hr.lt.loops l r hl)⟩⟩
  · rw [l1, l2]; exact hr.lt.blks b x (l3 _ _ hb)
  · rw [l1, l2]; rw [lp] at hl; exact hr.lt.loops l r hl x hx



end weak

section lit

structure HLit where
  bs : List (Option Blk)
  nl : Nat
def HLit.abs (l : HLit) : Heap := ⟨l.bs, List.replicate l.nl none⟩


section
variable {R : Type}
def pushB (x : Option Blk) (e : EH) (K : EH → Option R) : Option R := fNat (Nat.succ e.n) fun n => raCons x e.rb fun rb => K { n := n, rb := rb, loops := e.loops }
def loadB : List (Option Blk) → EH → (EH → Option R) → Option R
  | [], e, K => K e
  | b :: r, e, K => pushB b e fun e => loadB r e K
def HLit.load (l : HLit) (K : EH → Option R) : Option R := fList (List.replicate l.nl none) fun ls => loadB l.bs ⟨0, [], ls⟩ K
end

end lit

structure CFact where
  args : List AV
  pre : HLit
  r : AV
  post : HLit



section run
variable {R : Type}


variable [Bare] (T : Tab) {P : Program} (drawE : DrawH R) (F : FuncId → Option Fun) (M : FuncId → Option (List AV → Option AV)) (CF : List (FuncId × List CFact))



end run

section top
variable [Bare] (T : Tab) {P : Program} (F : FuncId → Option Fun) (M : FuncId → Option (List AV → Option AV)) (CF : List (FuncId × List CFact))



variable (drawE : DrawH Unit)
end top

section path



variable {R : Type} (ih : IH R)



variable {P : Program}


end path

section cut
variable [Bare] (T : Tab) {P : Program} (F : FuncId → Option Fun) (M : FuncId → Option (List AV → Option AV)) (CF : List (FuncId × List CFact)) (drawE : DrawH Unit)





end cut
end
end Go.Abs

namespace Go.Abs
noncomputable section
variable [Gl]

theorem hr_drop {E : Env} {w : World} {B G : List (Option Blk)} {L : List (Option ALoop)} (hr : HR E w ⟨B ++ G, L⟩) (hlt : (Heap.mk B L).Lt) (n m : Nat) : HR (E.only ⟨B, L⟩) w ⟨B, L⟩ ∧ Ext n m E w (E.only ⟨B, L⟩) w := by
  have l3 : ∀ b x, (Heap.mk B L).blk? b = some x → (Heap.mk (B ++ G) L).blk? b = some x := fun b x hb => by
    have hl := blk?_lt hb
    unfold Heap.blk? at hb ⊢
    rw [List.getElem?_append_left hl]; exact hb
  have hin : ∀ b x, (Heap.mk B L).blk? b = some x → (E.only ⟨B, L⟩).ρ b = E.ρ b := fun b x hb => by simp [Env.only, hb]
  have hout : ∀ b Ls, (E.only ⟨B, L⟩).ρ b = some Ls → E.ρ b = some Ls := fun b Ls hb => by
    cases hx : (Heap.mk B L).blk? b with
    | none => simp [Env.only, hx] at hb
    | some x => rw [hin b x hx] at hb; exact hb
  have keeps : ∀ n m, Keeps n m E w (E.only ⟨B, L⟩) w := fun n m =>
    ⟨fun B o v a b => ⟨a, b⟩, fun b _ Ls' hLs' => ⟨Ls', hout b Ls' hLs', fun L hL => ⟨L, hL, rfl, rfl, rfl, rfl, Nat.le_refl _⟩⟩, fun _ _ _ h => h⟩
  have hfoot : ∀ B', foot (E.only ⟨B, L⟩) B' → foot E B' := by
    rintro B' (⟨b, Ls, L', h1, h2, rfl⟩ | ⟨l, h1⟩)
    · exact .inl ⟨b, Ls, L', hout b Ls h1, h2, rfl⟩
    · exact .inr ⟨l, h1⟩
  refine andx (B := Ext ..) ⟨keeps n m, Nat.le_refl _, rfl, rfl, rfl, fun _ _ _ => rfl, fun _ _ h => .inl h, fun B _ h => hfoot B h⟩ fun hx => ?_
  refine ⟨fun b hb => by simp [Env.only, hb], fun b rs g fz hb => ?_, fun b es hb => ?_, fun b b' Ls Ls' L L' hne k1 k2 => hr.apart b b' Ls Ls' L L' hne (hout _ _ k1) (hout _ _ k2), fun l hl => hr.deadl l hl, fun l r hl => ?_, hr.lapart, hlt, hr.inside, hr.globs.ext hx⟩
  · have hb' := l3 _ _ hb
    obtain ⟨Ls, h1, h2⟩ := hr.rows b rs g fz hb'
    refine ⟨Ls, by rw [hin b _ hb]; exact h1, h2.one, h2.now, fun L hL => ?_, h2.apart⟩
    have hl := h2.all L hL
    obtain ⟨arr, el, a1, a2, a3⟩ := hl.lies
    refine ⟨⟨arr, el, a1, a2, fun i hi hi' j hj => ?_⟩, hl.len, hl.fits, hl.sz, hl.own, hl.free⟩
    obtain ⟨v, b1, b2, b3⟩ := a3 i hi hi' j hj
    exact ⟨v, b1, b2.keep (keeps _ _) (hr.lt.blks b _ hb' _ (List.getElem_mem hi) _ (List.getElem_mem hj)), b3⟩
  · have hb' := l3 _ _ hb
    obtain ⟨Ls, h1, ⟨L', ces, clock, rfl, h3, h4, h5, h6⟩⟩ := hr.maps b es hb'
    refine ⟨[L'], by rw [hin b _ hb]; exact h1, ⟨L', ces, clock, rfl, h3, h4, h5, fun i hi hj => ?_⟩⟩
    have hl := hr.lt.blks b _ hb' _ (List.getElem_mem hi)
    exact ⟨(h6 i hi hj).1.keep (keeps _ _) hl.1, (h6 i hi hj).2.keep (keeps _ _) hl.2⟩
  · obtain ⟨o, k1, ⟨ct, df, fi, k2, k3⟩⟩ := hr.loops l r hl
    exact ⟨o, k1, ⟨ct, df, fi, k2, k3.keep (keeps _ _) (hr.lt.loops l r hl)⟩⟩

def Less (ts' ts : List AV) : Prop := ts'.length = ts.length ∧ ∀ (i : Nat) (x y : AV), ts'[i]? = some x → ts[i]? = some y → x = y ∨ x = .junk

theorem todo_drop {P : Program} {n m : Nat} {rnd : Option Nat} {items : List Item} {ts ts' : List AV} {B G : List (Option Blk)} {L : List (Option ALoop)} {Q : AExit → St → Prop} (hts : Less ts' ts)
    (hl : ∀ x ∈ ts', Lt B.length L.length x) (hh : (Heap.mk B L).Lt) (hn : n ≤ B.length) (g : TodoSem P n m rnd items ⟨ts', ⟨B, L⟩⟩ Q) : TodoSem P n m rnd items ⟨ts, ⟨B ++ G, L⟩⟩ Q :=
  ⟨fun b E w tmps ds base h1 h2 hb h3 _ h5 k cs => by
    obtain ⟨k1, k2⟩ := hr_drop h1.heap hh n m
    obtain ⟨_, k3⟩ := hr_drop h1.heap hh (B ++ G).length L.length
    have hs : StR (E.only ⟨B, L⟩) w ⟨ts', ⟨B, L⟩⟩ tmps := by
      refine ⟨k1, ⟨hts.1.trans h1.tmps.size, fun i hi hj => ?_⟩, hl⟩
      have hi' : i < ts.length := by rw [← hts.1]; exact hi
      rcases hts.2 i ts'[i] ts[i] (List.getElem?_eq_getElem hi) (List.getElem?_eq_getElem hi') with e | e
      · show VR _ _ ts'[i] _
        rw [e]; exact (h1.tmps.val i hi' hj).keep k3.keeps (h1.lt _ (List.getElem_mem hi'))
      · show VR _ _ ts'[i] _
        rw [e]; exact .junk _
    obtain ⟨e, st', E', w', tmps', ds', q, r1, r2, r3, r4, r5, r6⟩ := g.run b (E.only ⟨B, L⟩) w tmps ds base hs (h2.ext k2) hb h3 hn h5 k cs
    exact ⟨e, st', E', w', tmps', ds', q, r1, r2, k2.trans (Nat.le_refl _) (Nat.le_refl _) r3, r4, r5, r6⟩⟩

omit [Gl] in
theorem matchP_of_pat {l : List (Nat × AV)} {g : Nat → AV} : ∀ (n i : Nat) (j : Nat) (x : AV), look l (i + j) = some x → j < n → (patF l g n i)[j]? = some x
  | 0, _, _, _, _, h => by omega
  | n + 1, i, 0, x, hx, _ => by
    rw [Nat.add_zero] at hx
    simp [patF, hx]
  | n + 1, i, j + 1, x, hx, h => by
    simp only [patF, List.getElem?_cons_succ]
    exact matchP_of_pat n (i + 1) j x (by rw [← hx]; congr 1; omega) (by omega)
omit [Gl] in
theorem patF_len {l : List (Nat × AV)} {g : Nat → AV} : ∀ (n i : Nat), (patF l g n i).length = n
  | 0, _ => rfl
  | n + 1, i => by simp [patF, patF_len n (i + 1)]
omit [Gl] in
theorem patF_get {l : List (Nat × AV)} {g : Nat → AV} : ∀ (n i j : Nat) (y : AV), (patF l g n i)[j]? = some y → look l (i + j) = some y ∨ look l (i + j) = none ∧ y = g (n - 1 - j)
  | 0, _, _, _, h => by simp [patF] at h
  | n + 1, i, 0, y, h => by
    simp only [patF, List.getElem?_cons_zero, Option.some.injEq] at h
    rw [Nat.add_zero]
    cases hl : look l i with
    | some x => rw [hl] at h; exact .inl (by rw [← h])
    | none => rw [hl] at h; exact .inr ⟨rfl, h.symm⟩
  | n + 1, i, j + 1, y, h => by
    simp only [patF, List.getElem?_cons_succ] at h
    have := patF_get n (i + 1) j y h
    rw [show i + 1 + j = i + (j + 1) from by omega] at this
    rcases this with h1 | ⟨h1, h2⟩
    · exact .inl h1
    · exact .inr ⟨h1, by rw [h2]; congr 1; omega⟩

omit [Gl] in
theorem look_mem : ∀ {l : List (Nat × AV)} {i : Nat} {x : AV}, look l i = some x → (i, x) ∈ l
  | [], _, _, h => by cases h
  | (a, y) :: l, i, x, h => by
    unfold look at h
    split at h
    · rename_i e
      obtain rfl := Nat.eq_of_beq_eq_true e
      injection h with h; subst h
      exact List.mem_cons_self
    · exact List.mem_cons_of_mem _ (look_mem h)
def onceP : List (Nat × AV) → Bool
  | [] => true
  | (a, _) :: l => (look l a).isNone && onceP l
omit [Gl] in
theorem matchP_of_look {ts : List AV} : ∀ {l : List (Nat × AV)}, onceP l = true → (∀ i x, look l i = some x → ts[i]? = some x) → matchP ts l
  | [], _, _ => trivial
  | (a, x) :: l, ho, h => by
    simp only [onceP, Bool.and_eq_true] at ho
    refine ⟨h a x (by simp [look]), matchP_of_look ho.2 fun i y hy => h i y ?_⟩
    unfold look
    split
    · rename_i e
      have : a = i := by first | exact Nat.eq_of_beq_eq_true e | (simpa using e)
      subst this
      rw [hy] at ho; simp at ho
    · exact hy

theorem loop_g {P : Program} {T : Tab} {n m : Nat} {rnd : Option Nat} [Bare] [FH] (hT : TabOK P T) (hm : P.follows .mixedOrders = true) {c : Code} {Q : AExit → St → Prop} {A : Type} (len : Nat) (mea : A → Nat) (I : A → Prop) (pt : A → List (Nat × AV)) (hp : A → Heap)
    (hside : ∀ a, I a → onceP (pt a) = true ∧ (∀ p ∈ pt a, Lt (hp a).blks.length (hp a).loops.length p.2) ∧ (hp a).Lt ∧ n ≤ (hp a).blks.length)
    (step : ∀ (a : A) (g : Nat → AV), I a → patK (pt a) g len 0 fun ts => FH.fh (hp a) fun h => wpx P T n m rnd c ⟨ts, h⟩ (fun e s' => match e with
      | .normal => ∃ a' G, mea a' < mea a ∧ I a' ∧ s'.h = ⟨(hp a').blks ++ G, (hp a').loops⟩ ∧ s'.tmps.length = len ∧ matchP s'.tmps (pt a')
      | .jump j => Q (.jump j) s')) (a : A) (st : St) (h1 : I a) (h2 : st.h = hp a) (h3 : st.tmps.length = len) (h4 : matchP st.tmps (pt a)) : TodoSem P n m rnd [.inLoop c] st Q := by
  have key : ∀ (k : Nat) (a : A) (st : St), mea a = k → I a → st.h = hp a → st.tmps.length = len → matchP st.tmps (pt a) → TodoSem P n m rnd [.inLoop c] st Q := by
    intro k
    induction k using Nat.strongRecOn with
    | ind k ih =>
      intro a st hk i1 i2 i3 i4
      have hs := step a (fun i => st.tmps.getD (st.tmps.length - 1 - i) .junk) i1
      rw [patK_eq, FH.eq] at hs
      have e : patF (pt a) (fun i => st.tmps.getD (st.tmps.length - 1 - i) .junk) len 0 = st.tmps := by rw [← i3]; exact (matchP_pat i4).symm
      rw [e, ← i2] at hs
      refine t_inLoop ((wpx_ok hT hm c st _ hs).mono fun e s hq => ?_)
      cases e with
      | normal =>
        obtain ⟨a', G, j1, j2, j3, j4, j5⟩ := hq
        obtain ⟨o1, o2, o3, o4⟩ := hside a' j2
        obtain ⟨ts, h⟩ := s
        simp only at j3 j4 j5
        subst j3
        refine todo_drop (ts' := patF (pt a') (fun _ => .junk) len 0) ⟨by rw [patF_len, j4], fun i x y hx hy => ?_⟩ (fun x hx => ?_) o3 o4
          (ih (mea a') (hk ▸ j1) a' ⟨_, hp a'⟩ rfl j2 rfl (patF_len _ _) (matchP_of_look o1 fun i x hx => ?_))
        · rcases patF_get _ _ _ _ hx with h | ⟨_, h⟩
          · rw [Nat.zero_add] at h
            have := matchP_look j5 _ _ h
            rw [hy] at this; injection this with this
            exact .inl this.symm
          · exact .inr h
        · obtain ⟨i, hi, rfl⟩ := List.getElem_of_mem hx
          rcases patF_get _ _ _ _ (List.getElem?_eq_getElem hi) with h | ⟨_, h⟩
          · exact o2 (0 + i, _) (look_mem h)
          · rw [h]; exact .junk
        · have hlt : i < len := by
            have := matchP_look j5 _ _ hx
            rw [← j4]; exact (List.getElem?_eq_some_iff.1 this).1
          exact matchP_of_pat _ _ _ _ (by rw [Nat.zero_add]; exact hx) hlt
      | jump j => exact hq
  exact key _ a st rfl h1 h2 h3 h4
end
end Go.Abs

namespace Go.Abs
noncomputable section
variable [Gl]

section iter
variable {P : Program}

theorem callV_mono {h : Heap} {l : Nat} {args : List AV} {K K' : AV → Heap → Prop} (hk : ∀ r h', K r h' → K' r h') (hc : callV P h (.yld l) args K) : callV P h (.yld l) args K' := by
  simp only [callV] at hc ⊢
  exact ⟨hc.1, hc.2.mono hk⟩



theorem loop?_last (L : List (Option ALoop)) (b : List (Option Blk)) (r : Option ALoop) : (Heap.mk b (L ++ [r])).loop? L.length = r := by
  simp [Heap.loop?]
theorem setLoop_last (L : List (Option ALoop)) (b : List (Option Blk)) (r r' : Option ALoop) : (Heap.mk b (L ++ [r])).setLoop L.length r' = Heap.mk b (L ++ [r']) := by
  simp [Heap.setLoop]

end iter
end
end Go.Abs

namespace Go.Abs
noncomputable section
variable [Gl]

abbrev nones (k : Nat) : List (Option Blk) := List.replicate k none

omit [Gl] in
theorem blk?_dead (B : List (Option Blk)) (k : Nat) (L : List (Option ALoop)) (b : Nat) : (Heap.mk (B ++ nones k) L).blk? b = (Heap.mk B L).blk? b := by
  unfold Heap.blk?
  simp only [List.getElem?_append]
  split
  · rfl
  · rename_i h
    rw [List.getElem?_replicate]
    have : B[b]? = none := List.getElem?_eq_none (by omega)
    rw [this]
    split <;> rfl

omit [Gl] in
theorem lt_dead {B : List (Option Blk)} {L : List (Option ALoop)} (h : (Heap.mk B L).Lt) (k : Nat) : (Heap.mk (B ++ nones k) L).Lt := by
  refine ⟨fun b x hb => ?_, fun l r hl y hy => ?_⟩
  · rw [blk?_dead] at hb
    exact (h.blks b x hb).mono (by simp) (Nat.le_refl _)
  · exact (h.loops l r hl y hy).mono (by simp) (Nat.le_refl _)

theorem hr_dead {E : Env} {w : World} {B : List (Option Blk)} {k : Nat} {L : List (Option ALoop)} (hlt : (Heap.mk B L).Lt) : HR E w ⟨B ++ nones k, L⟩ ↔ HR E w ⟨B, L⟩ := by
  constructor
  · intro hr
    exact ⟨fun b hb => hr.dead b (by rw [blk?_dead]; exact hb), fun b rs g fz hb => hr.rows b rs g fz (by rw [blk?_dead]; exact hb), fun b es hb => hr.maps b es (by rw [blk?_dead]; exact hb), hr.apart, hr.deadl, hr.loops, hr.lapart, hlt, hr.inside, hr.globs⟩
  · intro hr
    exact ⟨fun b hb => hr.dead b (by rw [blk?_dead] at hb; exact hb), fun b rs g fz hb => hr.rows b rs g fz (by rw [blk?_dead] at hb; exact hb), fun b es hb => hr.maps b es (by rw [blk?_dead] at hb; exact hb), hr.apart, hr.deadl, hr.loops, hr.lapart, lt_dead hlt k, hr.inside, hr.globs⟩

theorem todo_lt {P : Program} {n m : Nat} {rnd : Option Nat} {items : List Item} {st : St} {Q : AExit → St → Prop} (g : (∀ x ∈ st.tmps, Lt st.h.blks.length st.h.loops.length x) → st.h.Lt → n ≤ st.h.blks.length → TodoSem P n m rnd items st Q) : TodoSem P n m rnd items st Q :=
  ⟨fun b E w tmps ds base h1 h2 hb h3 h4 => (g h1.lt h1.heap.lt h4).run b E w tmps ds base h1 h2 hb h3 h4⟩

theorem todo_dead {P : Program} {n m : Nat} {rnd : Option Nat} {items : List Item} {ts ts' : List AV} {B : List (Option Blk)} {k : Nat} {L : List (Option ALoop)} {Q0 Q : AExit → St → Prop} (hts : Less ts' ts)
    (hl : ∀ x ∈ ts', Lt B.length L.length x) (hh : (Heap.mk B L).Lt) (g : TodoSem P B.length m rnd items ⟨ts', ⟨B, L⟩⟩ Q0)
    (hq : ∀ e s, Q0 e s → s.h.blks.length = B.length ∧ s.h.Lt ∧ Q e ⟨s.tmps, ⟨s.h.blks ++ nones k, s.h.loops⟩⟩) (hn : n ≤ B.length + k) : TodoSem P n m rnd items ⟨ts, ⟨B ++ nones k, L⟩⟩ Q :=
  ⟨fun b E w tmps ds base h1 h2 hb h3 _ h5 kk cs => by
    have hs : StR E w ⟨ts', ⟨B, L⟩⟩ tmps := by
      refine ⟨(hr_dead hh).1 h1.heap, ⟨hts.1.trans h1.tmps.size, fun i hi hj => ?_⟩, hl⟩
      have hi' : i < ts.length := by rw [← hts.1]; exact hi
      rcases hts.2 i ts'[i] ts[i] (List.getElem?_eq_getElem hi) (List.getElem?_eq_getElem hi') with e | e
      · show VR _ _ ts'[i] _
        rw [e]; exact h1.tmps.val i hi' hj
      · show VR _ _ ts'[i] _
        rw [e]; exact .junk _
    obtain ⟨e, st', E', w', tmps', ds', q, r1, r2, r3, r4, r5, r6⟩ := g.run b E w tmps ds base hs h2 hb h3 (Nat.le_refl _) h5 kk cs
    obtain ⟨q1, q2, q3⟩ := hq e st' q
    obtain ⟨ts2, B2, L2⟩ := st'
    simp only at q1 q2 q3 r5
    refine ⟨e, _, E', w', tmps', ds', q3, ⟨(hr_dead q2).2 r1.heap, r1.tmps, fun x hx => ?_⟩, r2, ⟨⟨r3.keeps.cells, fun c hc Ls' hLs' => ?_, r3.keeps.loops⟩, r3.size, r3.os, r3.output, r3.tape, r3.same, r3.F', r3.foot'⟩, ?_, r5, r6⟩
    · exact (r1.lt x hx).mono (by simp) (Nat.le_refl _)
    · rcases Nat.lt_or_ge c B.length with hc' | hc'
      · exact r3.keeps.refs c hc' Ls' hLs'
      · have := r1.heap.dead c (by unfold Heap.blk?; rw [List.getElem?_eq_none (by show B2.length ≤ c; omega)]; rfl)
        rw [this] at hLs'; cases hLs'
    · show n ≤ (B2 ++ nones k).length
      simp; omega⟩

theorem todo_less {P : Program} {n m : Nat} {rnd : Option Nat} {items : List Item} {st : St} {Q0 Q : AExit → St → Prop} (g : TodoSem P n m rnd items st Q0)
    (hq : ∀ e s, s.h.Lt → (∀ x ∈ s.tmps, Lt s.h.blks.length s.h.loops.length x) → Q0 e s → ∃ ts' B G L, s.h = ⟨B ++ G, L⟩ ∧ Less ts' s.tmps ∧ (∀ x ∈ ts', Lt B.length L.length x) ∧ (Heap.mk B L).Lt ∧ n ≤ B.length ∧ Q e ⟨ts', ⟨B, L⟩⟩) : TodoSem P n m rnd items st Q :=
  ⟨fun b E w tmps ds base h1 h2 hb h3 h4 h5 kk cs => by
    obtain ⟨e, st', E', w', tmps', ds', q, r1, r2, r3, r4, r5, r6⟩ := g.run b E w tmps ds base h1 h2 hb h3 h4 h5 kk cs
    obtain ⟨ts', B, G, L, e1, e2, e3, e4, e5, e6⟩ := hq e st' r1.heap.lt r1.lt q
    obtain ⟨ts2, h2'⟩ := st'
    simp only at e1 e2 r5
    subst e1
    obtain ⟨k1, k2⟩ := hr_drop r1.heap e4 n m
    obtain ⟨_, k3⟩ := hr_drop r1.heap e4 (B ++ G).length L.length
    refine ⟨e, _, E'.only ⟨B, L⟩, w', tmps', ds', e6, ⟨k1, ⟨e2.1.trans r1.tmps.size, fun i hi hj => ?_⟩, e3⟩, r2.ext k2, r3.trans (Nat.le_refl _) (Nat.le_refl _) k2, e5, r5, r6⟩
    have hi' : i < ts2.length := by rw [← e2.1]; exact hi
    rcases e2.2 i ts'[i] ts2[i] (List.getElem?_eq_getElem hi) (List.getElem?_eq_getElem hi') with e | e
    · show VR _ _ ts'[i] _
      rw [e]; exact (r1.tmps.val i hi' hj).keep k3.keeps (r1.lt _ (List.getElem_mem hi'))
    · show VR _ _ ts'[i] _
      rw [e]; exact .junk _⟩

def RoundsD (P : Program) (l : Nat) : List (List AV) → List (Option Blk) → List (Option ALoop) → (List (Option Blk) → List (Option ALoop) → Prop) → Prop
  | [], B, L, K => K B L
  | v :: vs, B, L, K => ∀ k, callV P ⟨B ++ nones k, L⟩ (.yld l) v fun r h' => ∃ B' L', B'.length = B.length ∧ h' = ⟨B' ++ nones k, L'⟩ ∧ ((r = .bool true ∧ RoundsD P l vs B' L' K) ∨ (r = .bool false ∧ K B' L'))

structure IterSemD (P : Program) (g : FuncId) (cap : List AV) (vals : List (List AV)) : Prop where
  run : ∀ (B : List (Option Blk)) (L : List (Option ALoop)) (l : Nat) (K : List (Option Blk) → List (Option ALoop) → Prop), RoundsD P l vals B L K →
    CallSem P g ([.yld l] ++ cap) ⟨B, L⟩ fun r h' => r = .tup [] ∧ ∃ B' L' k, B'.length = B.length ∧ h' = ⟨B' ++ nones k, L'⟩ ∧ K B' L'

def LtB (B : List (Option Blk)) : Prop := ∀ b x, (Heap.mk B []).blk? b = some x → x.Lt B.length 0

omit [Gl] in
theorem lt_mk {B B0 : List (Option Blk)} {L0 : List (Option ALoop)} {ro : Option ALoop} {ts : List AV} (hB : LtB B) (hl : B.length = B0.length) (hh : (Heap.mk B0 L0).Lt) (ht : ∀ x ∈ ts, Lt B0.length L0.length x) (hr : ∀ r, ro = some r → r.tmps = ts) :
    (Heap.mk B (L0 ++ [ro])).Lt := by
  refine ⟨fun b x hb => (hB b x hb).mono (Nat.le_refl _) (Nat.zero_le _), fun l r hl' y hy => ?_⟩
  simp only [Heap.loop?, List.getElem?_append] at hl'
  split at hl'
  · have := hh.loops l r hl' y hy
    exact this.mono (by show B0.length ≤ B.length; omega) (by simp)
  · have e : ro = some r := by
      cases h : l - L0.length with
      | zero => rw [h] at hl'; simpa using hl'
      | succ q => rw [h] at hl'; simp at hl'
    have h1 := hr r e
    rw [h1] at hy
    exact (ht y hy).mono (by show B0.length ≤ B.length; omega) (by simp)

theorem range_iterD {P : Program} {n m : Nat} {rnd : Option Nat} {f : Operand} {ps : Array Tmp} {as body : Code} {g : FuncId} {cap : List AV} {vals : List (List AV)} {ts : List AV} {B0 : List (Option Blk)} {L0 : List (Option ALoop)} {Q : AExit → St → Prop}
    (it : IterSemD P g cap vals) (hf : (St.mk ts ⟨B0, L0⟩).ev f = .fn (.func g) [] cap) (hrd : ∀ l0, rnd = some l0 → ((Heap.mk B0 L0).loop? l0).isSome = true) (J : List (List AV) → List (Option Blk) → Prop) (h0 : J vals B0) (hB0 : LtB B0)
    (step : ∀ v vs B, J (v :: vs) B → B.length = B0.length → v.length = ps.size ∧ (∀ x ∈ v, Pure x) ∧ ∀ (r : ALoop),
      TodoSem P B.length (L0.length + 1) (some L0.length) [.code as] ⟨setParams ts ps.toList v, ⟨B, L0 ++ [some r]⟩⟩ fun e s => e = .normal ∧ ∃ B1, s.h = ⟨B1, L0 ++ [some r]⟩ ∧
        ∀ (r' : ALoop), TodoSem P B.length (L0.length + 1) (some L0.length) [.code body] ⟨s.tmps, ⟨B1, L0 ++ [some r']⟩⟩ fun e s => ∃ B' G, s.h = ⟨B' ++ G, L0 ++ [some r']⟩ ∧ B'.length = B.length ∧ LtB B' ∧
          (match e with | .normal => J vs B' | .jump j => isJump j = true ∧ Q (.jump j) ⟨ts, ⟨B', L0 ++ [none]⟩⟩))
    (hend : ∀ B, J [] B → B.length = B0.length → Q .normal ⟨ts, ⟨B, L0 ++ [none]⟩⟩) : TodoSem P n m rnd [.code (.rangeFunc f ps as body)] ⟨ts, ⟨B0, L0⟩⟩ Q := by
  refine todo_lt fun htl hhl hn => ?_
  simp only at htl hn
  let K' : List (Option Blk) → List (Option ALoop) → Prop := fun B L => ∃ r, L = L0 ++ [some r] ∧ r.tmps = ts ∧ LtB B ∧ B.length = B0.length ∧ r.state ≠ .busy ∧ (match r.pending with
    | none => Q .normal ⟨ts, ⟨B, L0 ++ [none]⟩⟩
    | some j => isJump j = true ∧ Q (.jump j) ⟨ts, ⟨B, L0 ++ [none]⟩⟩)
  refine todo_less (Q0 := fun e s => ∃ B k, B.length = B0.length ∧ LtB B ∧ s = ⟨ts, ⟨B ++ nones k, L0 ++ [none]⟩⟩ ∧ Q e ⟨ts, ⟨B, L0 ++ [none]⟩⟩) ?_ ?_
  rotate_left
  · rintro e s _ _ ⟨B, k, e1, e2, rfl, e3⟩
    exact ⟨ts, B, nones k, _, rfl, ⟨rfl, fun i x y hx hy => .inl (by rw [hx] at hy; injection hy)⟩, fun x hx => (htl x hx).mono (by omega) (by simp), lt_mk e2 e1 hhl htl (fun r h => by cases h), by omega, e3⟩
  have key : ∀ (vs : List (List AV)) (B : List (Option Blk)), J vs B → B.length = B0.length → LtB B →
      RoundsD P L0.length vs B (L0 ++ [some { state := .ready, pending := none, tmps := ts, params := ps, assign := as, body := body }]) K' := by
    intro vs
    induction vs with
    | nil =>
      intro B hJ hl hB
      exact ⟨_, rfl, rfl, hB, hl, by simp, hend B hJ hl⟩
    | cons v vs ih =>
      intro B hJ hl hB k
      obtain ⟨hn2, hp, hs⟩ := step v vs B hJ hl
      have hlp := loop?_last L0 (B ++ nones k) (some { state := .ready, pending := none, tmps := ts, params := ps, assign := as, body := body })
      simp only [callV, hlp]
      refine ⟨trivial, yield_sem hlp hn2 ?_⟩
      have hsp : ∀ x ∈ setParams ts ps.toList v, Lt B.length (L0 ++ [some ({ state := .ready, pending := none, tmps := ts, params := ps, assign := as, body := body } : ALoop)]).length x :=
        setParams_Lt _ _ _ (fun x hx => (htl x hx).mono (by omega) (by simp)) (fun x hx => (hp x hx).lt _ _)
      have run : TodoSem P B.length (L0.length + 1) (some L0.length) [.code as, .beginRound, .code body] ⟨setParams ts ps.toList v, ⟨B, L0 ++ [some { state := .ready, pending := none, tmps := ts, params := ps, assign := as, body := body }]⟩⟩
          (fun e s => ∃ B' G, s.h = ⟨B' ++ G, L0 ++ [some { state := .busy, pending := none, tmps := ts, params := ps, assign := as, body := body }]⟩ ∧ B'.length = B.length ∧ LtB B' ∧
            (match e with | .normal => J vs B' | .jump j => isJump j = true ∧ Q (.jump j) ⟨ts, ⟨B', L0 ++ [none]⟩⟩)) := by
        refine todo_append (xs := [.code as]) rfl ((hs _).mono fun e s hq => ?_)
        obtain ⟨rfl, B1, e1, hb⟩ := hq
        obtain ⟨ts1, hh⟩ := s
        simp only at e1 hb
        subst e1
        refine todo_append (xs := [.beginRound]) rfl (todo_beginRound (loop?_last _ _ _) rfl ?_)
        show TodoSem P _ _ _ [.code body] _ _
        simp only [setLoop_last]
        exact hb _
      refine todo_dead (ts' := setParams ts ps.toList v) (Q0 := fun e s => ∃ B', s.h = ⟨B', L0 ++ [some { state := .busy, pending := none, tmps := ts, params := ps, assign := as, body := body }]⟩ ∧ B'.length = B.length ∧ LtB B' ∧
          (match e with | .normal => J vs B' | .jump j => isJump j = true ∧ Q (.jump j) ⟨ts, ⟨B', L0 ++ [none]⟩⟩)) ⟨rfl, fun i x y hx hy => .inl (by rw [hx] at hy; injection hy)⟩ hsp (lt_mk hB hl hhl htl (fun r h => by injection h with h; subst h; rfl)) ?_ ?_ (by simp)
      · show TodoSem P B.length (L0 ++ [_]).length _ _ _ _
        rw [List.length_append]
        refine todo_less run ?_
        rintro e s _ _ ⟨B', G, e1, e2, e3, e4⟩
        refine ⟨s.tmps.map fun _ => .junk, B', G, _, e1, ⟨by simp, fun i x y hx hy => .inr ?_⟩, fun x hx => ?_, lt_mk e3 (e2.trans hl) hhl htl (fun r h => by injection h with h; subst h; rfl), by omega, B', rfl, e2, e3, e4⟩
        · rw [List.getElem?_map] at hx
          cases hq : s.tmps[i]? with
          | none => rw [hq] at hx; cases hx
          | some z => rw [hq] at hx; injection hx with hx; exact hx.symm
        · obtain ⟨z, _, rfl⟩ := List.mem_map.1 hx; exact .junk
      · rintro e s ⟨B', e1, e2, e3, e4⟩
        obtain ⟨ts1, hh⟩ := s
        simp only at e1
        subst e1
        refine ⟨e2, lt_mk e3 (e2.trans hl) hhl htl (fun r h => by injection h with h; subst h; rfl), ?_⟩
        unfold roundQ
        simp only [loop?_last]
        cases e with
        | normal =>
          simp only [setLoop_last]
          exact ⟨B', _, e2, rfl, .inl ⟨trivial, ih B' e4 (e2.trans hl) e3⟩⟩
        | jump j =>
          refine ⟨e4.1, ?_⟩
          simp only [setLoop_last]
          exact ⟨B', _, e2, rfl, .inr ⟨trivial, _, rfl, rfl, e3, e2.trans hl, by simp, e4⟩⟩
  refine t_rangeFunc hf hrd ((it.run B0 _ L0.length K' (key vals B0 h0 rfl hB0)).mono ?_)
  rintro r h' ⟨rfl, B', L', k, e1, rfl, r1, rfl, e2, e3, e4, e5, e6⟩
  unfold rangeQ
  simp only [loop?_last]
  refine ⟨e5, ?_⟩
  cases hp : r1.pending with
  | none =>
    rw [hp] at e6
    simp only [setLoop_last]
    exact ⟨B', k, e4, e3, rfl, e6⟩
  | some j =>
    rw [hp] at e6
    refine ⟨e6.1, ?_⟩
    simp only [setLoop_last]
    exact ⟨B', k, e4, e3, rfl, e6.2⟩

theorem callV_weak {P : Program} {h0 h : Heap} {l : Nat} {args : List AV} {K : AV → Heap → Prop} (hle : h0.le h) (g : callV P h0 (.yld l) args K) : callV P h (.yld l) args K := by
  simp only [callV] at g ⊢
  obtain ⟨g1, g2⟩ := g
  have hl : h.loop? l = h0.loop? l := by unfold Heap.loop?; rw [hle.2.1]
  refine ⟨by rw [hl]; exact g1, ⟨fun E w t hr hs c cs hat => ?_⟩⟩
  obtain ⟨o, vs, h1, h2, h3, h4⟩ := hs
  obtain ⟨k1, k2⟩ := hr_only hr hle h.blks.length h.loops.length
  obtain ⟨r, h', E', w', v, q, s1, s2, s3, s4, s5, s6, s7⟩ := g2.run (E.only h0) w t k1 ⟨o, vs, h1, h2.keep k2.keeps h3, fun x hx => by rw [hle.1, hle.2.1]; exact h3 x hx, h4⟩ c cs hat
  rw [hle.1] at s4 s6
  rw [hle.2.1] at s5 s6
  exact ⟨r, h', E', w', v, q, s1, s2, s3, s4, s5, k2.trans (Nat.le_refl _) (Nat.le_refl _) s6, s7⟩

omit [Gl] in
theorem loop?_deadl (B : List (Option Blk)) (k l : Nat) : (Heap.mk B (List.replicate k none)).loop? l = none := by
  unfold Heap.loop?
  simp only [List.getElem?_replicate]
  split <;> rfl

theorem hr_deadl {E : Env} {w : World} {B : List (Option Blk)} {k : Nat} (hB : LtB B) (hr : HR E w ⟨B, List.replicate k none⟩) : HR E w ⟨B, []⟩ :=
  ⟨hr.dead, hr.rows, hr.maps, hr.apart, fun l _ => hr.deadl l (loop?_deadl B k l), fun l r h => by simp [Heap.loop?] at h, hr.lapart, ⟨hB, fun l r h => by simp [Heap.loop?] at h⟩, hr.inside, hr.globs⟩

theorem call_drop {P : Program} {f : FuncId} {args : List AV} {h : Heap} {K K' : AV → Heap → Prop} (g : CallSem P f args h K') (hl : h.loops = [])
    (hk : ∀ r h', K' r h' → ∃ B G k, h' = ⟨B ++ G, List.replicate k none⟩ ∧ h.blks.length ≤ B.length ∧ LtB B ∧ Lt B.length 0 r ∧ K r ⟨B, []⟩) : CallSem P f args h K :=
  ⟨g.ok, fun E w vs h1 h2 h3 cs => by
    obtain ⟨r, h', E', w', v, fr, q, s1, s2, s3, s4, s5, s6, s7⟩ := g.run E w vs h1 h2 h3 cs
    obtain ⟨B, G, k, rfl, e2, e3, e4, e5⟩ := hk r h' q
    have hlt : (Heap.mk B (List.replicate k none)).Lt := ⟨fun b x hb => (e3 b x hb).mono (Nat.le_refl _) (Nat.zero_le _), fun l r h => by rw [loop?_deadl] at h; cases h⟩
    obtain ⟨k1, k2⟩ := hr_drop s2 hlt h.blks.length h.loops.length
    obtain ⟨_, k3⟩ := hr_drop s2 hlt B.length 0
    refine ⟨r, _, E'.only ⟨B, List.replicate k none⟩, w', v, fr, e5, s1.keep k3.keeps e4, hr_deadl e3 k1, e4, e2, by rw [hl]; exact Nat.zero_le _, s6.trans (Nat.le_refl _) (Nat.le_refl _) k2, s7⟩⟩

theorem call_cell {P : Program} {f : FuncId} {rest : List AV} {h : Heap} {A : Type} {Φ : A → Prop} {row : List AV} {row' : A → List AV} {B : Nat} {R : AV} {K : AV → Heap → Prop} (hb : h.blk? B = some (.rows [row] false false)) (hB : B < h.blks.length)
    (hfz : ∀ (b : Nat) (rs : List (List AV)) (g fz : Bool), h.blk? b = some (.rows rs g fz) → fz = false) (ha : ∀ x ∈ rest, Pure x) (hp : ∀ x ∈ row, Pure x) (hp' : ∀ a, Φ a → ∀ x ∈ row' a, Pure x)
    (hc : CallSem P f (.ptr 0 0 0 :: rest) ⟨[some (.rows [row] false false)], []⟩ fun r h' => r = R ∧ ∃ a, Φ a ∧ h' = ⟨[some (.rows [row' a] false false)], []⟩) (hR : Pure R)
    (hk : ∀ a, Φ a → K R (h.put B (.rows [row' a] false false))) : CallSem P f (.ptr B 0 0 :: rest) h K := by
  have ren : ∀ (σ : Nat → Nat) (m : Nat) (l : List AV), (∀ x ∈ l, Pure x) → BRen σ m (some (.rows [l] false false)) (some (.rows [l] false false)) := fun σ m l hl =>
    .rows _ _ _ _ rfl (fun i hi hj => rfl) fun i hi hj j h1 h2 => by
      have : i = 0 := by simpa using hi
      subst this
      exact .pure _ (hl _ (List.getElem_mem h1))
  refine call_embed (args1 := .ptr 0 0 0 :: rest) (σ := fun b => if b = 0 then B else h.blks.length + (b - 1)) (n1 := 1) (h1 := ⟨[some (.rows [row] false false)], []⟩) ⟨⟨fun b hb => ?_, fun b hb => ?_, fun b c h => ?_⟩, rfl, rfl, ⟨fun b x hb => ?_, fun b x hb => ?_⟩, fun b hb' => ?_, fun b rs g fz _ hb => hfz b rs g fz hb⟩ rfl
    (fun i hi hj => ?_) (fun x hx => ?_) hc ?_
  · rw [if_pos (by omega)]; exact hB
  · rw [if_neg (by omega)]
  · split at h <;> split at h <;> omega
  · cases b with
    | zero =>
      obtain rfl : Blk.rows [row] false false = x := by simpa [Heap.blk?] using hb
      intro r hr y hy
      obtain rfl : r = row := by simpa using hr
      exact (hp y hy).lt _ _
    | succ b => simp [Heap.blk?] at hb
  · simp [Heap.loop?] at hb
  · obtain rfl : b = 0 := by omega
    show BRen _ _ (some (.rows [row] false false)) (h.blk? B)
    rw [hb]
    exact ren _ _ _ hp
  · cases i with
    | zero => exact .ptr 0 0 0
    | succ i => exact .pure _ (ha _ (List.getElem_mem _))
  · rcases List.mem_cons.1 hx with rfl | hx
    · exact .ptr _ _ _ (by omega)
    · exact (ha x hx).lt _ _
  · rintro r1 h1' ⟨rfl, a, hΦ, rfl⟩ _
    refine ⟨_, _, .pure _ hR, ⟨?_, ?_, ?_, ?_, ?_, ?_⟩, hk a hΦ⟩
    · simp [Heap.put]
    · intro b hb'
      obtain rfl : b = 0 := by simp at hb'; omega
      have e : (h.put B (.rows [row' a] false false)).blk? B = some (.rows [row' a] false false) := by simp [Heap.put, Heap.blk?, hB]
      show BRen _ _ (some (.rows [row' a] false false)) ((h.put B (.rows [row' a] false false)).blk? B)
      rw [e]
      exact ren _ _ _ (hp' a hΦ)
    · intro b hb' hne
      have : B ≠ b := hne 0 (by omega)
      simp [Heap.put, Heap.blk?, List.getElem?_set_ne this]
    · exact Nat.le_refl _
    · intro l' _; rfl
    · intro l' hl'
      show (h.loops[l']?).join = none
      rw [List.getElem?_eq_none hl']; rfl
end
end Go.Abs

namespace Go.Abs
noncomputable section
variable [Gl]

def matchR (σ : Nat → Nat) (N : Nat) (ts : List AV) : List (Nat × AV) → Prop
  | [] => True
  | (i, x) :: l => (∃ y, ts[i]? = some y ∧ RenF σ N x y) ∧ matchR σ N ts l
omit [Gl] in
theorem matchR_look {σ : Nat → Nat} {N : Nat} {ts : List AV} : ∀ {l : List (Nat × AV)}, matchR σ N ts l → ∀ i x, look l i = some x → ∃ y, ts[i]? = some y ∧ RenF σ N x y
  | [], _, i, x, h => by cases h
  | (a, z) :: l, hm, i, x, h => by
    unfold look at h
    split at h
    · rename_i e
      obtain rfl := Nat.eq_of_beq_eq_true e
      injection h with h; subst h
      exact hm.1
    · exact matchR_look hm.2 i x h

structure RenH (N len : Nat) (pt : List (Nat × AV)) (hp : Heap) (l : List Nat) (s : St) : Prop where
  perm : permB l s.h.blks.length = true
  fix : ((List.range N).all fun b => Nat.beq (muN l s.h.blks.length b) b) = true
  blen : hp.blks.length = s.h.blks.length
  low : N ≤ s.h.blks.length
  blks : ∀ b, b < s.h.blks.length → BRenF (muN l s.h.blks.length) N (hp.blk? b) (s.h.blk? (muN l s.h.blks.length b))
  loops : s.h.loops = [] ∧ hp.loops = []
  tlen : s.tmps.length = len
  tmps : matchR (muN l s.h.blks.length) N s.tmps pt

theorem RenH.st {N len : Nat} {pt : List (Nat × AV)} {hp : Heap} {l : List Nat} {s : St} (h : RenH N len pt hp l s) :
    RenSt (muN l s.h.blks.length) (kapN l s.h.blks.length) N ⟨patF pt (fun _ => .junk) len 0, hp⟩ s := by
  obtain ⟨v1, v2, v3, v4⟩ := permB_ok h.perm
  have out : ∀ b, ¬ b < s.h.blks.length → muN l s.h.blks.length b = b := fun b hb => by
    unfold muN
    have : Nat.blt b s.h.blks.length = false := by rw [← Bool.not_eq_true, Nat.blt_eq]; exact hb
    rw [this]
  refine ⟨⟨v1, v2, fun b hb => ?_⟩, h.blen, h.low, fun b hb => ?_, fun b => ?_, by rw [h.loops.1]; exact h.loops.2, fun l' r hr => ?_, ?_, fun i hi hj => ?_⟩
  · exact Nat.eq_of_beq_eq_true ((List.all_eq_true.1 h.fix) b (List.mem_range.2 hb))
  · rcases Nat.lt_or_ge b s.h.blks.length with hh | hh
    · exact hh
    · rw [out b (by omega)] at hb; exact hb
  · rcases Nat.lt_or_ge b s.h.blks.length with hh | hh
    · exact h.blks b hh
    · rw [out b (by omega)]
      have e1 : hp.blk? b = none := by
        have := h.blen
        simp only [Heap.blk?, List.getElem?_eq_none (show hp.blks.length ≤ b by omega)]
        rfl
      have e2 : s.h.blk? b = none := by
        simp only [Heap.blk?, List.getElem?_eq_none hh]
        rfl
      rw [show (St.mk (patF pt (fun _ => .junk) len 0) hp).h.blk? b = none from e1, e2]
      exact .dead
  · rw [loop_nil h.loops.1] at hr; cases hr
  · show (patF pt (fun _ => .junk) len 0).length = _
    rw [patF_len, h.tlen]
  · have hg : (patF pt (fun _ => AV.junk) len 0)[i]? = some ((patF pt (fun _ => AV.junk) len 0)[i]'hi) := List.getElem?_eq_getElem hi
    rcases patF_get len 0 i _ hg with h1 | ⟨_, h2⟩
    · rw [Nat.zero_add] at h1
      obtain ⟨y, k1, k2⟩ := matchR_look h.tmps i _ h1
      rw [List.getElem?_eq_getElem hj] at k1
      injection k1 with k1
      rw [k1]; exact k2
    · show RenF _ _ ((patF pt (fun _ => AV.junk) len 0)[i]'hi) _
      rw [h2]; exact .junk _

section ord
variable [Bare] [FH] {P : Program} {T : Tab} {n m : Nat} {rnd : Option Nat} {ops : Array Oper} {Q : AExit → St → Prop}

omit [FH] in
theorem ord_two {opx : Array Oper} {st : St} {π ρ : Nat → Nat} {X : List (Nat × Nat)} (sm : Sim ops opx π ρ X) (a b : Nat) (hab : a ≠ b) (ha : a < opx.size) (hb : b < opx.size) (hp : permB (ordN opx a b) opx.size = true)
    (hA : ∀ π ρ X, Sim ops (numOps opx (fun i => i) (fun i => i) a b) π ρ X → OrdSem P n m rnd ops X st Q)
    (hB : ∀ π ρ X, Sim ops (numOps opx (kapN (ordN opx a b) opx.size) (muN (ordN opx a b) opx.size) (kapN (ordN opx a b) opx.size b) (kapN (ordN opx a b) opx.size a)) π ρ X → OrdSem P n m rnd ops X st Q) :
    OrdSem P n m rnd ops X st Q := by
  obtain ⟨v1, v2, v3, v4⟩ := permB_ok hp
  have hne : ρ a ≠ ρ b := fun e => by
    have := congrArg π e
    rw [sm.rp, sm.rp] at this
    exact hab this
  refine ord_split hne (hA _ _ _ (sm.step (κ := fun i => i) (μ := fun i => i) (p := a) (q := b) (fun _ => rfl) (fun _ => rfl) (fun _ h => h) (fun _ h => h) ha)) ?_
  have := hB _ _ _ (sm.step (κ := kapN (ordN opx a b) opx.size) (μ := muN (ordN opx a b) opx.size) (p := kapN (ordN opx a b) opx.size b) (q := kapN (ordN opx a b) opx.size a) v1 v2 v3 v4 (v3 b hb))
  rw [v1, v1] at this
  exact this

theorem ord_leaf {opx : Array Oper} {π ρ : Nat → Nat} {X : List (Nat × Nat)} {A0 : List AV} {h : Heap} (hT : TabOK P T) (N len : Nat) (pt : List (Nat × AV)) (hp : Heap) (l : List Nat) (hN : h.blks.length ≤ N)
    (main : ∀ g, patK pt g len 0 fun ts => FH.fh hp fun h => Q .normal ⟨ts, h⟩) (sm : Sim ops opx π ρ X) (d : drawB opx = true)
    (leaf : opsD P T opx (fun e s => match e with | .normal => RenH N len pt hp l s | .jump _ => False) opx.toList 0 [] [] ⟨A0, h⟩) : OrdSem P n m rnd ops X ⟨A0, h⟩ Q := by
  refine ord_ren fun t hk => ?_
  obtain ⟨V, isW, H, pl, h0, hq⟩ := opsD_plan d leaf
  refine plan_zero h0 (sim_sound sm pl hT hk ⟨_, _, N, _, hN, hq.st, ?_⟩)
  have := main fun _ => .junk
  rw [patK_eq, FH.eq] at this
  exact this

def opA (ops : Array Oper) (a b : Nat) : Array Oper := numOps ops (fun i => i) (fun i => i) a b
def opB (ops : Array Oper) (a b : Nat) : Array Oper := numOps ops (kapN (ordN ops a b) ops.size) (muN (ordN ops a b) ops.size) (kapN (ordN ops a b) ops.size b) (kapN (ordN ops a b) ops.size a)
def kB (ops : Array Oper) (a b x : Nat) : Nat := kapN (ordN ops a b) ops.size x
def twoB (ops : Array Oper) (a b : Nat) : Bool := !(Nat.beq a b) && Nat.blt a ops.size && Nat.blt b ops.size && permB (ordN ops a b) ops.size
omit [FH] in
theorem ord_two' {opx : Array Oper} {st : St} (a b : Nat) (h : twoB opx a b = true)
    (hA : ∀ π ρ X, Sim ops (opA opx a b) π ρ X → OrdSem P n m rnd ops X st Q) (hB : ∀ π ρ X, Sim ops (opB opx a b) π ρ X → OrdSem P n m rnd ops X st Q) : ∀ π ρ X, Sim ops opx π ρ X → OrdSem P n m rnd ops X st Q := fun π ρ X sm => by
  simp only [twoB, Bool.and_eq_true, Bool.not_eq_true', Nat.blt_eq] at h
  obtain ⟨⟨⟨h1, h2⟩, h3⟩, h4⟩ := h
  exact ord_two sm a b (fun e => by subst e; rw [Nat.beq_refl] at h1; cases h1) h2 h3 h4 hA hB

def threeB (ops : Array Oper) (a b c : Nat) : Bool :=
  twoB ops a b && twoB (opA ops a b) b c && twoB (opB (opA ops a b) b c) (kB (opA ops a b) b c a) (kB (opA ops a b) b c c) &&
  twoB (opB ops a b) (kB ops a b a) (kB ops a b c) && twoB (opB (opB ops a b) (kB ops a b a) (kB ops a b c)) (kB (opB ops a b) (kB ops a b a) (kB ops a b c) (kB ops a b b)) (kB (opB ops a b) (kB ops a b a) (kB ops a b c) (kB ops a b c))
def three1 (ops : Array Oper) (a b c : Nat) : Array Oper := opA (opA ops a b) b c
def three2 (ops : Array Oper) (a b c : Nat) : Array Oper := opA (opB (opA ops a b) b c) (kB (opA ops a b) b c a) (kB (opA ops a b) b c c)
def three3 (ops : Array Oper) (a b c : Nat) : Array Oper := opB (opB (opA ops a b) b c) (kB (opA ops a b) b c a) (kB (opA ops a b) b c c)
def three4 (ops : Array Oper) (a b c : Nat) : Array Oper := opA (opB ops a b) (kB ops a b a) (kB ops a b c)
def three5 (ops : Array Oper) (a b c : Nat) : Array Oper := opA (opB (opB ops a b) (kB ops a b a) (kB ops a b c)) (kB (opB ops a b) (kB ops a b a) (kB ops a b c) (kB ops a b b)) (kB (opB ops a b) (kB ops a b a) (kB ops a b c) (kB ops a b c))
def three6 (ops : Array Oper) (a b c : Nat) : Array Oper := opB (opB (opB ops a b) (kB ops a b a) (kB ops a b c)) (kB (opB ops a b) (kB ops a b a) (kB ops a b c) (kB ops a b b)) (kB (opB ops a b) (kB ops a b a) (kB ops a b c) (kB ops a b c))

theorem region_three {A0 : List AV} {h : Heap} {id : Nat} (hT : TabOK P T) (hm : P.follows .mixedOrders = true) (a b c : Nat) (N len : Nat) (pt : List (Nat × AV)) (hp : Heap) (hN : h.blks.length ≤ N) (hb : threeB ops a b c = true)
    (hd : (drawB (three1 ops a b c) && drawB (three2 ops a b c) && drawB (three3 ops a b c) && drawB (three4 ops a b c) && drawB (three5 ops a b c) && drawB (three6 ops a b c)) = true)
    (main : ∀ g, patK pt g len 0 fun ts => FH.fh hp fun h => Q .normal ⟨ts, h⟩)
    (l1 l2 l3 l4 l5 l6 : List Nat)
    (q1 : opsD P T (three1 ops a b c) (fun e s => match e with | .normal => RenH N len pt hp l1 s | .jump _ => False) (three1 ops a b c).toList 0 [] [] ⟨A0, h⟩)
    (q2 : opsD P T (three2 ops a b c) (fun e s => match e with | .normal => RenH N len pt hp l2 s | .jump _ => False) (three2 ops a b c).toList 0 [] [] ⟨A0, h⟩)
    (q3 : opsD P T (three3 ops a b c) (fun e s => match e with | .normal => RenH N len pt hp l3 s | .jump _ => False) (three3 ops a b c).toList 0 [] [] ⟨A0, h⟩)
    (q4 : opsD P T (three4 ops a b c) (fun e s => match e with | .normal => RenH N len pt hp l4 s | .jump _ => False) (three4 ops a b c).toList 0 [] [] ⟨A0, h⟩)
    (q5 : opsD P T (three5 ops a b c) (fun e s => match e with | .normal => RenH N len pt hp l5 s | .jump _ => False) (three5 ops a b c).toList 0 [] [] ⟨A0, h⟩)
    (q6 : opsD P T (three6 ops a b c) (fun e s => match e with | .normal => RenH N len pt hp l6 s | .jump _ => False) (three6 ops a b c).toList 0 [] [] ⟨A0, h⟩) :
    TodoSem P n m rnd [.code (.region id ops true)] ⟨A0, h⟩ Q := by
  simp only [threeB, Bool.and_eq_true] at hb
  obtain ⟨⟨⟨⟨b1, b2⟩, b3⟩, b4⟩, b5⟩ := hb
  simp only [Bool.and_eq_true] at hd
  obtain ⟨⟨⟨⟨⟨d1, d2⟩, d3⟩, d4⟩, d5⟩, d6⟩ := hd
  exact ord_region hm (ord_two' a b b1
    (ord_two' b c b2 (fun _ _ _ sm => ord_leaf hT N len pt hp l1 hN main sm d1 q1)
      (ord_two' _ _ b3 (fun _ _ _ sm => ord_leaf hT N len pt hp l2 hN main sm d2 q2) (fun _ _ _ sm => ord_leaf hT N len pt hp l3 hN main sm d3 q3)))
    (ord_two' _ _ b4 (fun _ _ _ sm => ord_leaf hT N len pt hp l4 hN main sm d4 q4)
      (ord_two' _ _ b5 (fun _ _ _ sm => ord_leaf hT N len pt hp l5 hN main sm d5 q5) (fun _ _ _ sm => ord_leaf hT N len pt hp l6 hN main sm d6 q6)))
    _ _ _ (Sim.id ops))
end ord
end
end Go.Abs

namespace Go.Abs
noncomputable section

theorem u64_wrap (n : Nat) (h : n < 18446744073709551616) : IntKind.u64.wrap (n : Int) = (n : Int) := IntWalk.u64_in _ (by omega)

def bitE (x s : Int) : Int := IntKind.u64.wrap ((BitVec.ofInt IntKind.u64.bits (x.fdiv (2 ^ (min s.toNat IntKind.u64.bits))) &&& BitVec.ofInt IntKind.u64.bits 1).toNat)

theorem bitE_nat (x s : Nat) (hs : s < 64) : bitE x s = ((if x.testBit s then 1 else 0 : Nat) : Int) := by
  unfold bitE
  have hb : IntKind.u64.bits = 64 := rfl
  rw [hb, Int.toNat_natCast, Nat.min_eq_left (by omega)]
  have e1 : ((x : Int)).fdiv (2 ^ s) = ((x / 2 ^ s : Nat) : Int) := by
    rw [Int.fdiv_eq_ediv_of_nonneg _ (by exact_mod_cast Nat.zero_le (2 ^ s))]
    push_cast; rfl
  rw [e1, BitVec.ofInt_natCast]
  have e2 : (BitVec.ofNat 64 (x / 2 ^ s) &&& BitVec.ofInt 64 1).toNat = if x.testBit s then 1 else 0 := by
    have : BitVec.ofInt 64 1 = BitVec.ofNat 64 1 := rfl
    rw [this, BitVec.toNat_and, BitVec.toNat_ofNat, BitVec.toNat_ofNat]
    rw [show (1 : Nat) % 2 ^ 64 = 1 from by decide, Nat.and_one_is_mod, Nat.mod_mod_of_dvd _ (by decide : 2 ∣ 2 ^ 64)]
    rw [Nat.testBit_eq_decide_div_mod_eq]
    rcases Nat.mod_two_eq_zero_or_one (x / 2 ^ s) with h | h <;> simp [h]
  rw [e2]
  split <;> exact u64_wrap _ (by omega)

theorem bitE_eq1 (x s : Nat) (hs : s < 64) : (bitE x s == 1) = x.testBit s := by
  rw [bitE_nat x s hs]
  cases x.testBit s <;> rfl
theorem bitE_eq0 (x s : Nat) (hs : s < 64) : (bitE x s == 0) = !x.testBit s := by
  rw [bitE_nat x s hs]
  cases x.testBit s <;> rfl

def diffN (a b : Nat) : Nat := (BitVec.ofNat 64 a &&& ~~~ BitVec.ofNat 64 b).toNat
theorem diffN_lt (a b : Nat) : diffN a b < 18446744073709551616 := (BitVec.ofNat 64 a &&& ~~~ BitVec.ofNat 64 b).isLt
theorem diffN_bit (a b i : Nat) (hi : i < 64) : (diffN a b).testBit i = (a.testBit i && !b.testBit i) := by
  unfold diffN
  rw [← BitVec.getLsbD, BitVec.getLsbD_and, BitVec.getLsbD_not, BitVec.getLsbD_ofNat, BitVec.getLsbD_ofNat]
  simp [hi]
theorem diffE (a b : Nat) : IntKind.u64.wrap ((BitVec.ofInt IntKind.u64.bits (a : Int) &&& ~~~ BitVec.ofInt IntKind.u64.bits (b : Int)).toNat) = ((diffN a b : Nat) : Int) := by
  have hb : IntKind.u64.bits = 64 := rfl
  rw [hb, BitVec.ofInt_natCast, BitVec.ofInt_natCast]
  exact u64_wrap _ (diffN_lt a b)

theorem addE (x s : Nat) (hx : x < 18446744073709551616) (hs : s < 64) :
    IntKind.u64.wrap ((BitVec.ofInt IntKind.u64.bits (x : Int) ||| BitVec.ofInt IntKind.u64.bits (IntKind.u64.wrap (1 * 2 ^ (min (s : Int).toNat IntKind.u64.bits)))).toNat) = ((x ||| 2 ^ s : Nat) : Int) := by
  have hb : IntKind.u64.bits = 64 := rfl
  have hp : 2 ^ s < 18446744073709551616 := Nat.pow_lt_pow_right (by decide : 1 < 2) hs
  rw [hb, Int.toNat_natCast, Nat.min_eq_left (by omega)]
  have e1 : (1 : Int) * 2 ^ s = ((2 ^ s : Nat) : Int) := by push_cast; omega
  rw [e1, u64_wrap _ hp, BitVec.ofInt_natCast, BitVec.ofInt_natCast, BitVec.toNat_or, BitVec.toNat_ofNat, BitVec.toNat_ofNat, Nat.mod_eq_of_lt hx, Nat.mod_eq_of_lt hp]
  exact u64_wrap _ (Nat.or_lt_two_pow (n := 64) hx hp)

def allN (n : Nat) : Nat := 2 ^ n - 1
theorem allE0 (n : Nat) (hn : n < 64) : IntKind.u64.wrap (1 * 2 ^ (min (n : Int).toNat IntKind.u64.bits)) - 1 = ((allN n : Nat) : Int) := by
  have hb : IntKind.u64.bits = 64 := rfl
  have hp : 2 ^ n < 18446744073709551616 := Nat.pow_lt_pow_right (by decide : 1 < 2) hn
  have h0 : 0 < 2 ^ n := Nat.two_pow_pos n
  rw [hb, Int.toNat_natCast, Nat.min_eq_left (by omega)]
  have e1 : (1 : Int) * 2 ^ n = ((2 ^ n : Nat) : Int) := by push_cast; omega
  rw [e1, u64_wrap _ hp]
  unfold allN
  omega
theorem allN_bit (n i : Nat) : (allN n).testBit i = decide (i < n) := Nat.testBit_two_pow_sub_one n i
theorem allN_lt (n : Nat) (hn : n < 64) : allN n < 18446744073709551616 := by
  have hp : 2 ^ n < 18446744073709551616 := Nat.pow_lt_pow_right (by decide : 1 < 2) hn
  unfold allN; omega
end
end Go.Abs

namespace Go.Abs
noncomputable section
variable [Gl]

theorem todo_dropl {P : Program} {n : Nat} {rnd : Option Nat} {items : List Item} {ts ts' : List AV} {B : List (Option Blk)} {j : Nat} {Q : AExit → St → Prop} (hts : Less ts' ts) (hl : ∀ x ∈ ts', Lt B.length 0 x) (hB : LtB B)
    (g : TodoSem P n 0 rnd items ⟨ts', ⟨B, []⟩⟩ Q) : TodoSem P n 0 rnd items ⟨ts, ⟨B, List.replicate j none⟩⟩ Q :=
  ⟨fun b E w tmps ds base h1 h2 hb h3 h4 _ kk cs => by
    have hs : StR E w ⟨ts', ⟨B, []⟩⟩ tmps := by
      refine ⟨hr_deadl hB h1.heap, ⟨hts.1.trans h1.tmps.size, fun i hi hj => ?_⟩, hl⟩
      have hi' : i < ts.length := by rw [← hts.1]; exact hi
      rcases hts.2 i ts'[i] ts[i] (List.getElem?_eq_getElem hi) (List.getElem?_eq_getElem hi') with e | e
      · show VR _ _ ts'[i] _
        rw [e]; exact h1.tmps.val i hi' hj
      · show VR _ _ ts'[i] _
        rw [e]; exact .junk _
    exact g.run b E w tmps ds base hs h2 hb h3 h4 (Nat.zero_le _) kk cs⟩

def Fits {A : Type} (ts : A → List AV) (H : A → List (Option Blk)) (a : A) (s : St) : Prop := ∃ j, s.h = ⟨H a, List.replicate j none⟩ ∧ Less (ts a) s.tmps

theorem scope_loop {P : Program} {n : Nat} {rnd : Option Nat} {r1 b : Code} {l : Nat} {st0 : St} {Q : AExit → St → Prop} {A : Type} (mea : A → Nat) (I : A → Prop) (ts : A → List AV) (H : A → List (Option Blk))
    (hr1 : findLabel r1 l = none) (side : ∀ a, I a → (∀ x ∈ ts a, Lt (H a).length 0 x) ∧ LtB (H a))
    (first : TodoSem P n 0 rnd [.code r1] st0 fun e s => e = .normal ∧ ∃ a, I a ∧ Fits ts H a s)
    (step : ∀ a, I a → TodoSem P n 0 rnd [.code b] ⟨ts a, ⟨H a, []⟩⟩ fun e s => match e with
      | .jump (.goto l') => l' = l ∧ ∃ a', mea a' < mea a ∧ I a' ∧ Fits ts H a' s
      | e => Q e s) : TodoSem P n 0 rnd [.code (.seq r1 (.seq (.label l) b)), .inScope (.seq r1 (.seq (.label l) b))] st0 Q := by
  have hfl : findLabel (.seq r1 (.seq (.label l) b)) l = some (.seq .skip b) := by simp [findLabel, hr1]
  have key : ∀ (k : Nat) (a : A), mea a = k → I a → ∀ x : Code, (x = b ∨ x = .seq .skip b) → TodoSem P n 0 rnd [.code x, .inScope (.seq r1 (.seq (.label l) b))] ⟨ts a, ⟨H a, []⟩⟩ Q := by
    intro k
    induction k using Nat.strongRecOn with
    | ind k ih =>
      intro a hk hI x hx
      have hb : TodoSem P n 0 rnd [.code b] ⟨ts a, ⟨H a, []⟩⟩ (InScope P n 0 rnd (.seq r1 (.seq (.label l) b)) Q) := by
        refine (step a hI).mono fun e s hq => ?_
        cases e with
        | normal => exact hq
        | jump j =>
          cases j with
          | goto l' =>
            obtain ⟨rfl, a', h1, h2, j, h3, h4⟩ := hq
            simp only [InScope, hfl]
            obtain ⟨ts1, h⟩ := s
            simp only at h3 h4
            subst h3
            obtain ⟨s1, s2⟩ := side a' h2
            exact todo_dropl h4 s1 s2 (ih (mea a') (hk ▸ h1) a' rfl h2 _ (.inr rfl))
          | _ => exact hq
      refine t_inScope ?_
      rcases hx with rfl | rfl
      · exact hb
      · exact t_seq (t_skip hb)
  have last : ∀ (a : A) (s : St), I a → Fits ts H a s → TodoSem P n 0 rnd [.code b] s (InScope P n 0 rnd (.seq r1 (.seq (.label l) b)) Q) := by
    intro a s hI ⟨j, h3, h4⟩
    obtain ⟨ts1, h⟩ := s
    simp only at h3 h4
    subst h3
    obtain ⟨s1, s2⟩ := side a hI
    refine todo_dropl h4 s1 s2 ((step a hI).mono fun e s hq => ?_)
    cases e with
    | normal => exact hq
    | jump j =>
      cases j with
      | goto l' =>
        obtain ⟨rfl, a', h1, h2, j, h3, h4⟩ := hq
        simp only [InScope, hfl]
        obtain ⟨ts1, h⟩ := s
        simp only at h3 h4
        subst h3
        obtain ⟨s1, s2⟩ := side a' h2
        exact todo_dropl h4 s1 s2 (key (mea a') a' rfl h2 _ (.inr rfl))
      | _ => exact hq
  refine t_inScope (t_seq (first.mono fun e s hq => ?_))
  obtain ⟨rfl, a, hI, hF⟩ := hq
  exact t_seq (t_label (last a s hI hF))
end
end Go.Abs
