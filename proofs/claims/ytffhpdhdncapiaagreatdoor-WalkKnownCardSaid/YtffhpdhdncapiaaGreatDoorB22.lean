/-
  Steps to a law of this program: AbsCut, AbsCut2.
  Conditions: none.
-/
import Derived.Test.YtffhpdhdncapiaaGreatDoorB21
set_option linter.unusedVariables false
set_option linter.unusedSimpArgs false
set_option linter.unusedSectionVars false
namespace Go.Abs
noncomputable section
variable [Gl]

section weak
def Heap.le (h0 h : Heap) : Prop := h0.blks.length = h.blks.length ∧ h0.loops = h.loops ∧ ∀ b x, h0.blk? b = some x → h.blk? b = some x
omit [Gl] in
theorem Heap.le_refl (h : Heap) : h.le h := ⟨rfl, rfl, fun _ _ h => h⟩
def Env.only (E : Env) (h0 : Heap) : Env := { E with ρ := fun b => match h0.blk? b with | some _ => E.ρ b | none => none }

theorem hr_only {E : Env} {w : World} {h h0 : Heap} (hr : HR E w h) (hle : h0.le h) (n m : Nat) : HR (E.only h0) w h0 ∧ Ext n m E w (E.only h0) w := by
  obtain ⟨l1, l2, l3⟩ := hle
  have hin : ∀ b x, h0.blk? b = some x → (E.only h0).ρ b = E.ρ b := fun b x hb => by simp [Env.only, hb]
  have hout : ∀ b Ls, (E.only h0).ρ b = some Ls → E.ρ b = some Ls := fun b Ls hb => by
    cases hx : h0.blk? b with
    | none => simp [Env.only, hx] at hb
    | some x => rw [hin b x hx] at hb; exact hb
  have keeps : ∀ n m, Keeps n m E w (E.only h0) w := fun n m =>
    ⟨fun B o v a b => ⟨a, b⟩, fun b _ Ls' hLs' => ⟨Ls', hout b Ls' hLs', fun L hL => ⟨L, hL, rfl, rfl, rfl, rfl, Nat.le_refl _⟩⟩, fun _ _ _ h => h⟩
  have hfoot : ∀ B, foot (E.only h0) B → foot E B := by
    rintro B (⟨b, Ls, L, h1, h2, rfl⟩ | ⟨l, h1⟩)
    · exact .inl ⟨b, Ls, L, hout b Ls h1, h2, rfl⟩
    · exact .inr ⟨l, h1⟩
  refine andx (B := Ext ..) ⟨keeps n m, Nat.le_refl _, rfl, rfl, rfl, fun _ _ _ => rfl, fun _ _ h => .inl h, fun B _ h => hfoot B h⟩ fun hx => ?_
  have lp : ∀ l, h0.loop? l = h.loop? l := fun l => by unfold Heap.loop?; rw [l2]
  refine ⟨fun b hb => by simp [Env.only, hb], fun b rs g fz hb => ?_, fun b es hb => ?_, fun b b' Ls Ls' L L' hne k1 k2 => hr.apart b b' Ls Ls' L L' hne (hout _ _ k1) (hout _ _ k2), fun l hl => hr.deadl l (lp l ▸ hl), fun l r hl => ?_, hr.lapart, ⟨fun b x hb => ?_, fun l r hl x hx => ?_⟩, hr.inside, hr.globs.ext hx⟩
  · have hb' := l3 _ _ hb
    obtain ⟨Ls, h1, h2⟩ := hr.rows b rs g fz hb'
    refine ⟨Ls, by rw [hin b _ hb]; exact h1, h2.one, h2.now, fun L hL => ?_, h2.apart⟩
    have hl := h2.all L hL
    obtain ⟨arr, el, a1, a2, a3⟩ := hl.lies
    refine ⟨⟨arr, el, a1, a2, fun i hi hi' j hj => ?_⟩, hl.len, hl.fits, hl.sz, hl.own, hl.free⟩
    obtain ⟨v, b1, b2, b3⟩ := a3 i hi hi' j hj
    exact ⟨v, b1, b2.keep (keeps _ _) (hr.lt.blks b _ hb' _ (List.getElem_mem hi) _ (List.getElem_mem hj)), b3⟩
  · have hb' := l3 _ _ hb
    obtain ⟨Ls, h1, ⟨L, ces, clock, rfl, h3, h4, h5, h6⟩⟩ := hr.maps b es hb'
    refine ⟨[L], by rw [hin b _ hb]; exact h1, ⟨L, ces, clock, rfl, h3, h4, h5, fun i hi hj => ?_⟩⟩
    have hl := hr.lt.blks b _ hb' _ (List.getElem_mem hi)
    exact ⟨(h6 i hi hj).1.keep (keeps _ _) hl.1, (h6 i hi hj).2.keep (keeps _ _) hl.2⟩
  · rw [lp] at hl
    obtain ⟨o, k1, ⟨ct, df, fi, k2, k3⟩⟩ := hr.loops l r hl
    exact ⟨o, k1, ⟨ct, df, fi, k2, k3.keep (keeps h.blks.length h.loops.length) (hr.lt.loops l r hl)⟩⟩
  · rw [l1, l2]; exact hr.lt.blks b x (l3 _ _ hb)
  · rw [l1, l2]; rw [lp] at hl; exact hr.lt.loops l r hl x hx

theorem todo_weak {P : Program} {n m : Nat} {rnd : Option Nat} {items : List Item} {ts : List AV} {h0 h : Heap} {Q : AExit → St → Prop} (hle : h0.le h) (g : TodoSem P n m rnd items ⟨ts, h0⟩ Q) : TodoSem P n m rnd items ⟨ts, h⟩ Q :=
  ⟨fun b E w tmps ds base h1 h2 hb h3 h4 h5 k cs => by
    obtain ⟨k1, k2⟩ := hr_only h1.heap hle n m
    obtain ⟨_, k3⟩ := hr_only h1.heap hle h.blks.length h.loops.length
    have hs : StR (E.only h0) w ⟨ts, h0⟩ tmps := ⟨k1, h1.tmps.keep k3.keeps h1.lt, fun x hx => by
      show Lt h0.blks.length h0.loops.length x
      rw [hle.1, hle.2.1]; exact h1.lt x hx⟩
    obtain ⟨e, st', E', w', tmps', ds', q, r1, r2, r3, r4, r5, r6⟩ := g.run b (E.only h0) w tmps ds base hs (h2.ext k2) hb h3 (by show n ≤ h0.blks.length; rw [hle.1]; exact h4) (by show m ≤ h0.loops.length; rw [hle.2.1]; exact h5) k cs
    exact ⟨e, st', E', w', tmps', ds', q, r1, r2, k2.trans (Nat.le_refl _) (Nat.le_refl _) r3, r4, r5, r6⟩⟩

theorem call_weak {P : Program} {f : FuncId} {args : List AV} {h0 h : Heap} {K : AV → Heap → Prop} (hle : h0.le h) (g : CallSem P f args h0 K) : CallSem P f args h K :=
  ⟨g.ok, fun E w vs h1 h2 h3 cs => by
    obtain ⟨k1, k2⟩ := hr_only h1 hle h.blks.length h.loops.length
    obtain ⟨r, h', E', w', v, fr, q, s1, s2, s3, s4, s5, s6, s7⟩ := g.run (E.only h0) w vs k1 (h2.keep k2.keeps h3) (fun x hx => by rw [hle.1, hle.2.1]; exact h3 x hx) cs
    rw [hle.1] at s4 s6
    rw [hle.2.1] at s5 s6
    exact ⟨r, h', E', w', v, fr, q, s1, s2, s3, s4, s5, k2.trans (Nat.le_refl _) (Nat.le_refl _) s6, s7⟩⟩

theorem call_less {P : Program} {f : FuncId} {args : List AV} {h : Heap} {K K' : AV → Heap → Prop} (g : CallSem P f args h K') (hk : ∀ r h', K' r h' → ∃ h0, h0.le h' ∧ K r h0) : CallSem P f args h K :=
  ⟨g.ok, fun E w vs h1 h2 h3 cs => by
    obtain ⟨r, h', E', w', v, fr, q, s1, s2, s3, s4, s5, s6, s7⟩ := g.run E w vs h1 h2 h3 cs
    obtain ⟨h0, hle, hq⟩ := hk r h' q
    obtain ⟨k1, k2⟩ := hr_only s2 hle h.blks.length h.loops.length
    obtain ⟨_, k3⟩ := hr_only s2 hle h'.blks.length h'.loops.length
    refine ⟨r, h0, E'.only h0, w', v, fr, hq, s1.keep k3.keeps s3, k1, ?_, ?_, ?_, s6.trans s4 s5 k3, s7⟩
    · rw [hle.1, hle.2.1]; exact s3
    · rw [hle.1]; exact s4
    · rw [hle.2.1]; exact s5⟩
end weak

section lit
def beqBlk (a b : Option Blk) : Bool := match a with
  | none => (match b with | none => true | some _ => false)
  | some (.rows rs g fz) => (match b with
    | some (.rows rs' g' fz') => eqB g g' && eqB fz fz' && beqL (beqL (beqA 30)) rs rs'
    | _ => false)
  | some (.mapb es) => (match b with
    | some (.mapb es') => beqL (fun p q => beqA 30 p.1 q.1 && beqA 30 p.2 q.2) es es'
    | _ => false)
theorem beqBlk_ok {a b : Option Blk} (h : beqBlk a b = true) : a = b := by
  unfold beqBlk at h
  split at h
  · split at h
    · rfl
    · cases h
  · split at h
    · simp only [Bool.and_eq_true] at h
      obtain ⟨⟨h1, h2⟩, h3⟩ := h
      rw [eqB_ok h1, eqB_ok h2, beqL_ok (fun _ _ h => beqL_ok (beqA_ok 30) h) h3]
    · cases h
  · split at h
    · rw [beqL_ok (fun p q h => by
        simp only [Bool.and_eq_true] at h
        exact Prod.ext (beqA_ok _ _ _ h.1) (beqA_ok _ _ _ h.2)) h]
    · cases h

structure HLit where
  bs : List (Option Blk)
  nl : Nat
def HLit.abs (l : HLit) : Heap := ⟨l.bs, List.replicate l.nl none⟩

def leL : List (Option Blk) → List (Option Blk) → Bool
  | [], bs => (match bs with | [] => true | _ :: _ => false)
  | a :: as, bs => (match bs with
    | [] => false
    | b :: bs => (match b with
      | none => leL as bs
      | some x => (match beqBlk a (some x) with | true => leL as bs | false => false)))
theorem leL_ok : ∀ (as bs : List (Option Blk)), leL as bs = true → bs.length = as.length ∧ ∀ (i : Nat) (x : Blk), bs[i]? = some (some x) → as[i]? = some (some x)
  | [], [], _ => ⟨rfl, fun _ _ h => h⟩
  | [], _ :: _, h => by cases h
  | _ :: _, [], h => by cases h
  | a :: as, none :: bs, h => by
    obtain ⟨h1, h2⟩ := leL_ok as bs h
    refine ⟨by simp [h1], fun i x hx => ?_⟩
    cases i with
    | zero => simp at hx
    | succ i => simpa using h2 i x (by simpa using hx)
  | a :: as, some y :: bs, h => by
    unfold leL at h
    dsimp only at h
    split at h
    · rename_i hb
      obtain ⟨h1, h2⟩ := leL_ok as bs h
      refine ⟨by simp [h1], fun i x hx => ?_⟩
      cases i with
      | zero => rw [beqBlk_ok hb]; simpa using hx
      | succ i => simpa using h2 i x (by simpa using hx)
    · cases h
def eqH (e : EH) (l : HLit) : Bool := noneL e.loops && lenIs e.loops l.nl && leL (raList e.rb) l.bs.reverse
theorem eqH_ok {e : EH} {l : HLit} (h : eqH e l = true) : l.abs.le e.abs := by
  unfold eqH at h
  rw [lenIs_eq] at h
  simp only [Bool.and_eq_true, beq_iff_eq] at h
  obtain ⟨⟨h1, h2⟩, h3⟩ := h
  obtain ⟨h3, h4⟩ := leL_ok _ _ h3
  have h1 := noneL_eq h1
  rw [h2] at h1
  have hlen : l.bs.length = (raList e.rb).length := by simpa using h3
  refine ⟨?_, h1.symm, fun b x hb => ?_⟩
  · show l.bs.length = (raList e.rb).reverse.length
    simpa using hlen
  · have hb' : (l.bs[b]?).join = some x := hb
    have hlt : b < l.bs.length := by
      rcases Nat.lt_or_ge b l.bs.length with h | h
      · exact h
      · rw [List.getElem?_eq_none h] at hb'; cases hb'
    have hx : l.bs[b]? = some (some x) := by
      cases hg : l.bs[b]? with
      | none => rw [hg] at hb'; cases hb'
      | some y => rw [hg] at hb'; exact congrArg some hb'
    have := h4 (l.bs.length - 1 - b) x (by
      rw [List.getElem?_reverse (by omega)]
      rw [show l.bs.length - 1 - (l.bs.length - 1 - b) = b from by omega]
      exact hx)
    show (((raList e.rb).reverse)[b]?).join = some x
    rw [List.getElem?_reverse (by omega), ← hlen, this]
    rfl

section
variable {R : Type}
def pushB (x : Option Blk) (e : EH) (K : EH → Option R) : Option R := fNat (Nat.succ e.n) fun n => raCons x e.rb fun rb => K { n := n, rb := rb, loops := e.loops }
theorem pushB_ok {e : EH} (h : e.ok) {x : Option Blk} {K : EH → Option R} {y : R} (hk : pushB x e K = some y) : ∃ e', e'.ok ∧ e'.abs = ⟨e.abs.blks ++ [x], e.abs.loops⟩ ∧ K e' = some y := by
  unfold pushB at hk
  rw [fNat_eq] at hk
  obtain ⟨l', h1, h2, h3⟩ := raCons_ok (R := R) (x := x) h.2
  rw [h1] at hk
  have h' : e.n = e.cells.length := h.1
  refine ⟨_, ⟨?_, h2⟩, ?_, hk⟩
  · show e.n + 1 = (raList l').length
    rw [h3, List.length_cons, h']; rfl
  · show (⟨(raList l').reverse, e.loops⟩ : Heap) = _
    rw [h3]
    simp [EH.abs, EH.cells]
def loadB : List (Option Blk) → EH → (EH → Option R) → Option R
  | [], e, K => K e
  | b :: r, e, K => pushB b e fun e => loadB r e K
theorem loadB_ok {K : EH → Option R} {y : R} : ∀ (l : List (Option Blk)) (e : EH), e.ok → loadB l e K = some y → ∃ e', e'.ok ∧ e'.abs = ⟨e.abs.blks ++ l, e.abs.loops⟩ ∧ K e' = some y
  | [], e, he, h => ⟨e, he, by simp, h⟩
  | b :: r, e, he, h => by
    obtain ⟨e1, h1, h2, h3⟩ := pushB_ok he h
    obtain ⟨e2, k1, k2, k3⟩ := loadB_ok r e1 h1 h3
    exact ⟨e2, k1, by rw [k2, h2]; simp, k3⟩
def HLit.load (l : HLit) (K : EH → Option R) : Option R := fList (List.replicate l.nl none) fun ls => loadB l.bs ⟨0, [], ls⟩ K
theorem HLit.load_ok {l : HLit} {K : EH → Option R} {y : R} (h : l.load K = some y) : ∃ e, e.ok ∧ e.abs = l.abs ∧ K e = some y := by
  unfold HLit.load at h
  rw [fList_eq] at h
  obtain ⟨e, h1, h2, h3⟩ := loadB_ok _ _ (show EH.ok ⟨0, [], List.replicate l.nl none⟩ from ⟨rfl, EH.ok_nil.2⟩) h
  exact ⟨e, h1, by rw [h2]; rfl, h3⟩
end

def patchL : List (Option Blk) → Nat → List (Nat × Option Blk) → List (Option Blk) → List (Option Blk)
  | [], _, _, new => new
  | b :: r, i, [], new => b :: patchL r i [] new
  | b :: r, i, c :: cs, new => match Nat.beq i c.1 with
    | true => c.2 :: patchL r (i + 1) cs new
    | false => b :: patchL r (i + 1) (c :: cs) new
def HLit.patch (l : HLit) (cs : List (Nat × Option Blk)) (new : List (Option Blk)) (nl : Nat) : HLit := ⟨patchL l.bs 0 cs new, nl⟩
def patchV : List AV → Nat → List (Nat × AV) → List AV
  | [], _, _ => []
  | b :: r, _, [] => b :: r
  | b :: r, i, c :: cs => match Nat.beq i c.1 with
    | true => c.2 :: patchV r (i + 1) cs
    | false => b :: patchV r (i + 1) (c :: cs)
end lit

structure CFact where
  args : List AV
  pre : HLit
  r : AV
  post : HLit
def CFact.Holds (P : Program) (f : FuncId) (x : CFact) : Prop := ∀ K : AV → Heap → Prop, K x.r x.post.abs → CallSem P f x.args x.pre.abs K
def FactsOK (P : Program) (CF : List (FuncId × List CFact)) : Prop := ∀ p ∈ CF, ∀ x ∈ p.2, x.Holds P p.1
theorem facts_nil {P : Program} : FactsOK P [] := fun _ h => by cases h
theorem facts_cons {P : Program} {f : FuncId} {l : List CFact} {CF : List (FuncId × List CFact)} (h : ∀ x ∈ l, x.Holds P f) (h' : FactsOK P CF) : FactsOK P ((f, l) :: CF) := fun p hp => by
  rcases List.mem_cons.1 hp with rfl | hp
  · exact h
  · exact h' p hp

theorem cut_holds {P : Program} {f : FuncId} {x : CFact} (h : ∃ h1, x.post.abs.le h1 ∧ ∀ K : AV → Heap → Prop, K x.r h1 → CallSem P f x.args x.pre.abs K) : x.Holds P f := fun K hk => by
  obtain ⟨h1, hle, hc⟩ := h
  exact call_less (hc (fun r' h' => r' = x.r ∧ h' = h1) ⟨rfl, rfl⟩) fun r' h' hq => ⟨_, hq.2 ▸ hle, hq.1 ▸ hk⟩

def factsOf (f : FuncId) : List (FuncId × List CFact) → List CFact
  | [] => []
  | p :: l => match Nat.beq p.1 f with | true => p.2 | false => factsOf f l
theorem factsOf_ok {P : Program} {f : FuncId} : ∀ {CF : List (FuncId × List CFact)}, FactsOK P CF → ∀ x ∈ factsOf f CF, x.Holds P f
  | [], _, x, h => by cases h
  | p :: l, hc, x, h => by
    unfold factsOf at h
    split at h
    · rename_i hb
      rw [Nat.beq_eq] at hb
      exact hb ▸ hc p (by simp) x h
    · exact factsOf_ok (fun q hq => hc q (by simp [hq])) x h

section run
variable {R : Type}
def factE : List CFact → List AV → EH → (AV → EH → Option R) → (Unit → Option R) → Option R
  | [], _, _, _, no => no ()
  | x :: l, args, e, K, no => match beqL (beqA 30) args x.args with
    | false => factE l args e K no
    | true => match eqH e x.pre with
      | true => x.post.load fun e' => K x.r e'
      | false => factE l args e K no

theorem factE_ok {P : Program} {f : FuncId} {args : List AV} {e : EH} {K : AV → EH → Option R} {y : R} {no : Unit → Option R} (hno : no () = some y → Went K y (CallSem P f args e.abs)) :
    ∀ l : List CFact, (∀ x ∈ l, x.Holds P f) → factE l args e K no = some y → Went K y (CallSem P f args e.abs)
  | [], _, h => hno h
  | x :: l, hl, h => by
    unfold factE at h
    split at h
    · exact factE_ok hno l (fun x hx => hl x (by simp [hx])) h
    · rename_i ha
      split at h
      · rename_i hb
        obtain ⟨e', h1, h2, h3⟩ := HLit.load_ok h
        refine ⟨x.r, e', h1, h3, fun Q hq => ?_⟩
        rw [beqL_ok (beqA_ok 30) ha]
        exact call_weak (eqH_ok hb) (hl x (by simp) Q (h2 ▸ hq))
      · exact factE_ok hno l (fun x hx => hl x (by simp [hx])) h

variable [Bare] (T : Tab) {P : Program} (drawE : DrawH R) (F : FuncId → Option Fun) (M : FuncId → Option (List AV → Option AV)) (CF : List (FuncId × List CFact))

def callX (ih : IH R) (f : FuncId) (args : List AV) (e : EH) (K : AV → EH → Option R) : Option R :=
  match factsOf f CF with
  | [] => callE ih T F M f args e K
  | x :: l => factE (x :: l) args e K fun _ => callE ih T F M f args e K

def runsX : Nat → IH R
  | 0 => { code := fun _ _ _ _ _ => none, loop := fun _ _ _ _ _ => none, scope := fun _ _ _ _ _ _ => none, call := fun _ _ _ _ => none }
  | n + 1 => { code := codeE (runsX n) T drawE, loop := loopE (runsX n), scope := scopeE (runsX n), call := callX T F M CF (runsX n) }

theorem runsX_ok (hT : TabOK P T) (hX : BareOK P) (hF : FunOK P F) (hM : MemOK P M) (hd : DrawOK drawE P) (hC : FactsOK P CF) : ∀ n, (runsX (R := R) T drawE F M CF n).OK P
  | 0 => ⟨fun _ _ _ _ _ _ _ _ h => (by cases h), fun _ _ _ _ _ _ _ _ h => (by cases h), fun _ _ _ _ _ _ _ _ _ h => (by cases h), fun _ _ _ _ _ _ h => (by cases h)⟩
  | n + 1 => ⟨fun rnd c ts e K y he ht h => codeE_ok _ T drawE hT hX hd (runsX_ok hT hX hF hM hd hC n) rnd c ts e K y he ht h,
      fun rnd c ts e K y he ht h => loopE_ok _ (runsX_ok hT hX hF hM hd hC n) rnd c ts e K y he ht h,
      fun rnd c x ts e K y he ht h => scopeE_ok _ (runsX_ok hT hX hF hM hd hC n) rnd c x ts e K y he ht h,
      fun f args e K y he h => by
        have old := callE_ok _ T F M hT hF hM (runsX_ok hT hX hF hM hd hC n) f args e K y he
        replace h : callX T F M CF (runsX (R := R) T drawE F M CF n) f args e K = some y := h
        unfold callX at h
        have hl := factsOf_ok (f := f) hC
        split at h
        · exact old h
        · rename_i x l hx
          rw [hx] at hl
          exact factE_ok old _ hl h⟩
end run

section top
variable [Bare] (T : Tab) {P : Program} (F : FuncId → Option Fun) (M : FuncId → Option (List AV → Option AV)) (CF : List (FuncId × List CFact))

def runCallX (drawE : DrawH AV) (n : Nat) (f : FuncId) (args : List AV) : Option AV :=
  (runsX T drawE F M CF n).call f args ⟨0, [], []⟩ fun r e => frz 30 e r fun r => some r
def runCallNX (drawE : DrawH AV) (n : Nat) (f : FuncId) (args : List AV) : Option AV :=
  (runsX T drawE F M CF n).call f args ⟨0, [], []⟩ fun r e => frzN 30 e r fun r => some r
def rowIsX (drawE : DrawH AV) (n : Nat) (f : FuncId) (args : List AV) (r : AV) : Bool :=
  match allB (pureB 30) args with
  | false => false
  | true => match unmark r with
    | (x, true) => (match runCallNX T F M CF drawE n f args with | some r' => beqA 30 r' x | none => false)
    | (x, false) => (match ifcB x with
      | true => false
      | false => (match runCallX T F M CF drawE n f args with | some r' => beqA 30 r' x | none => false))

theorem rowIsX_ok (drawE : DrawH AV) (hT : TabOK P T) (hX : BareOK P) (hF : FunOK P F) (hM : MemOK P M) (hd : DrawOK drawE P) (hC : FactsOK P CF) {n : Nat} {f : FuncId} {args : List AV} {r : AV} (h : rowIsX T F M CF drawE n f args r = true) : KnownSem P f args r := by
  have mk : ∀ x, unmark r = (x, true) → r = .ifc 999999 x := fun x hu => by
    unfold unmark at hu
    split at hu
    · split at hu
      · rename_i ht
        injection hu with hu _; subst hu
        rw [Nat.eq_of_beq_eq_true ht]
      · injection hu with _ hu; cases hu
    · injection hu with _ hu; cases hu
  have um : ∀ x, unmark r = (x, false) → r = x := fun x hu => by
    unfold unmark at hu
    split at hu
    · split at hu
      · injection hu with _ hu; cases hu
      · injection hu
    · injection hu
  unfold rowIsX at h
  split at h
  · cases h
  · rename_i ha
    have hp : ∀ x ∈ args, Pure x := fun x hx => pureB_ok _ _ (allB_ok ha x hx)
    split at h
    · rename_i x hu
      split at h
      · rename_i r' hr
        rw [beqA_ok _ _ _ h] at hr
        rw [mk x hu]
        unfold KnownSem
        simp only [if_true]
        unfold runCallNX at hr
        obtain ⟨r2, e, h1, h2, h3⟩ := (runsX_ok T drawE F M CF hT hX hF hM hd hC n).call f args ⟨0, [], []⟩ _ _ EH.ok_nil hr
        obtain ⟨y, k1, k2, k3⟩ := frzN_ok h1 30 _ _ _ h2
        injection k3 with k3; subst k3
        exact fresh_of_call hp k2 (h3 _ k1)
      · cases h
    · rename_i x hu
      split at h
      · cases h
      · rename_i hi
        rw [um x hu]
        split at h
        · rename_i r' hr
          rw [beqA_ok _ _ _ h] at hr
          unfold runCallX at hr
          obtain ⟨r2, e, h1, h2, h3⟩ := (runsX_ok T drawE F M CF hT hX hF hM hd hC n).call f args ⟨0, [], []⟩ _ _ EH.ok_nil hr
          obtain ⟨y, k1, k2, k3⟩ := frz_ok h1 30 _ _ _ h2
          injection k3 with k3; subst k3
          refine .of_pure (pure_of_call hp k2 (h3 _ k1)) fun y e => ?_
          rw [e] at hi
          cases hi
        · cases h

def doneE {R : Type} (r : AV) (e : EH) (x : AV) (l : HLit) (y : R) : Option R := match beqA 30 r x with
  | true => (match eqH e l with | true => some y | false => none)
  | false => none
theorem doneE_ok {R : Type} {r : AV} {e : EH} {x : AV} {l : HLit} {y z : R} (h : doneE r e x l y = some z) : r = x ∧ l.abs.le e.abs := by
  unfold doneE at h
  split at h
  · rename_i h1
    split at h
    · rename_i h2
      exact ⟨beqA_ok _ _ _ h1, eqH_ok h2⟩
    · cases h
  · cases h
variable (drawE : DrawH Unit)
def someB : Option Unit → Bool
  | some _ => true
  | none => false
omit [Gl] [Bare] in
theorem someB_ok {o : Option Unit} (h : someB o = true) : o = some () := by cases o with | none => cases h | some _ => rfl
def callToIs (n : Nat) (f : FuncId) (x : CFact) : Bool := someB (x.pre.load fun e => (runsX T drawE F M CF n).call f x.args e fun r e => doneE r e x.r x.post ())
theorem callToIs_ok (hT : TabOK P T) (hX : BareOK P) (hF : FunOK P F) (hM : MemOK P M) (hd : DrawOK drawE P) (hC : FactsOK P CF) {n : Nat} {f : FuncId} {x : CFact} (h : callToIs T F M CF drawE n f x = true) : x.Holds P f := by
  obtain ⟨e, h1, h2, h3⟩ := HLit.load_ok (someB_ok h)
  obtain ⟨r, e', k1, k2, k3⟩ := (runsX_ok T drawE F M CF hT hX hF hM hd hC n).call _ _ _ _ _ h1 h3
  obtain ⟨m1, m2⟩ := doneE_ok k2
  subst m1
  intro K hk
  rw [← h2]
  exact call_less (k3 (fun r' h' => r' = x.r ∧ h' = e'.abs) ⟨rfl, rfl⟩) fun r' h' hq => ⟨_, hq.2 ▸ m2, hq.1 ▸ hk⟩
end top

section path
inductive Dir where
  | l | r | b | s

def codeAt : List Dir → Code → Option Code
  | [], c => some c
  | d :: p, c => match d with
    | .l => (match c with | .seq a _ => codeAt p a | _ => none)
    | .r => (match c with | .seq _ b => codeAt p b | _ => none)
    | .b => (match c with | .block _ c => codeAt p c | _ => none)
    | .s => (match c with | .scope c => codeAt p c | _ => none)

def ctxAt (P : Program) (n m : Nat) : List Dir → Code → (AExit → St → Prop) → AExit → St → Prop
  | [], _, Q => Q
  | d :: p, c, Q => match d with
    | .l => (match c with | .seq a b => ctxAt P n m p a (Then (fun s => TodoSem P n m none [.code b] s Q) Q) | _ => Q)
    | .r => (match c with | .seq _ b => ctxAt P n m p b Q | _ => Q)
    | .b => (match c with | .block id c => ctxAt P n m p c (InBlock id Q) | _ => Q)
    | .s => (match c with | .scope c => ctxAt P n m p c (InScope P n m none c Q) | _ => Q)

variable {R : Type} (ih : IH R)
def preE : List Dir → Code → TS → EH → (TS → EH → Option R) → Option R
  | [], _, ts, e, K => K ts e
  | d :: p, c, ts, e, K => match d with
    | .l => (match c with | .seq a _ => preE p a ts e K | _ => none)
    | .r => (match c with | .seq a b => ih.code none a ts e fun x ts e => (match x with | .normal => preE p b ts e K | .jump _ => none) | _ => none)
    | .b => (match c with | .block _ c => preE p c ts e K | _ => none)
    | .s => (match c with | .scope c => preE p c ts e K | _ => none)

def scopeK (c : Code) (K : AExit → TS → EH → Option R) (x : AExit) (ts : TS) (e : EH) : Option R := match x with
  | .jump (.goto l) => (match findLabel c l with
    | some rest => ih.scope none c rest ts e K
    | none => K (.jump (.goto l)) ts e)
  | x => K x ts e

def postE : List Dir → Code → (AExit → TS → EH → Option R) → AExit → TS → EH → Option R
  | [], _, K => K
  | d :: p, c, K => match d with
    | .l => (match c with | .seq a b => postE p a (seqK ih none b K) | _ => fun _ _ _ => none)
    | .r => (match c with | .seq _ b => postE p b K | _ => fun _ _ _ => none)
    | .b => (match c with | .block id c => postE p c (blockE id K) | _ => fun _ _ _ => none)
    | .s => (match c with | .scope c => postE p c (scopeK ih c K) | _ => fun _ _ _ => none)

variable {P : Program}
def PreOK (P : Program) (ih : IH R) (p : List Dir) : Prop := ∀ (c d : Code) (ts : TS) (e : EH) (K : TS → EH → Option R) (y : R), codeAt p c = some d → e.ok → okT ts → preE ih p c ts e K = some y →
    ∃ ts' e', e'.ok ∧ okT ts' ∧ K ts' e' = some y ∧ ∀ n m Q, TodoSem P n m none [.code d] ⟨ts'.flatten, e'.abs⟩ (ctxAt P n m p c Q) → TodoSem P n m none [.code c] ⟨ts.flatten, e.abs⟩ Q
theorem pre_l {p : List Dir} (hp : PreOK P ih p) : PreOK P ih (.l :: p) := fun c d ts e K y hd he ht h => by
  cases c
  case seq a b =>
    obtain ⟨ts', e', h1, h2, h3, h4⟩ := hp a d ts e K y hd he ht h
    exact ⟨ts', e', h1, h2, h3, fun n m Q hq => t_seq (h4 n m _ hq)⟩
  all_goals cases hd
theorem pre_r (hih : ih.OK P) {p : List Dir} (hp : PreOK P ih p) : PreOK P ih (.r :: p) := fun c d ts e K y hd he ht h => by
  cases c
  case seq a b =>
    obtain ⟨x, ts1, e1, h1, ht1, h2, h3⟩ := hih.code _ _ _ _ _ _ he ht h
    cases x with
    | normal =>
      obtain ⟨ts', e', k1, k2, k3, k4⟩ := hp b d ts1 e1 K y hd h1 ht1 h2
      exact ⟨ts', e', k1, k2, k3, fun n m Q hq => t_seq (h3 (Then (fun s => TodoSem P n m none [.code b] s Q) Q) (k4 n m Q hq) n m)⟩
    | jump j => cases h2
  all_goals cases hd
theorem pre_b {p : List Dir} (hp : PreOK P ih p) : PreOK P ih (.b :: p) := fun c d ts e K y hd he ht h => by
  cases c
  case block id c =>
    obtain ⟨ts', e', h1, h2, h3, h4⟩ := hp c d ts e K y hd he ht h
    exact ⟨ts', e', h1, h2, h3, fun n m Q hq => t_block (h4 n m _ hq)⟩
  all_goals cases hd
theorem pre_s {p : List Dir} (hp : PreOK P ih p) : PreOK P ih (.s :: p) := fun c d ts e K y hd he ht h => by
  cases c
  case scope c =>
    obtain ⟨ts', e', h1, h2, h3, h4⟩ := hp c d ts e K y hd he ht h
    exact ⟨ts', e', h1, h2, h3, fun n m Q hq => t_scope (t_inScope (h4 n m _ hq))⟩
  all_goals cases hd
theorem preE_ok (hih : ih.OK P) : ∀ (p : List Dir), PreOK P ih p
  | [] => fun c d ts e K y hd he ht h => by
    have hd : c = d := Option.some.inj hd
    subst hd
    exact ⟨ts, e, he, ht, h, fun n m Q hq => hq⟩
  | .l :: p => pre_l ih (preE_ok hih p)
  | .r :: p => pre_r ih hih (preE_ok hih p)
  | .b :: p => pre_b ih (preE_ok hih p)
  | .s :: p => pre_s ih (preE_ok hih p)

def PostOK (P : Program) (ih : IH R) (p : List Dir) : Prop := ∀ (c : Code) (x : AExit) (ts : TS) (e : EH) (K : AExit → TS → EH → Option R) (y : R), e.ok → okT ts → postE ih p c K x ts e = some y →
    ∃ x' ts' e', e'.ok ∧ okT ts' ∧ K x' ts' e' = some y ∧ ∀ n m Q, Q x' ⟨ts'.flatten, e'.abs⟩ → ctxAt P n m p c Q x ⟨ts.flatten, e.abs⟩
theorem post_l (hih : ih.OK P) {p : List Dir} (hp : PostOK P ih p) : PostOK P ih (.l :: p) := fun c x ts e K y he ht h => by
  cases c
  case seq a b =>
    obtain ⟨x1, ts1, e1, h1, ht1, h2, h3⟩ := hp a x ts e _ y he ht h
    cases x1 with
    | normal =>
      obtain ⟨x2, ts2, e2, k1, ht2, k2, k3⟩ := hih.code _ _ _ _ _ _ h1 ht1 h2
      exact ⟨x2, ts2, e2, k1, ht2, k2, fun n m Q hq => h3 n m (Then (fun s => TodoSem P n m none [.code b] s Q) Q) (k3 Q hq n m)⟩
    | jump j => exact ⟨.jump j, ts1, e1, h1, ht1, h2, fun n m Q hq => h3 n m (Then (fun s => TodoSem P n m none [.code b] s Q) Q) hq⟩
  all_goals cases h
theorem post_r {p : List Dir} (hp : PostOK P ih p) : PostOK P ih (.r :: p) := fun c x ts e K y he ht h => by
  cases c
  case seq a b =>
    obtain ⟨x1, ts1, e1, h1, ht1, h2, h3⟩ := hp b x ts e K y he ht h
    exact ⟨x1, ts1, e1, h1, ht1, h2, fun n m Q hq => h3 n m Q hq⟩
  all_goals cases h
theorem post_b {p : List Dir} (hp : PostOK P ih p) : PostOK P ih (.b :: p) := fun c x ts e K y he ht h => by
  cases c
  case block id c =>
    obtain ⟨x1, ts1, e1, h1, ht1, h2, h3⟩ := hp c x ts e _ y he ht h
    unfold blockE at h2
    split at h2
    · rename_i id'
      split at h2
      · rename_i hb
        rw [Nat.beq_eq] at hb
        exact ⟨_, ts1, e1, h1, ht1, h2, fun n m Q hq => h3 n m (InBlock id Q) (by simp only [InBlock, if_pos hb]; exact hq)⟩
      · rename_i hb
        have hb : ¬ id' = id := fun e => by rw [← Nat.beq_eq] at e; rw [e] at hb; cases hb
        exact ⟨_, ts1, e1, h1, ht1, h2, fun n m Q hq => h3 n m (InBlock id Q) (by simp only [InBlock, if_neg hb]; exact hq)⟩
    · rename_i hne
      refine ⟨_, ts1, e1, h1, ht1, h2, fun n m Q hq => h3 n m (InBlock id Q) ?_⟩
      cases x1 with
      | normal => exact hq
      | jump j => cases j <;> first | exact hq | exact (hne _ rfl).elim
  all_goals cases h
theorem post_s (hih : ih.OK P) {p : List Dir} (hp : PostOK P ih p) : PostOK P ih (.s :: p) := fun c x ts e K y he ht h => by
  cases c
  case scope c =>
    obtain ⟨x1, ts1, e1, h1, ht1, h2, h3⟩ := hp c x ts e _ y he ht h
    unfold scopeK at h2
    split at h2
    · rename_i l
      split at h2
      · rename_i rest hf
        obtain ⟨x2, ts2, e2, k1, ht2, k2, k3⟩ := hih.scope _ _ _ _ _ _ _ h1 ht1 h2
        exact ⟨x2, ts2, e2, k1, ht2, k2, fun n m Q hq => h3 n m (InScope P n m none c Q) (by simp only [InScope, hf]; exact k3 Q hq n m)⟩
      · rename_i hf
        exact ⟨_, ts1, e1, h1, ht1, h2, fun n m Q hq => h3 n m (InScope P n m none c Q) (by simp only [InScope, hf]; exact hq)⟩
    · rename_i hne
      refine ⟨_, ts1, e1, h1, ht1, h2, fun n m Q hq => h3 n m (InScope P n m none c Q) ?_⟩
      cases x1 with
      | normal => exact hq
      | jump j => cases j <;> first | exact hq | exact (hne _ rfl).elim
  all_goals cases h
theorem postE_ok (hih : ih.OK P) : ∀ (p : List Dir), PostOK P ih p
  | [] => fun c x ts e K y he ht h => ⟨x, ts, e, he, ht, h, fun n m Q hq => hq⟩
  | .l :: p => post_l ih hih (postE_ok hih p)
  | .r :: p => post_r ih (postE_ok hih p)
  | .b :: p => post_b ih (postE_ok hih p)
  | .s :: p => post_s ih hih (postE_ok hih p)

def loopN (B : Code) : Nat → TS → EH → (TS → EH → Option R) → Option R
  | 0, ts, e, K => K ts e
  | k + 1, ts, e, K => ih.code none B ts e fun x ts e => match x with | .normal => loopN B k ts e K | .jump _ => none
theorem loopN_ok (hih : ih.OK P) (B : Code) : ∀ (k : Nat) (ts : TS) (e : EH) (K : TS → EH → Option R) (y : R), e.ok → okT ts → loopN ih B k ts e K = some y →
    ∃ ts' e', e'.ok ∧ okT ts' ∧ K ts' e' = some y ∧ ∀ n m Q, TodoSem P n m none [.inLoop B] ⟨ts'.flatten, e'.abs⟩ Q → TodoSem P n m none [.inLoop B] ⟨ts.flatten, e.abs⟩ Q
  | 0, ts, e, K, y, he, ht, h => ⟨ts, e, he, ht, h, fun _ _ _ hq => hq⟩
  | k + 1, ts, e, K, y, he, ht, h => by
    obtain ⟨x, ts1, e1, h1, ht1, h2, h3⟩ := hih.code _ _ _ _ _ _ he ht h
    cases x with
    | normal =>
      obtain ⟨ts', e', k1, k2, k3, k4⟩ := loopN_ok hih B k ts1 e1 K y h1 ht1 h2
      exact ⟨ts', e', k1, k2, k3, fun n m Q hq => t_inLoop (h3 (Then (fun s => TodoSem P n m none [.inLoop B] s Q) Q) (k4 n m Q hq) n m)⟩
    | jump j => cases h2
end path

section cut
variable [Bare] (T : Tab) {P : Program} (F : FuncId → Option Fun) (M : FuncId → Option (List AV → Option AV)) (CF : List (FuncId × List CFact)) (drawE : DrawH Unit)

def RestSem (P : Program) (T : Tab) (F : FuncId → Option Fun) (f : FuncId) (p : List Dir) (ts : List AV) (h : HLit) (K : AV → Heap → Prop) : Prop :=
  ∃ x fn B, F f = some x ∧ P.funcs[f]? = some fn ∧ codeAt p x.body = some (.loop B) ∧ ∀ n m, TodoSem P n m none [.inLoop B] ⟨ts, h.abs⟩ (ctxAt P n m p x.body (endW T fn K))

def stateE (ts : TS) (e : EH) (ts' : List AV) (h' : HLit) : Option Unit := match beqL (beqA 30) ts.flatten ts' with
  | true => (match eqH e h' with | true => some () | false => none)
  | false => none
theorem stateE_ok {ts : TS} {e : EH} {ts' : List AV} {h' : HLit} {y : Unit} (h : stateE ts e ts' h' = some y) : ts.flatten = ts' ∧ h'.abs.le e.abs := by
  unfold stateE at h
  split at h
  · rename_i h1
    split at h
    · rename_i h2
      exact ⟨beqL_ok (beqA_ok 30) h1, eqH_ok h2⟩
    · cases h
  · cases h

def headIs (n : Nat) (f : FuncId) (p : List Dir) (args : List AV) (h : HLit) (ts' : List AV) (h' : HLit) : Bool := match F f with
  | none => false
  | some x => someB (h.load fun e => chunkN x.ntmps args fun ts => preE (runsX T drawE F M CF n) p x.body ts e fun ts e => stateE ts e ts' h')
theorem headIs_ok (hT : TabOK P T) (hX : BareOK P) (hF : FunOK P F) (hM : MemOK P M) (hd : DrawOK drawE P) (hC : FactsOK P CF) {n : Nat} {f : FuncId} {p : List Dir} {args : List AV} {h : HLit} {ts' : List AV} {h' : HLit}
    (hh : headIs T F M CF drawE n f p args h ts' h' = true) {K : AV → Heap → Prop} (hk : RestSem P T F f p ts' h' K) : CallSem P f args h.abs K := by
  obtain ⟨x, fn, B, hx, hfn, hB, hk⟩ := hk
  unfold headIs at hh
  rw [hx] at hh
  obtain ⟨e, h1, h2, h3⟩ := HLit.load_ok (someB_ok hh)
  obtain ⟨fn', f1, f2, f3, f4, f5⟩ := hF.ok f x hx
  rw [hfn] at f1; injection f1 with f1; subst f1
  obtain ⟨ts0, ht0, hfl, h4⟩ := chunkN_ok h3
  obtain ⟨ts1, e1, k1, k2, k3, k4⟩ := preE_ok _ (runsX_ok T drawE F M CF hT hX hF hM hd hC n) p _ _ ts0 e _ _ hB h1 ht0 h4
  obtain ⟨m1, m2⟩ := stateE_ok k3
  rw [hfl, m1] at k4
  rw [← h2]
  refine call_body hfn f2 f3 ?_
  have := k4 e.abs.blks.length e.abs.loops.length (endW T fn K) (todo_weak m2 (t_loop_head (hk _ _)))
  rw [f4]
  refine this.mono fun e' s hq => ?_
  cases e' with
  | normal =>
    simp only [endW] at hq
    split at hq
    · rename_i l hl
      exact ⟨trivial, _, res_sound hT hl, hq⟩
    · exact hq.elim
  | jump j =>
    cases j <;> simp only [endW] at hq <;> first | (exact hq.elim) | skip
    split at hq
    · rename_i l hl
      exact ⟨trivial, _, res_sound hT hl, hq⟩
    · exact hq.elim

def midIs (n : Nat) (f : FuncId) (p : List Dir) (k : Nat) (ts : List AV) (h : HLit) (ts' : List AV) (h' : HLit) : Bool := match F f with
  | none => false
  | some x => match codeAt p x.body with
    | some (.loop B) => someB (h.load fun e => chunkK ts fun ts => loopN (runsX T drawE F M CF n) B k ts e fun ts e => stateE ts e ts' h')
    | _ => false
theorem midIs_ok (hT : TabOK P T) (hX : BareOK P) (hF : FunOK P F) (hM : MemOK P M) (hd : DrawOK drawE P) (hC : FactsOK P CF) {n : Nat} {f : FuncId} {p : List Dir} {k : Nat} {ts : List AV} {h : HLit} {ts' : List AV} {h' : HLit}
    (hh : midIs T F M CF drawE n f p k ts h ts' h' = true) {K : AV → Heap → Prop} (hk : RestSem P T F f p ts' h' K) : RestSem P T F f p ts h K := by
  obtain ⟨x, fn, B, hx, hfn, hB, hk⟩ := hk
  refine ⟨x, fn, B, hx, hfn, hB, fun n' m' => ?_⟩
  unfold midIs at hh
  rw [hx] at hh
  simp only [hB] at hh
  obtain ⟨e, h1, h2, h3⟩ := HLit.load_ok (someB_ok hh)
  obtain ⟨ts0, ht0, hfl, h4⟩ := chunkK_ok h3
  obtain ⟨ts1, e1, k1, k2, k3, k4⟩ := loopN_ok _ (runsX_ok T drawE F M CF hT hX hF hM hd hC n) B k ts0 e _ _ h1 ht0 h4
  obtain ⟨m1, m2⟩ := stateE_ok k3
  rw [hfl, m1, h2] at k4
  exact k4 n' m' _ (todo_weak m2 (hk n' m'))

def lastIs (n : Nat) (f : FuncId) (p : List Dir) (ts : List AV) (h : HLit) (r : AV) (h' : HLit) : Bool := match F f with
  | none => false
  | some x => match codeAt p x.body with
    | some (.loop B) => someB (h.load fun e => chunkK ts fun ts => (runsX T drawE F M CF n).loop none B ts e (postE (runsX T drawE F M CF n) p x.body (endE T x.results fun r' e => doneE r' e r h' ())))
    | _ => false
theorem lastIs_ok (hT : TabOK P T) (hX : BareOK P) (hF : FunOK P F) (hM : MemOK P M) (hd : DrawOK drawE P) (hC : FactsOK P CF) {n : Nat} {f : FuncId} {p : List Dir} {ts : List AV} {h : HLit} {r : AV} {h' : HLit}
    (hh : lastIs T F M CF drawE n f p ts h r h' = true) : ∃ h1, h'.abs.le h1 ∧ ∀ K : AV → Heap → Prop, K r h1 → RestSem P T F f p ts h K := by
  have hr := runsX_ok T drawE F M CF hT hX hF hM hd hC n
  unfold lastIs at hh
  split at hh
  · cases hh
  · rename_i x hx
    split at hh
    · rename_i B hB
      obtain ⟨fn, f1, f2, f3, f4, f5⟩ := hF.ok f x hx
      obtain ⟨e, h1, h2, h3⟩ := HLit.load_ok (someB_ok hh)
      obtain ⟨ts0, ht0, hfl, h4⟩ := chunkK_ok h3
      obtain ⟨x1, ts1, e1, k1, ht1, k2, k3⟩ := hr.loop _ _ _ _ _ _ h1 ht0 h4
      obtain ⟨x2, ts2, e2, g1, ht2, g2, g3⟩ := postE_ok _ hr p _ _ _ _ _ _ k1 ht1 k2
      rw [← f5] at g2
      obtain ⟨r', e3, l1, l2, l3⟩ := endE_ok T g1 ht2 g2
      obtain ⟨m1, m2⟩ := doneE_ok l2
      subst m1
      rw [hfl, h2] at k3
      exact ⟨_, m2, fun K hk => ⟨x, fn, B, hx, f1, hB, fun n' m' => k3 _ (g3 n' m' _ (l3 K hk)) n' m'⟩⟩
    · cases hh
end cut
end
end Go.Abs

namespace Go.Abs
noncomputable section
variable [Gl]

def spread : Nat → Nat → List (Nat × Blk) → List (Option Blk)
  | 0, _, _ => []
  | n + 1, i, l => match l with
    | [] => none :: spread n (i + 1) []
    | p :: r => match Nat.beq p.1 i with
      | true => some p.2 :: spread n (i + 1) r
      | false => none :: spread n (i + 1) (p :: r)
def mergeB : Nat → List (Nat × Blk) → List (Nat × Option Blk) → List (Nat × Blk)
  | 0, _, _ => []
  | k + 1, l, cs => match cs with
    | [] => l
    | c :: cs' => match l with
      | [] => (match c.2 with | some b => (c.1, b) :: mergeB k [] cs' | none => mergeB k [] cs')
      | p :: l' => match Nat.blt p.1 c.1 with
        | true => p :: mergeB k l' (c :: cs')
        | false => (match Nat.beq p.1 c.1 with
          | true => (match c.2 with | some b => (c.1, b) :: mergeB k l' cs' | none => mergeB k l' cs')
          | false => (match c.2 with | some b => (c.1, b) :: mergeB k (p :: l') cs' | none => mergeB k (p :: l') cs'))

abbrev z0 : AV := .int .i64 0
abbrev z1 : AV := .int .i64 1
def zl (l : List AV) : List (List AV) := l.map fun x => [x]
def zt (l : List AV) : Blk := .rows (zl l) true false
def zb (l : List AV) : Blk := .rows (zl l) false false
def zm (a b c d : Nat) : List AV := [.ms a 0 b none, .ms c 0 d none]
def zn (a b c d : Nat) : List AV := [.ms a 0 b (some b), .ms c 0 d (some d)]

theorem holds_nil {P : Program} {f : FuncId} : ∀ x ∈ ([] : List CFact), x.Holds P f := fun _ h => by cases h
theorem holds_cons {P : Program} {f : FuncId} {y : CFact} {l : List CFact} (h : y.Holds P f) (h' : ∀ x ∈ l, x.Holds P f) : ∀ x ∈ y :: l, x.Holds P f := fun x hx => by
  rcases List.mem_cons.1 hx with rfl | hx
  · exact h
  · exact h' x hx
end
end Go.Abs
