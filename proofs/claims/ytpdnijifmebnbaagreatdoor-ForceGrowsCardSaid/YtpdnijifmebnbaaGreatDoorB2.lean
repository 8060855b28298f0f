/-
  Steps to a law of this program: AbsCall, AbsTab.
  Conditions: none.
-/
import Derived.Test.YtpdnijifmebnbaaGreatDoorB1
set_option linter.unusedVariables false
set_option linter.unusedSimpArgs false
set_option linter.unusedSectionVars false
namespace Go.Abs
noncomputable section
variable [Gl]

structure FnOK (P : Program) (f : FuncId) : Prop where
  ok : ∃ fn, P.funcs[f]? = some fn ∧ fn.body.isNone = false ∧ (fn.name == "runtime.NumGoroutine") = false

structure CallSem (P : Program) (f : FuncId) (args : List AV) (h : Heap) (K : AV → Heap → Prop) : Prop where
  ok : FnOK P f
  run : ∀ (E : Env) (w : World) (vs : Array Value), HR E w h → TR E w args vs → (∀ x ∈ args, Lt h.blks.length h.loops.length x) → ∀ cs : List Frame,
    ∃ r h' E' w' v fr, K r h' ∧ VR E' w' r v ∧ HR E' w' h' ∧ Lt h'.blks.length h'.loops.length r ∧ h.blks.length ≤ h'.blks.length ∧ h.loops.length ≤ h'.loops.length ∧
      Ext h.blks.length h.loops.length E w E' w' ∧ Steps P (lone (Frame.enter P f vs .normal) cs w) (lone fr cs w') ∧ fr.fn = f ∧ fr.leaving P w' (.returned v)

theorem CallSem.mono {P : Program} {f : FuncId} {args : List AV} {h : Heap} {K K' : AV → Heap → Prop} (g : CallSem P f args h K) (hk : ∀ r h', K r h' → K' r h') : CallSem P f args h K' :=
  ⟨g.ok, fun E w vs h1 h2 h3 cs => by obtain ⟨r, h', E', w', v, fr, k, rest⟩ := g.run E w vs h1 h2 h3 cs; exact ⟨r, h', E', w', v, fr, hk _ _ k, rest⟩⟩

theorem HR.frame {E : Env} {w w' : World} {h : Heap} (hr : HR E w h) (hf : ∀ B, foot E B → w'.heap[B]? = w.heap[B]?)
    (hk : Keeps h.blks.length h.loops.length E w E w') (hs : w.heap.size ≤ w'.heap.size) (hgl : GlobOK E w') : HR E w' h where
  dead := hr.dead
  rows b rs g fz hb := by
    obtain ⟨Ls, h1, h2⟩ := hr.rows b rs g fz hb
    refine ⟨Ls, h1, h2.one, h2.now, fun L hL => ?_, h2.apart⟩
    have hl := h2.all L hL
    obtain ⟨arr, el, a1, a2, a3⟩ := hl.lies
    refine ⟨⟨arr, el, (hf _ (.inl ⟨b, Ls, L, h1, hL, rfl⟩)).trans a1, a2, fun i hi hi' j hj => ?_⟩, hl.len, hl.fits, hl.sz, hl.own, hl.free⟩
    obtain ⟨v, b1, b2, b3⟩ := a3 i hi hi' j hj
    exact ⟨v, b1, b2.keep hk (hr.lt.blks b _ hb _ (List.getElem_mem hi) _ (List.getElem_mem hj)), b3⟩
  maps b es hb := by
    obtain ⟨Ls, h1, ⟨L, ces, clock, rfl, h3, h4, h5, h6⟩⟩ := hr.maps b es hb
    refine ⟨[L], h1, ⟨L, ces, clock, rfl, h3, (hf _ (.inl ⟨b, [L], L, h1, by simp, rfl⟩)).trans h4, h5, fun i hi hj => ?_⟩⟩
    have hl := hr.lt.blks b _ hb _ (List.getElem_mem hi)
    exact ⟨(h6 i hi hj).1.keep hk hl.1, (h6 i hi hj).2.keep hk hl.2⟩
  apart := hr.apart
  deadl := hr.deadl
  loops l r hl := by
    obtain ⟨o, h1, ⟨ct, df, fi, h2, h3⟩⟩ := hr.loops l r hl
    exact ⟨o, h1, ⟨ct, df, fi, (hf _ (.inr ⟨l, h1⟩)).trans h2, h3.keep hk (hr.lt.loops l r hl)⟩⟩
  lapart := hr.lapart
  lt := hr.lt
  inside B hB := Nat.lt_of_lt_of_le (hr.inside B hB) hs
  globs := hgl

structure ResSem (P : Program) (fn : Func) (s : St) (r : AV) : Prop where
  run : ∀ (E : Env) (w : World) (tmps : Array Value), StR E w s tmps → ∃ v, (results fn tmps).run P w = .ok v w ∧ VR E w r v ∧ Lt s.h.blks.length s.h.loops.length r

structure Past (base : Nat) (E : Env) (w w' : World) : Prop where
  size : w'.heap.size = w.heap.size
  os : w'.os = w.os
  output : w'.output = w.output
  tape : w'.tape = w.tape
  same : ∀ B, (B < base ∨ foot E B ∨ ∃ c el fr, w.heap[B]? = some (.cells c el fr)) → w'.heap[B]? = w.heap[B]?

omit [Gl] in
theorem Past.refl (base : Nat) (E : Env) (w : World) : Past base E w w := ⟨rfl, rfl, rfl, rfl, fun _ _ => rfl⟩

omit [Gl] in
theorem Past.keeps {base n m : Nat} {E : Env} {w w' : World} (h : Past base E w w') : Keeps n m E w E w' where
  cells B o v hF hc := by
    refine ⟨hF, ?_⟩
    have : w'.heap[B]? = w.heap[B]? := by
      refine h.same B (.inr (.inr ?_))
      unfold World.cell? at hc
      split at hc
      · rename_i c el fr hb; exact ⟨_, _, _, hb⟩
      · cases hc
    simp only [World.cell?, this] at hc ⊢
    exact hc
  refs b _ Ls h' := ⟨Ls, h', fun L hL => ⟨L, hL, rfl, rfl, rfl, rfl, Nat.le_refl _⟩⟩
  loops _ _ _ h' := h'

omit [Gl] in
theorem step_collected {P : Program} {fr : Frame} {cs : List Frame} {w : World} {r : Nat} {ds : List Deferred} (hm : fr.mode = .returning)
    (hd : fr.defers = { target := .collected r, args := #[] } :: ds) (hw : w.heap[r]? = some (.deferred (some []))) :
    step P (lone fr cs w) = .next (lone { fr with defers := ds } cs { w with heap := w.heap.setIfInBounds r (.deferred none) }) := by
  have hrun : (Instr.takeDeferred r).run P w = .ok [] { w with heap := w.heap.setIfInBounds r (.deferred none) } := by
    simp [Instr.takeDeferred, getObj, setObj, bind, Sem.bind, Sem.run, hw, pure]
  refine step_lone_go ?_
  simp only [stepG, hm]
  simp [unwind, hd, Sem.runT_eq, hrun, hm]

omit [Gl] in
theorem unwinds {P : Program} {E : Env} {base : Nat} {cs : List Frame} : ∀ (rs : List Nat) (fr : Frame) (w : World), rs.Nodup →
    (∀ r ∈ rs, base ≤ r ∧ ¬ foot E r ∧ w.heap[r]? = some (.deferred (some []))) → fr.mode = .returning →
    fr.defers = rs.map (fun r => { target := .collected r, args := #[] }) →
    ∃ w', Past base E w w' ∧ Steps P (lone fr cs w) (lone { fr with defers := [] } cs w')
  | [], fr, w, _, _, _, hd => ⟨w, .refl .., by
      have : ({ fr with defers := [] } : Frame) = fr := by rw [show ([] : List Deferred) = fr.defers from hd.symm]
      rw [this]; exact .refl ..⟩
  | r :: rs, fr, w, hn, hr, hm, hd => by
    obtain ⟨h1, h2, h3⟩ := hr r (by simp)
    have hs := step_collected (P := P) (cs := cs) hm hd h3
    rw [List.nodup_cons] at hn
    have hne : ∀ x, x ≠ r → (w.heap.setIfInBounds r (.deferred none))[x]? = w.heap[x]? := fun x hx => by
      rw [Array.getElem?_setIfInBounds_ne (Ne.symm hx)]
    obtain ⟨w', p, s⟩ := unwinds rs { fr with defers := rs.map (fun r => { target := .collected r, args := #[] }) } { w with heap := w.heap.setIfInBounds r (.deferred none) } hn.2
      (fun x hx => by
        obtain ⟨a, b, c⟩ := hr x (by simp [hx])
        refine ⟨a, b, ?_⟩
        show (w.heap.setIfInBounds r (.deferred none))[x]? = _
        rw [hne x (fun e => hn.1 (e ▸ hx))]; exact c) hm rfl
    refine ⟨w', ⟨?_, p.os, p.output, p.tape, fun B hB => ?_⟩, .head hs s⟩
    · rw [p.size]; simp
    · have hBr : B ≠ r := by
        rintro rfl
        rcases hB with h | h | ⟨c, el, fr', h⟩
        · omega
        · exact h2 h
        · rw [h3] at h; cases h
      have e1 : w'.heap[B]? = (w.heap.setIfInBounds r (.deferred none))[B]? := by
        refine p.same B ?_
        rcases hB with h | h | ⟨c, el, fr', h⟩
        · exact .inl h
        · exact .inr (.inl h)
        · exact .inr (.inr ⟨c, el, fr', (hne B hBr).trans h⟩)
      rw [e1, hne B hBr]

omit [Gl] in
theorem TR.pad {E : Env} {w : World} {ts : List AV} {vs : Array Value} (h : TR E w ts vs) (n : Nat) :
    TR E w (ts ++ List.replicate (n - ts.length) .junk) (vs ++ Array.replicate (n - vs.size) undef) := by
  refine ⟨by simp [h.size], fun i hi hj => ?_⟩
  rcases Nat.lt_or_ge i ts.length with hl | hl
  · have hv : i < vs.size := h.size ▸ hl
    rw [List.getElem_append_left hl, Array.getElem_append_left hv]
    exact h.val i hl hv
  · have : (ts ++ List.replicate (n - ts.length) AV.junk)[i] = .junk := by
      rw [List.getElem_append_right hl]; simp
    rw [this]; exact .junk _

theorem call_body {P : Program} {f : FuncId} {fn : Func} {c : Code} {args : List AV} {h : Heap} {K : AV → Heap → Prop} (hf : P.funcs[f]? = some fn) (hb : fn.body = some c)
    (hn : (fn.name == "runtime.NumGoroutine") = false) (g : TodoSem P h.blks.length h.loops.length none [.code c] { tmps := args ++ List.replicate (fn.ntmps - args.length) .junk, h := h }
      (fun e s => (match e with | .normal => True | .jump .ret => True | _ => False) ∧ ∃ r, ResSem P fn s r ∧ K r s.h)) : CallSem P f args h K :=
  ⟨⟨fn, hf, by simp [hb], hn⟩, fun E w vs h1 h2 h3 cs => by
    let b : Frame := { fn := f, tmps := #[], todo := [], defers := [], mode := .run, kind := .normal, roundOf := none }
    have henter : Frame.enter P f vs .normal = fat b (vs ++ Array.replicate (fn.ntmps - vs.size) undef) [] [.code c] := by
      simp [Frame.enter, fat, hf, hb, b]
    have hst : StR E w { tmps := args ++ List.replicate (fn.ntmps - args.length) .junk, h := h } (vs ++ Array.replicate (fn.ntmps - vs.size) undef) := by
      refine ⟨h1, h2.pad fn.ntmps, fun x hx => ?_⟩
      rcases List.mem_append.1 hx with hx | hx
      · exact h3 x hx
      · rw [(List.mem_replicate.1 hx).2]; exact .junk
    obtain ⟨e, s, E1, w1, t1, d1, ⟨he, r, hres, hk⟩, s1, s2, s3, s4, s5, s6⟩ := g.run b E w _ [] w.heap.size hst ⟨[], rfl, by simp, by simp⟩ (Nat.le_refl _) rfl (Nat.le_refl _) (Nat.le_refl _) [] cs
    have hret : ∃ todo, Steps P (lone (Frame.enter P f vs .normal) cs w) (lone { fat b t1 d1 todo with mode := .returning } cs w1) := by
      rw [henter]
      cases e with
      | normal => exact ⟨[], Steps.trans s6 (.one (stepR_end (b := b) (a := ⟨t1, d1⟩) rfl))⟩
      | jump j =>
        obtain ⟨todo, hs, _⟩ := s6
        cases j with
        | ret => exact ⟨.code .ret :: todo, hs.trans (.one (stepR_ret (b := b) (a := ⟨t1, d1⟩) rfl))⟩
        | _ => exact he.elim
    obtain ⟨todo, hret⟩ := hret
    obtain ⟨rs, e1, e2, e3⟩ := s2.marks
    obtain ⟨w2, p, hs⟩ := unwinds (P := P) (E := E1) (base := w.heap.size) (cs := cs) rs { fat b t1 d1 todo with mode := .returning } w1 e2 e3 rfl e1
    have hk2 : Keeps s.h.blks.length s.h.loops.length E1 w1 E1 w2 := p.keeps
    have hst2 : StR E1 w2 s t1 := ⟨s1.heap.frame (fun B hB => p.same B (.inr (.inl hB))) hk2 (by rw [p.size]; exact Nat.le_refl _) (s1.heap.globs.stand hk2 fun B c el fr h => p.same B (.inr (.inr ⟨c, el, fr, h⟩))), s1.tmps.keep hk2 s1.lt, s1.lt⟩
    obtain ⟨v, hv, hvr, hlt⟩ := hres.run E1 w2 t1 hst2
    have hx2 : Ext h.blks.length h.loops.length E w E1 w2 := by
      refine ⟨s3.keeps.trans (Nat.le_refl _) (Nat.le_refl _) p.keeps, by rw [p.size]; exact s3.size, p.os.trans s3.os, p.output.trans s3.output, p.tape.trans s3.tape, fun B hB hf => ?_, s3.F', s3.foot'⟩
      rw [p.same B (.inl hB), s3.same B hB hf]
    refine ⟨r, s.h, E1, w2, v, { fat b t1 d1 todo with mode := .returning, defers := [] }, hk, hvr, hst2.heap, hlt, s4, s5, hx2, hret.trans hs, rfl, rfl, rfl, rfl, fn, hf, hv⟩⟩

structure Grows (w w' : World) : Prop where
  size : w.heap.size ≤ w'.heap.size
  os : w'.os = w.os
  output : w'.output = w.output
  tape : w'.tape = w.tape
  same : ∀ B, B < w.heap.size → w'.heap[B]? = w.heap[B]?


omit [Gl] in
theorem keeps_pure {E E' : Env} {w w' : World} (h : ∀ B o v, ¬ E.F B → w.cell? ⟨B, o, none⟩ = some v → ¬ E'.F B ∧ w'.cell? ⟨B, o, none⟩ = some v) : Keeps 0 0 E w E' w' :=
  ⟨h, fun _ hb => absurd hb (Nat.not_lt_zero _), fun _ hl => absurd hl (Nat.not_lt_zero _)⟩

structure PureSem (P : Program) (f : FuncId) (args : List AV) (r : AV) : Prop where
  ok : FnOK P f
  pure : Pure r
  run : ∀ (F : Nat → Prop) (w : World) (vs : Array Value), (∀ B, F B → B < w.heap.size) → GlobOK (penv F) w → TR (penv F) w args vs → ∀ cs : List Frame,
    ∃ v w' fr, VR (penv F) w' r v ∧ Grows w w' ∧ Steps P (lone (Frame.enter P f vs .normal) cs w) (lone fr cs w') ∧ fr.fn = f ∧ fr.leaving P w' (.returned v)

inductive Frz (h : Heap) : AV → AV → Prop where
  | pure (x : AV) (hp : Pure x) : Frz h x x
  | agg (cs ds : List AV) (hl : cs.length = ds.length) (hh : ∀ (i : Nat) (hi : i < cs.length) (hj : i < ds.length), Frz h cs[i] ds[i]) : Frz h (.agg cs) (.agg ds)
  | tup (cs ds : List AV) (hl : cs.length = ds.length) (hh : ∀ (i : Nat) (hi : i < cs.length) (hj : i < ds.length), Frz h cs[i] ds[i]) : Frz h (.tup cs) (.tup ds)
  | ms (b i len : Nat) (capo : Option Nat) (rs : List (List AV)) (g fz : Bool) (es : List (List AV)) (hb : h.blk? b = some (.rows rs g fz)) (hl : es.length = len) (hi : i + len ≤ rs.length)
      (hs : ∀ (t : Nat) (ht : t < es.length) (hr : i + t < rs.length), es[t].length = rs[i + t].length)
      (hh : ∀ (t : Nat) (ht : t < es.length) (hr : i + t < rs.length) (j : Nat) (h1 : j < es[t].length) (h2 : j < rs[i + t].length), Frz h rs[i + t][j] es[t][j]) :
      Frz h (.ms b i len capo) (.vs es capo)
  | ptr (b i j : Nat) (rs : List (List AV)) (g fz : Bool) (row : List AV) (hb : h.blk? b = some (.rows rs g fz)) (hi : i < rs.length) (hl : row.length = rs[i].length)
      (hh : ∀ (t : Nat) (h1 : t < row.length) (h2 : t < rs[i].length), Frz h rs[i][t] row[t]) : Frz h (.ptr b i j) (.vp row j)
  | fn (f : Fn) (a c a' c' : List AV) (h1 : a.length = a'.length) (h2 : c.length = c'.length) (hh1 : ∀ (i : Nat) (hi : i < a.length) (hj : i < a'.length), Frz h a[i] a'[i])
      (hh2 : ∀ (i : Nat) (hi : i < c.length) (hj : i < c'.length), Frz h c[i] c'[i]) : Frz h (.fn f a c) (.fn f a' c')
  | ifc (t : TypeId) (x y : AV) (hh : Frz h x y) : Frz h (.ifc t x) (.ifc t y)
  | vs (es ds : List (List AV)) (capo : Option Nat) (hl : es.length = ds.length) (hs : ∀ (t : Nat) (h1 : t < es.length) (h2 : t < ds.length), es[t].length = ds[t].length)
      (hh : ∀ (t : Nat) (h1 : t < es.length) (h2 : t < ds.length) (j : Nat) (h3 : j < es[t].length) (h4 : j < ds[t].length), Frz h es[t][j] ds[t][j]) : Frz h (.vs es capo) (.vs ds capo)
  | vp (r s : List AV) (j : Nat) (hl : r.length = s.length) (hh : ∀ (t : Nat) (h1 : t < r.length) (h2 : t < s.length), Frz h r[t] s[t]) : Frz h (.vp r j) (.vp s j)

theorem Frz.VR {E : Env} {w : World} {h : Heap} {F : Nat → Prop} (hr : HR E w h) (hF : ∀ B o v, ¬ E.F B → w.cell? ⟨B, o, none⟩ = some v → ¬ F B) (hfoot : ∀ b Ls L, E.ρ b = some Ls → L ∈ Ls → ¬ F L.blk)
    {x y : AV} (hf : Frz h x y) : ∀ v, Abs.VR E w x v → Abs.VR (penv F) w y v := by
  induction hf with
  | pure x hp => exact fun v hv => hv.keep (keeps_pure (E' := penv F) fun B o v a b => ⟨hF B o v a b, b⟩) hp
  | agg cs ds hl hh ih =>
    intro v hv
    cases hv with
    | agg _ vs hs hv => exact .agg ds vs (hl ▸ hs) fun i hi hj => ih i (hl ▸ hi) hi _ (hv i (hl ▸ hi) hj)
  | tup cs ds hl hh ih =>
    intro v hv
    cases hv with
    | tup _ vs hs hv => exact .tup ds vs (hl ▸ hs) fun i hi hj => ih i (hl ▸ hi) hi _ (hv i (hl ▸ hi) hj)
  | ms b i len capo rs g fz es hb hl hi hs hh ih =>
    intro v hv
    cases hv with
    | ms _ _ _ _ a l c hv =>
      obtain ⟨Ls, h1, h2⟩ := hr.rows b rs g fz hb
      obtain ⟨L, hL, h3, h4, h5, h6, ⟨k0, hk0, rfl⟩, rfl⟩ := hv Ls h1
      by_cases hes : es.length = 0
      · subst hl
        obtain rfl := List.eq_nil_of_length_eq_zero hes
        exact .vs [] capo L.blk (L.off + k0 * L.sz) c L.sz (fun _ _ => undef) (by simp) h6 (fun t ht => by simp at ht) (fun t ht => by simp at ht) (fun t ht => by simp at ht)
      obtain rfl : i = k0 := by omega
      obtain ⟨arr, el, a1, a2, a3⟩ := (h2.all L hL).lies
      have hsz : ∀ (t : Nat) (ht : t < es.length), es[t].length = L.sz := fun t ht => (hs t ht (by omega)).trans ((h2.all L hL).sz _ _)
      subst hl
      have cell : ∀ (t : Nat) (ht : t < es.length) (j : Nat) (hj : j < es[t].length), ∃ v, arr[L.off + (i + t) * L.sz + j]? = some v ∧ Abs.VR E w ((rs[i + t]'(by omega))[j]'(by rw [← hs t ht (by omega)]; exact hj)) v := fun t ht j hj => by
        obtain ⟨v, b1, b2, _⟩ := a3 (i + t) (by omega) (by omega) j (by rw [← hs t ht (by omega)]; exact hj)
        exact ⟨v, b1, b2⟩
      refine .vs es capo L.blk (L.off + i * L.sz) c L.sz (fun t j => (arr[L.off + (i + t) * L.sz + j]?).getD undef) h4 h6 hsz (fun t ht j hj => ?_) (fun t ht j hj => ?_)
      · obtain ⟨v, b1, _⟩ := cell t ht j hj
        refine ⟨hfoot b Ls L h1 hL, ?_⟩
        have e : L.off + i * L.sz + t * L.sz + j = L.off + (i + t) * L.sz + j := by rw [Nat.add_mul]; omega
        simp only [World.cell?, a1, e, b1, Option.getD_some]
        rfl
      · obtain ⟨v, b1, b2⟩ := cell t ht j hj
        have := ih t ht (by omega) j hj (by rw [← hs t ht (by omega)]; exact hj) v b2
        simpa only [b1, Option.getD_some] using this
  | ptr b i j rs g fz row hb hi hl hh ih =>
    intro v hv
    cases hv with
    | ptr _ _ _ _ hv =>
      obtain ⟨Ls, h1, h2⟩ := hr.rows b rs g fz hb
      obtain ⟨L, hL, h3, h4, rfl⟩ := hv Ls h1
      obtain ⟨arr, el, a1, a2, a3⟩ := (h2.all L hL).lies
      have cell : ∀ (t : Nat) (ht : t < row.length), ∃ v, arr[L.off + i * L.sz + t]? = some v ∧ Abs.VR E w (rs[i])[t] v := fun t ht => by
        obtain ⟨v, b1, b2, _⟩ := a3 i hi h3 t (by omega)
        exact ⟨v, b1, b2⟩
      refine .vp row j L.blk (L.off + i * L.sz) (fun t => (arr[L.off + i * L.sz + t]?).getD undef) (fun t ht => ?_) (fun t ht => ?_)
      · obtain ⟨v, b1, _⟩ := cell t ht
        refine ⟨hfoot b Ls L h1 hL, ?_⟩
        simp only [World.cell?, a1, b1, Option.getD_some]
        rfl
      · obtain ⟨v, b1, b2⟩ := cell t ht
        have := ih t ht (by omega) v b2
        simpa only [b1, Option.getD_some] using this
  | fn f a c a' c' h1 h2 hh1 hh2 ih1 ih2 =>
    intro v hv
    cases hv with
    | fn _ _ _ vf vc e1 e2 v1 v2 =>
      exact .fn f a' c' vf vc (h1 ▸ e1) (h2 ▸ e2) (fun i hi hj => ih1 i (h1 ▸ hi) hi _ (v1 i (h1 ▸ hi) hj)) (fun i hi hj => ih2 i (h2 ▸ hi) hi _ (v2 i (h2 ▸ hi) hj))
  | ifc t x y hh ih =>
    intro v hv
    cases hv with
    | ifc _ _ v hv => exact .ifc t y v (ih v hv)
  | vs es ds capo hl hs hh ih =>
    intro v hv
    cases hv with
    | vs _ _ B off cap sz vals a1 a2 a3 a4 a5 =>
      rw [hl]
      refine .vs ds capo B off cap sz vals (hl ▸ a1) a2 (fun t ht => (hs t (by omega) ht).symm.trans (a3 t (by omega))) (fun t ht j hj => ?_) (fun t ht j hj => ?_)
      · have e := hs t (by omega) ht
        obtain ⟨b1, b2⟩ := a4 t (by omega) j (by omega)
        exact ⟨hF B _ _ b1 b2, b2⟩
      · have e := hs t (by omega) ht
        exact ih t (by omega) ht j (by omega) hj _ (a5 t (by omega) j (by omega))
  | vp r s j hl hh ih =>
    intro v hv
    cases hv with
    | vp _ _ B off vals a1 a2 =>
      refine .vp s j B off vals (fun t ht => ?_) (fun t ht => ?_)
      · obtain ⟨b1, b2⟩ := a1 t (by omega)
        exact ⟨hF B _ _ b1 b2, b2⟩
      · exact ih t (by omega) ht _ (a2 t (by omega))

theorem hr_empty {F : Nat → Prop} {w : World} (hF : ∀ B, F B → B < w.heap.size) (hg : GlobOK (penv F) w) : HR (penv F) w ⟨[], []⟩ where
  dead _ _ := rfl
  rows b rs g fz h := by simp [Heap.blk?] at h
  maps b es h := by simp [Heap.blk?] at h
  apart b b' Ls Ls' L L' _ h := by cases h
  deadl _ _ := rfl
  loops l r h := by simp [Heap.loop?] at h
  lapart l l' o h := by cases h
  lt := ⟨fun b x h => by simp [Heap.blk?] at h, fun l r h => by simp [Heap.loop?] at h⟩
  inside := hF
  globs := hg

omit [Gl] in
theorem foot_penv {F : Nat → Prop} {B : Nat} : ¬ foot (penv F) B := by
  rintro (⟨b, Ls, L, h, _⟩ | ⟨l, h⟩) <;> cases h

theorem pure_of_call {P : Program} {f : FuncId} {args : List AV} {r : AV} (ha : ∀ x ∈ args, Pure x) (hr : Pure r)
    (h : CallSem P f args ⟨[], []⟩ (fun r' h' => Frz h' r' r)) : PureSem P f args r :=
  ⟨h.ok, hr, fun F w vs hF hg ht cs => by
    obtain ⟨r', h', E', w', v, fr, hk, s1, s2, s3, s4, s5, s6, s7, s8, s9⟩ := h.run (penv F) w vs (hr_empty hF hg) ht ha cs
    refine ⟨v, w', fr, ?_, ⟨s6.size, s6.os, s6.output, s6.tape, fun B hB => s6.same B hB foot_penv⟩, s7, s8, s9⟩
    refine Frz.VR s2 (fun B o v hB hc hFB => ?_) (fun b Ls L h1 h2 hFB => ?_) hk v s1
    · exact (s6.F' B (hF B hFB) hFB).elim hB foot_penv
    · exact foot_penv (s6.foot' L.blk (hF _ hFB) (.inl ⟨b, Ls, L, h1, h2, rfl⟩))⟩

omit [Gl] in
theorem Grows.keeps {w w' : World} (g : Grows w w') (n m : Nat) (E : Env) : Keeps n m E w E w' where
  cells B o v hF hc := by
    refine ⟨hF, ?_⟩
    have hB : B < w.heap.size := by
      rcases Nat.lt_or_ge B w.heap.size with h | h
      · exact h
      · simp [World.cell?, Array.getElem?_eq_none h] at hc
    simp only [World.cell?, g.same B hB] at hc ⊢
    exact hc
  refs b _ Ls h' := ⟨Ls, h', fun L hL => ⟨L, hL, rfl, rfl, rfl, rfl, Nat.le_refl _⟩⟩
  loops _ _ _ h' := h'

theorem foot_lt {E : Env} {w : World} {h : Heap} (hr : HR E w h) {B : Nat} (hf : foot E B) : B < w.heap.size := by
  have hs : ∀ o, w.heap[B]? = some o → B < w.heap.size := fun o ho => by
    rcases Nat.lt_or_ge B w.heap.size with h | h
    · exact h
    · rw [Array.getElem?_eq_none h] at ho; cases ho
  rcases hf with ⟨b, Ls, L, h1, h2, rfl⟩ | ⟨l, h1⟩
  · cases hb : h.blk? b with
    | none => rw [hr.dead b hb] at h1; cases h1
    | some x =>
      cases x with
      | rows rs g fz =>
        obtain ⟨Ls', h3, h4⟩ := hr.rows b rs g fz hb
        rw [h1] at h3; injection h3 with h3; subst h3
        obtain ⟨arr, el, a1, _⟩ := (h4.all L h2).lies
        exact hs _ a1
      | mapb es =>
        obtain ⟨Ls', h3, ⟨L', ces, clock, rfl, _, h4, _⟩⟩ := hr.maps b es hb
        rw [h1] at h3; injection h3 with h3; subst h3
        obtain rfl : L = L' := by simpa using h2
        exact hs _ h4
  · cases hl : h.loop? l with
    | none => rw [hr.deadl l hl] at h1; cases h1
    | some r =>
      obtain ⟨o, h3, ⟨ct, df, fi, h4, _⟩⟩ := hr.loops l r hl
      rw [h1] at h3; injection h3 with h3; subst h3
      exact hs _ h4

theorem Grows.ext {E : Env} {w w' : World} {h : Heap} (g : Grows w w') (hr : HR E w h) (n m : Nat) : Ext n m E w E w' ∧ HR E w' h := by
  have hx : Ext n m E w E w' := ⟨g.keeps n m E, g.size, g.os, g.output, g.tape, fun B hB _ => g.same B hB, fun _ _ h => .inl h, fun _ _ h => h⟩
  exact ⟨hx, hr.frame (fun B hB => g.same B (foot_lt hr hB)) (g.keeps _ _ E) g.size (hr.globs.ext hx)⟩

theorem call_pure {P : Program} {f : FuncId} {args : List AV} {r : AV} {h : Heap} {K : AV → Heap → Prop} (ha : ∀ x ∈ args, Pure x) (hp : PureSem P f args r) (hk : K r h) : CallSem P f args h K :=
  ⟨hp.ok, fun E w vs h1 h2 _ cs => by
    have ht : TR (penv E.F) w args vs := h2.keep (keeps_pure (E := E) (E' := penv E.F) (w := w) (w' := w) fun B o v a b => ⟨a, b⟩) ha
    obtain ⟨v, w', fr, s1, s2, s3, s4, s5⟩ := hp.run E.F w vs h1.inside (h1.globs.pen E.F fun _ h => h) ht cs
    obtain ⟨x1, x2⟩ := s2.ext h1 h.blks.length h.loops.length
    exact ⟨r, h, E, w', v, fr, hk, s1.keep (keeps_pure (E := penv E.F) (E' := E) (w := w') (w' := w') fun B o v a b => ⟨a, b⟩) hp.pure, x2, hp.pure.lt _ _, Nat.le_refl _, Nat.le_refl _, x1, s3, s4, s5⟩⟩

inductive Plain : AV → Prop where
  | bool (b) : Plain (.bool b)
  | int (k n) : Plain (.int k n)
  | str (s) : Plain (.str s)
  | nilp : Plain .nilp
  | nils : Plain .nils
  | nilf : Plain .nilf
  | nili : Plain .nili
  | nilm : Plain .nilm
  | agg (cs : List AV) (h : ∀ (i : Nat) (hi : i < cs.length), Plain cs[i]) : Plain (.agg cs)
  | tup (cs : List AV) (h : ∀ (i : Nat) (hi : i < cs.length), Plain cs[i]) : Plain (.tup cs)

omit [Gl] in
theorem Plain.VR {E E' : Env} {w w' : World} {x : AV} (h : Plain x) : ∀ v, Abs.VR E w x v → Abs.VR E' w' x v := by
  induction h with
  | agg cs h ih => intro v hv; cases hv with | agg _ vs hs hv => exact .agg cs vs hs fun i hi hj => ih i hi _ (hv i hi hj)
  | tup cs h ih => intro v hv; cases hv with | tup _ vs hs hv => exact .tup cs vs hs fun i hi hj => ih i hi _ (hv i hi hj)
  | _ => intro v hv; cases hv; constructor

theorem call_borrow {P : Program} {f : FuncId} {args args' : List AV} {r : AV} {h : Heap} {K : AV → Heap → Prop} (ha : args.length = args'.length)
    (hz : ∀ (i : Nat) (hi : i < args.length) (hj : i < args'.length), Frz h args[i] args'[i]) (hp : PureSem P f args' r) (hpl : Plain r) (hk : K r h) : CallSem P f args h K :=
  ⟨hp.ok, fun E w vs h1 h2 _ cs => by
    have ht : TR (penv fun _ => False) w args' vs := ⟨ha ▸ h2.size, fun i hi hj => Frz.VR h1 (fun _ _ _ _ _ h => h) (fun _ _ _ _ _ h => h) (hz i (ha ▸ hi) hi) _ (h2.val i (ha ▸ hi) hj)⟩
    obtain ⟨v, w', fr, s1, s2, s3, s4, s5⟩ := hp.run (fun _ => False) w vs (fun _ h => h.elim) (h1.globs.pen _ fun _ _ h => h) ht cs
    obtain ⟨x1, x2⟩ := s2.ext h1 h.blks.length h.loops.length
    exact ⟨r, h, E, w', v, fr, hk, hpl.VR v s1, x2, hp.pure.lt _ _, Nat.le_refl _, Nat.le_refl _, x1, s3, s4, s5⟩⟩

end
end Go.Abs

namespace Go.Abs
noncomputable section
variable [Gl]

structure TI where
  desc : TypeDesc
  size : Nat
  bytes : Nat
  zero : List AV
  /-- may its values be compared, cell by cell? -/
  cmp : Bool

abbrev Tab := TypeId → Option TI

def isAggD : TypeDesc → Bool
  | .struct _ | .array _ _ => true
  | _ => false

structure TabOK (P : Program) (T : Tab) : Prop where
  ok : ∀ t i, T t = some i → P.underlying t = some i.desc ∧ ∃ info, P.info? t = some info ∧ info.size = i.size ∧ info.bytes = i.bytes ∧
    ∃ z, info.zero = some z ∧ z.cells.toList.map ofV = i.zero ∧ z.cells.size = i.size ∧ (∀ c ∈ z.cells.toList, one c = true) ∧
      (isAggD i.desc = true → z = .agg z.cells) ∧ (isAggD i.desc = false → z.cells = #[z])
  cmp : ∀ t i, T t = some i → i.cmp = true → P.stoodInHeld t = false ∧ P.eqGuardType P.depth t = false

def okc : AV → Bool
  | .junk | .agg _ | .tup _ => false
  | _ => true

def cellsA : AV → List AV
  | .agg cs => cs
  | x => [x]

def Heap.push (h : Heap) (b : Blk) : Heap := { h with blks := h.blks ++ [some b] }
def Heap.put (h : Heap) (b : Nat) (x : Blk) : Heap := { h with blks := h.blks.set b (some x) }

def partA (ti : TI) (row : List AV) (j : Nat) : Option AV :=
  if isAggD ti.desc then (if j + ti.size ≤ row.length then some (.agg ((row.drop j).take ti.size)) else none) else row[j]?

def loadA (T : Tab) (h : Heap) (t : TypeId) (x : AV) : Option AV :=
  match T t with
  | none => none
  | some ti =>
    match x with
    | .ptr b i j =>
      match h.blk? b with
      | some (.rows rs _ _) => (rs[i]?).bind fun row => partA ti row j
      | _ => none
    | .vp row j => partA ti row j
    | .gp g j => (Gl.gl g).bind fun row => partA ti row j
    | _ => none

def storeA (T : Tab) (h : Heap) (t : TypeId) (x v : AV) : Option Heap :=
  match T t with
  | none => none
  | some ti =>
    match x with
    | .ptr b i j =>
      match h.blk? b with
      | some (.rows rs false false) =>
        match rs[i]? with
        | some row =>
          if (cellsA v).all okc && (cellsA v).length == ti.size && Nat.ble (j + ti.size) row.length then
            some (h.put b (.rows (rs.set i (row.take j ++ cellsA v ++ row.drop (j + ti.size))) false false))
          else none
        | none => none
      | _ => none
    | _ => none

def fieldAddrA (T : Tab) (h : Heap) (s : TypeId) (x : AV) (f : Nat) : Option AV :=
  match T s with
  | some { desc := .struct fs, .. } =>
    match fs[f]? with
    | none => none
    | some fd =>
      match T fd.type with
      | none => none
      | some fi =>
        if fi.size == 0 then none else
        match x with
        | .ptr b i j =>
          match h.blk? b with
          | some (.rows rs _ _) => match rs[i]? with
            | some row => if Nat.blt (j + fd.offset) row.length then some (.ptr b i (j + fd.offset)) else none
            | none => none
          | _ => none
        | .vp row j => some (.vp row (j + fd.offset))
        | .gp g j => some (.gp g (j + fd.offset))
        | _ => none
  | _ => none

def fieldA (T : Tab) (s : TypeId) (x : AV) (f : Nat) : Option AV :=
  match T s, x with
  | some { desc := .struct fs, .. }, .agg cs =>
    match fs[f]? with
    | none => none
    | some fd => match T fd.type with
      | none => none
      | some fi => partA fi cs fd.offset
  | _, _ => none

def fillA (place : Nat → Option (Nat × Nat)) (cells : List AV) : List (Nat × AV) → Option (List AV)
  | [] => some cells
  | (i, v) :: rest =>
    match place i with
    | none => none
    | some (off, size) =>
      if (cellsA v).length == size && Nat.ble (off + size) cells.length && (cellsA v).all okc then
        fillA place (cells.take off ++ cellsA v ++ cells.drop (off + size)) rest
      else none

def placesA (T : Tab) (d : TypeDesc) : Nat → Option (Nat × Nat) :=
  match d with
  | .struct fs => fun i => match fs[i]? with
    | none => none
    | some fd => match T fd.type with
      | none => none
      | some fi => some (fd.offset, fi.size)
  | .array _ e => fun i => match T e with
    | none => none
    | some ei => some (i * ei.size, ei.size)
  | _ => fun _ => none

def knowsParts (T : Tab) : TypeDesc → Bool
  | .struct fs => fs.toList.all fun f => (T f.type).isSome
  | .array _ e => (T e).isSome
  | _ => false

def buildA (T : Tab) (t : TypeId) (parts : List (Nat × AV)) : Option AV :=
  match T t with
  | none => none
  | some ti => if knowsParts T ti.desc then (fillA (placesA T ti.desc) ti.zero parts).map .agg else none

def fillRows (size : Nat) (rows : List (List AV)) : List (Nat × AV) → Option (List (List AV))
  | [] => some rows
  | (i, v) :: rest =>
    if (cellsA v).length == size && (cellsA v).all okc && Nat.blt i rows.length then fillRows size (rows.set i (cellsA v)) rest else none

def unA (op : UnOp) (x : AV) : Option AV :=
  match op, x with
  | .neg, .int k n => some (.int k (k.wrap (0 - n)))
  | .xor, .int k n => some (.int k (k.wrap ((BitVec.ofInt k.bits (if k.signed then -1 else k.max) ^^^ BitVec.ofInt k.bits n).toNat)))
  | .not, .bool b => some (.bool !b)
  | _, _ => none

def nilA (h : Heap) (d : TypeDesc) (x : AV) : Option Bool :=
  match d, x with
  | .slice _, .nils | .pointer _, .nilp | .func _ _ _, .nilf | .map _ _, .nilm => some true
  | .slice _, .vs _ _ | .pointer _, .vp _ _ | .pointer _, .gp _ _ | .func _ _ _, .fn _ _ _ => some false
  | .slice _, .ms b _ _ _ | .pointer _, .ptr b _ _ | .map _ _, .mp b => match h.blk? b with | some _ => some false | none => none
  | _, _ => none

def isNil (d : TypeDesc) (x : AV) : Bool :=
  match d, x with
  | .slice _, .nils | .pointer _, .nilp | .func _ _ _, .nilf | .map _ _, .nilm => true
  | _, _ => false

def eqFieldsA (T : Tab) (eq : TypeId → AV → AV → Option Bool) (xs ys : List AV) : List Field → Option Bool
  | [] => some true
  | f :: fs =>
    if f.name = "_" then none else
    match T f.type with
    | none => none
    | some fi =>
      match partA fi xs f.offset, partA fi ys f.offset with
      | some a, some b =>
        match eq f.type a b, eqFieldsA T eq xs ys fs with
        | some p, some q => some (p && q)
        | _, _ => none
      | _, _ => none

def eqElemsA (ei : TI) (eq : AV → AV → Option Bool) (xs ys : List AV) : List Nat → Option Bool
  | [] => some true
  | i :: is =>
    match partA ei xs (i * ei.size), partA ei ys (i * ei.size) with
    | some a, some b =>
      match eq a b, eqElemsA ei eq xs ys is with
      | some p, some q => some (p && q)
      | _, _ => none
    | _, _ => none

def eqA (T : Tab) : Nat → TypeId → AV → AV → Option Bool
  | 0, _, _, _ => none
  | n + 1, t, x, y =>
    match T t with
    | none => none
    | some ti =>
      match ti.desc, x, y with
      | .bool, .bool a, .bool b => some (a == b)
      | .int _, .int k a, .int k' b => if k = k' then some (a == b) else none
      | .string, .str a, .str b => some (a == b)
      | .struct fs, .agg xs, .agg ys => if ti.cmp then eqFieldsA T (eqA T n) xs ys fs.toList else none
      | .array len e, .agg xs, .agg ys =>
        if ti.cmp then (match T e with | none => none | some ei => eqElemsA ei (eqA T n e) xs ys (List.range len)) else none
      | _, _, _ => none

def intA (op : BinOp) (k : IntKind) (a b : Int) : Option AV :=
  match op with
  | .add => some (.int k (k.wrap (a + b)))
  | .sub => some (.int k (k.wrap (a - b)))
  | .mul => some (.int k (k.wrap (a * b)))
  | .and => some (.int k (k.wrap ((BitVec.ofInt k.bits a &&& BitVec.ofInt k.bits b).toNat)))
  | .or => some (.int k (k.wrap ((BitVec.ofInt k.bits a ||| BitVec.ofInt k.bits b).toNat)))
  | .xor => some (.int k (k.wrap ((BitVec.ofInt k.bits a ^^^ BitVec.ofInt k.bits b).toNat)))
  | .andNot => some (.int k (k.wrap ((BitVec.ofInt k.bits a &&& ~~~ BitVec.ofInt k.bits b).toNat)))
  | .eql => some (.bool (a == b))
  | .neq => some (.bool (a != b))
  | .lss => some (.bool (a < b))
  | .leq => some (.bool (a ≤ b))
  | .gtr => some (.bool (a > b))
  | .geq => some (.bool (a ≥ b))
  | _ => none

def strA (op : BinOp) (a b : List UInt8) : Option AV :=
  match op with
  | .eql => some (.bool (a == b))
  | .neq => some (.bool !(a == b))
  | .lss => some (.bool (Op.bytesLess a b))
  | .leq => some (.bool (Op.bytesLess a b || a == b))
  | .gtr => some (.bool !(Op.bytesLess a b || a == b))
  | .geq => some (.bool !Op.bytesLess a b)
  | _ => none

def binW (T : Tab) (h : Heap) (op : BinOp) (t : TypeId) (x y : AV) (K : AV → Prop) : Prop :=
  match op, x, y with
  | .shl, .int k a, .int _ b => 0 ≤ b ∧ K (.int k (k.wrap (a * 2 ^ (min b.toNat k.bits))))
  | .shr, .int k a, .int _ b => 0 ≤ b ∧ K (.int k (a.fdiv (2 ^ (min b.toNat k.bits))))
  | .quo, .int k a, .int k' b => if k = k' then b ≠ 0 ∧ K (.int k (k.wrap (a.tdiv b))) else False
  | .rem, .int k a, .int k' b => if k = k' then b ≠ 0 ∧ K (.int k (a.tmod b)) else False
  | op, .int k a, .int k' b => if k = k' then (match intA op k a b with | some r => K r | none => False) else False
  | .add, .str a, .str b => ((a.length + b.length : Nat) : Int) ≤ 9223372036854775807 ∧ K (.str (a ++ b))
  | op, .str a, .str b => match strA op a b with | some r => K r | none => False
  | .eql, x, y =>
    match T t with
    | none => False
    | some ti =>
      if isNil ti.desc x then (match nilA h ti.desc y with | some b => K (.bool b) | none => False)
      else if isNil ti.desc y then (match nilA h ti.desc x with | some b => K (.bool b) | none => False)
      else match eqA T 100 t x y with | some b => K (.bool b) | none => False
  | .neq, x, y =>
    match T t with
    | none => False
    | some ti =>
      if isNil ti.desc x then (match nilA h ti.desc y with | some b => K (.bool !b) | none => False)
      else if isNil ti.desc y then (match nilA h ti.desc x with | some b => K (.bool !b) | none => False)
      else match eqA T 100 t x y with | some b => K (.bool !b) | none => False
  | _, _, _ => False

def convW (T : Tab) (h : Heap) (src dst : TypeId) (x : AV) (K : AV → Heap → Prop) : Prop :=
  match T src, T dst with
  | some _, some di =>
    match di.desc, x with
    | .int k, .int _ n => K (.int k (k.wrap n)) h
    | .string, .str s => K (.str s) h
    | _, _ => False
  | _, _ => False

def indexGlobW (T : Tab) (t : TypeId) (g j : Nat) (ix : AV) (K : AV → Prop) : Prop :=
  match T t, ix with
  | some ti, .int _ i =>
    match ti.desc with
    | .array n e =>
      match T e with
      | none => False
      | some ei => (0 ≤ i ∧ i < n) ∧ K (.gp g (j + i.toNat * ei.size))
    | _ => False
  | _, _ => False

def indexMemW (T : Tab) (h : Heap) (t : TypeId) (x ix : AV) (K : AV → Prop) : Prop :=
  match T t, ix with
  | some ti, .int _ i =>
    match ti.desc, x with
    | .slice e, .ms b s len _ =>
      match T e with
      | none => False
      | some ei => (0 ≤ i ∧ i < len) ∧ 0 < ei.size ∧ (match h.blk? b with | some (.rows rs _ _) => (∃ row, rs[s + i.toNat]? = some row ∧ row.length = ei.size) | _ => False) ∧ K (.ptr b (s + i.toNat) 0)
    | .slice e, .vs es _ =>
      match T e with
      | none => False
      | some ei => (0 ≤ i ∧ i < es.length) ∧ ∃ row, es[i.toNat]? = some row ∧ row.length = ei.size ∧ K (.vp row 0)
    | .array n e, .ptr b r j =>
      match T e with
      | none => False
      | some ei => (0 ≤ i ∧ i < n) ∧ (match h.blk? b with | some (.rows rs _ _) => (match rs[r]? with | some row => j + i.toNat * ei.size < row.length | none => False) | _ => False) ∧ K (.ptr b r (j + i.toNat * ei.size))
    | .array n e, .vp row j =>
      match T e with
      | none => False
      | some ei => (0 ≤ i ∧ i < n) ∧ K (.vp row (j + i.toNat * ei.size))
    | _, _ => False
  | _, _ => False

def indexAddrW (T : Tab) (h : Heap) (t : TypeId) (x ix : AV) (K : AV → Prop) : Prop :=
  match x with
  | .gp g j => indexGlobW T t g j ix K
  | _ => indexMemW T h t x ix K

def indexW (T : Tab) (t : TypeId) (x ix : AV) (K : AV → Prop) : Prop :=
  match T t, ix with
  | some ti, .int _ i =>
    match ti.desc, x with
    | .array n e, .agg cs =>
      match T e with
      | none => False
      | some ei => (0 ≤ i ∧ i < n) ∧ ∃ r, partA ei cs (i.toNat * ei.size) = some r ∧ K r
    | .string, .str s => 0 ≤ i ∧ ∃ c, s[i.toNat]? = some c ∧ K (.int .u8 c.toNat)
    | _, _ => False
  | _, _ => False

def lowA : Option AV → Option Int
  | none => some 0
  | some (.int _ n) => some n
  | _ => none
def highA (len : Nat) : Option AV → Option Int
  | none => some len
  | some (.int _ n) => some n
  | _ => none

def sliceW (T : Tab) (h : Heap) (t : TypeId) (x : AV) (lo hi mx : Option AV) (K : AV → Prop) : Prop :=
  match T t with
  | none => False
  | some ti =>
    match ti.desc, x with
    | .string, .str s =>
      match mx, lowA lo, highA s.length hi with
      | none, some l, some u => (0 ≤ l ∧ l ≤ u ∧ u ≤ s.length) ∧ K (.str ((s.take u.toNat).drop l.toNat))
      | _, _, _ => False
    | .slice e, .vs es capo =>
      match T e, lowA lo, highA es.length hi, mx with
      | some ei, some l, some u, none => (0 ≤ l ∧ l ≤ u ∧ u ≤ es.length) ∧ (∀ row ∈ es, row.length = ei.size) ∧ K (.vs ((es.take u.toNat).drop l.toNat) (capo.map (· - l.toNat)))
      | some ei, some l, some u, some (.int _ m) => hi.isSome = true ∧ (0 ≤ l ∧ l ≤ u ∧ u ≤ m ∧ m ≤ es.length) ∧ (∀ row ∈ es, row.length = ei.size) ∧ K (.vs ((es.take u.toNat).drop l.toNat) (some (m.toNat - l.toNat)))
      | _, _, _, _ => False
    | .slice e, .nils =>
      match T e, lowA lo, highA 0 hi, mx with
      | some _, some l, some u, none => (l = 0 ∧ u = 0) ∧ K .nils
      | some _, some l, some u, some (.int _ m) => hi.isSome = true ∧ (l = 0 ∧ u = 0 ∧ m = 0) ∧ K .nils
      | _, _, _, _ => False
    | .slice e, .ms b s len capo =>
      match T e, lowA lo, highA len hi with
      | some ei, some l, some u =>
        match mx with
        | none => (0 ≤ l ∧ l ≤ u ∧ u ≤ len) ∧ (match h.blk? b with | some (.rows rs _ _) => (∀ row ∈ rs, row.length = ei.size) | _ => False) ∧
            ((l = 0 ∨ l ≤ u) ∧ K (.ms b (s + l.toNat) (u.toNat - l.toNat) (capo.map (· - l.toNat))) ∨ l = u ∧ K (.vs [] none))
        | some (.int _ m) => hi.isSome = true ∧ (0 ≤ l ∧ l ≤ u ∧ u ≤ m ∧ m ≤ len) ∧ (match h.blk? b with | some (.rows rs _ _) => (∀ row ∈ rs, row.length = ei.size) | _ => False) ∧
            ((l = 0 ∨ l < m) ∧ K (.ms b (s + l.toNat) (u.toNat - l.toNat) (some (m.toNat - l.toNat))) ∨ l = m ∧ K (.vs [] (some 0)))
        | _ => False
      | _, _, _ => False
    | _, _ => False

def rowsOf (h : Heap) (x : AV) : Option (List (List AV)) :=
  match x with
  | .vs es _ => some es
  | .nils => some []
  | .str s => some (s.map fun c => [.int .u8 c.toNat])
  | .ms b i len _ => match h.blk? b with | some (.rows rs _ _) => if i + len ≤ rs.length then some ((rs.drop i).take len) else none | _ => none
  | _ => none

def appendW (T : Tab) (h : Heap) (t : TypeId) (s x : AV) (K : AV → Heap → Prop) : Prop :=
  match T t with
  | some { desc := .slice e, .. } =>
    match T e, rowsOf h x with
    | some ei, some new =>
      (0 < ei.size ∧ 0 < ei.bytes) ∧ (∀ row ∈ new, row.length = ei.size ∧ row.all okc = true) ∧
      match s with
      | .nils => if new.length = 0 then K .nils h else ((new.length * ei.bytes ≤ 140737488355328) ∧ K (.ms h.blks.length 0 new.length none) (h.push (.rows new true false)))
      | .vs es capo => if new.length = 0 then K (.vs es capo) h else
          (∃ c, capo = some c ∧ c < es.length + new.length) ∧ (∀ row ∈ es, row.length = ei.size ∧ row.all okc = true) ∧ ((es.length + new.length) * ei.bytes ≤ 140737488355328) ∧ K (.ms h.blks.length 0 (es.length + new.length) none) (h.push (.rows (es ++ new) true false))
      | .ms b i len capo =>
        match h.blk? b with
        | some (.rows rs g false) =>
          if new.length = 0 then K (.ms b i len capo) h else
          (∀ row ∈ rs, row.length = ei.size ∧ row.all okc = true) ∧ ((len + new.length) * ei.bytes ≤ 140737488355328) ∧
          match capo with
          | none => (i = 0 ∧ 0 < len ∧ len = rs.length) ∧ K (.ms b 0 (len + new.length) none) (h.put b (.rows (rs ++ new) true false))
          | some c => (c < len + new.length ∧ i + len ≤ rs.length ∧ K (.ms h.blks.length 0 (len + new.length) none) (h.push (.rows ((rs.drop i).take len ++ new) true false))) ∨
              (len + new.length ≤ c ∧ g = false ∧ i + len + new.length ≤ rs.length ∧ K (.ms b i (len + new.length) (some c)) (h.put b (.rows (rs.take (i + len) ++ new ++ rs.drop (i + len + new.length)) false false)))
        | _ => False
      | _ => False
    | _, _ => False
  | _ => False

def lenW (T : Tab) (h : Heap) (t : TypeId) (x : AV) (K : AV → Prop) : Prop :=
  match T t with
  | none => False
  | some ti =>
    match ti.desc, x with
    | .string, .str s => K (.int .i64 s.length)
    | .array n _, _ => K (.int .i64 n)
    | .slice _, .vs es _ => K (.int .i64 es.length)
    | .slice _, .ms b _ len _ => match h.blk? b with | some (.rows _ _ _) => K (.int .i64 len) | _ => False
    | .slice _, .nils => K (.int .i64 0)
    | .map _ _, .mp b => match h.blk? b with | some (.mapb es) => K (.int .i64 es.length) | _ => False
    | _, _ => False


def makeSliceW (T : Tab) (h : Heap) (t : TypeId) (l c : AV) (K : AV → Heap → Prop) : Prop :=
  match T t, l, c with
  | some { desc := .slice e, .. }, .int _ l, .int _ c =>
    match T e with
    | none => False
    | some ei => (0 ≤ l ∧ l ≤ c ∧ (ei.bytes : Int) * c ≤ 140737488355328 ∧ c ≤ 140737488355328) ∧ 0 < ei.size ∧ ei.zero.all okc = true ∧
        K (.ms h.blks.length 0 l.toNat (some c.toNat)) (h.push (.rows (List.replicate c.toNat ei.zero) false false))
  | _, _, _ => False

def buildSliceW (T : Tab) (h : Heap) (t : TypeId) (len : Nat) (parts : List (Nat × AV)) (K : AV → Heap → Prop) : Prop :=
  match T t with
  | some { desc := .slice e, .. } =>
    match T e with
    | none => False
    | some ei => len * ei.size ≤ 2 ^ 24 ∧ 0 < ei.size ∧ ei.zero.all okc = true ∧
        match fillRows ei.size (List.replicate len ei.zero) parts with
        | none => False
        | some rows => K (.ms h.blks.length 0 len (some len)) (h.push (.rows rows false false)) ∨ K (.vs rows (some len)) h
  | _ => False

def boxW (T : Tab) (h : Heap) (e : TypeId) (x : AV) (K : AV → Heap → Prop) : Prop :=
  match T e with
  | none => False
  | some ei => ((cellsA x).length = ei.size ∧ 0 < ei.size ∧ (cellsA x).all okc = true) ∧ K (.ptr h.blks.length 0 0) (h.push (.rows [cellsA x] false false))

def allocW (T : Tab) (h : Heap) (e : TypeId) (K : AV → Heap → Prop) : Prop :=
  match T e with
  | none => False
  | some ei => (0 < ei.size ∧ ei.zero.all okc = true) ∧ K (.ptr h.blks.length 0 0) (h.push (.rows [ei.zero] false false))

def nilCheckW (h : Heap) (x : AV) (K : AV → Prop) : Prop :=
  match x with
  | .ptr b i j => match h.blk? b with | some (.rows _ _ _) => K (.ptr b i j) | _ => False
  | .vp row j => K (.vp row j)
  | .gp g j => K (.gp g j)
  | .fn (.func f) a c => K (.fn (.func f) a c)
  | .yld l => match h.loop? l with | some _ => K (.yld l) | none => False
  | _ => False

end
end Go.Abs
