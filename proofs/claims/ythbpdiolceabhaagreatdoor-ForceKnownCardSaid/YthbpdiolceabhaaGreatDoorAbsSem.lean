/-
  What a piece of Go code does to an abstract state, said of the model's machine; the rules for the control flow.
  Conditions: none.
-/
import Derived.Test.YthbpdiolceabhaaGreatDoorAbsVal
import Derived.AtR
set_option linter.unusedVariables false
set_option linter.unusedSimpArgs false
set_option linter.unusedSectionVars false
namespace Go.Abs
variable [Gl]

/-- The value of one cell. -/
def one : Value → Bool
  | .agg _ | .tuple _ => false
  | _ => true

/-- A block of the abstract heap: rows of cells, or a map. -/
inductive Blk where
  | rows (rs : List (List AV)) (grown frozen : Bool)
  | mapb (es : List (AV × AV))
  deriving Inhabited

/-- A loop over a function: its state, the jump that waits, the frame that it left. -/
structure ALoop where
  state : LoopState
  pending : Option Code
  tmps : List AV
  params : Array Tmp
  assign : Code
  body : Code
  deriving Inhabited

structure Heap where
  blks : List (Option Blk)
  loops : List (Option ALoop)
  deriving Inhabited

structure St where
  tmps : List AV
  h : Heap
  deriving Inhabited

def Heap.blk? (h : Heap) (b : Nat) : Option Blk := (h.blks[b]?).join
def Heap.loop? (h : Heap) (l : Nat) : Option ALoop := (h.loops[l]?).join

/-- The rows of a block lie at a place. -/
structure LocAt (E : Env) (w : World) (L : Loc) (rs : List (List AV)) (fz : Bool) : Prop where
  lies : ∃ arr el, w.heap[L.blk]? = some (.cells arr el (0, 0)) ∧ L.n = arr.size ∧
    ∀ (i : Nat) (hi : i < rs.length), i < L.len → ∀ (j : Nat) (hj : j < rs[i].length), ∃ v, arr[L.off + i * L.sz + j]? = some v ∧ VR E w rs[i][j] v ∧ one v = true
  len : L.len ≤ rs.length
  fits : L.off + L.len * L.sz ≤ L.n
  sz : ∀ (i : Nat) (hi : i < rs.length), rs[i].length = L.sz
  own : fz = false → E.F L.blk
  free : fz = true → ¬ E.F L.blk

structure RowsAt (E : Env) (w : World) (Ls : List Loc) (rs : List (List AV)) (g fz : Bool) : Prop where
  one : g = false → ∃ L, Ls = [L]
  now : ∃ L ∈ Ls, L.len = rs.length
  all : ∀ L ∈ Ls, LocAt E w L rs fz
  apart : (Ls.map (·.blk)).Nodup

/-- The abstract values are those of the row's cells. -/
structure TR (E : Env) (w : World) (ts : List AV) (vs : Array Value) : Prop where
  size : ts.length = vs.size
  val : ∀ (i : Nat) (hi : i < ts.length) (hj : i < vs.size), VR E w ts[i] vs[i]

structure LoopAt (E : Env) (w : World) (o : Nat) (r : ALoop) : Prop where
  lies : ∃ ctmps defers fn, w.heap[o]? = some (.loop { state := r.state, pending := r.pending, fn, tmps := ctmps, params := r.params, assign := r.assign, body := r.body, defers }) ∧ TR E w r.tmps ctmps

structure MapAt (E : Env) (w : World) (Ls : List Loc) (es : List (AV × AV)) : Prop where
  lies : ∃ L ces clock, Ls = [L] ∧ E.F L.blk ∧ w.heap[L.blk]? = some (.map ces clock) ∧ es.length = ces.size ∧
    ∀ (i : Nat) (hi : i < es.length) (hj : i < ces.size), VR E w es[i].1 ces[i].key ∧ VR E w es[i].2 ces[i].val

def Blk.Lt (n m : Nat) : Blk → Prop
  | .rows rs _ _ => ∀ r ∈ rs, ∀ x ∈ r, Abs.Lt n m x
  | .mapb es => ∀ e ∈ es, Abs.Lt n m e.1 ∧ Abs.Lt n m e.2

structure Heap.Lt (h : Heap) : Prop where
  blks : ∀ b x, h.blk? b = some x → x.Lt h.blks.length h.loops.length
  loops : ∀ l r, h.loop? l = some r → ∀ x ∈ r.tmps, Abs.Lt h.blks.length h.loops.length x

/-- The reading in which nothing has a name. -/
def penv (F : Nat → Prop) : Env := ⟨F, fun _ => none, fun _ => none⟩

/-- The blocks that the names lead to. -/
def foot (E : Env) (B : Nat) : Prop := (∃ b Ls L, E.ρ b = some Ls ∧ L ∈ Ls ∧ L.blk = B) ∨ ∃ l, E.lam l = some B

/-- The package-level variables hold what is said of them, and nobody writes them. -/
structure GlobOK (E : Env) (w : World) : Prop where
  ok : ∀ g row, Gl.gl g = some row → 0 < row.length ∧ ¬ E.F g ∧ ¬ foot E g ∧ (∀ x ∈ row, Pure x) ∧ ∃ arr el fr, w.heap[g]? = some (.cells arr el fr) ∧ arr.size = row.length ∧
    ∀ (i : Nat) (hi : i < row.length), ∃ v, arr[i]? = some v ∧ VR (penv E.F) w row[i] v

/-- A world holds an abstract heap. -/
structure HR (E : Env) (w : World) (h : Heap) : Prop where
  dead : ∀ b, h.blk? b = none → E.ρ b = none
  rows : ∀ b rs g fz, h.blk? b = some (.rows rs g fz) → ∃ Ls, E.ρ b = some Ls ∧ RowsAt E w Ls rs g fz
  maps : ∀ b es, h.blk? b = some (.mapb es) → ∃ Ls, E.ρ b = some Ls ∧ MapAt E w Ls es
  apart : ∀ b b' Ls Ls' L L', b ≠ b' → E.ρ b = some Ls → E.ρ b' = some Ls' → L ∈ Ls → L' ∈ Ls' → E.F L.blk → L.blk ≠ L'.blk
  deadl : ∀ l, h.loop? l = none → E.lam l = none
  loops : ∀ l r, h.loop? l = some r → ∃ o, E.lam l = some o ∧ LoopAt E w o r
  lapart : ∀ l l' o, E.lam l = some o → E.lam l' = some o → l = l'
  lt : h.Lt
  inside : ∀ B, E.F B → B < w.heap.size
  globs : GlobOK E w

/-- How a run may change the world. -/
structure Ext (n m : Nat) (E : Env) (w : World) (E' : Env) (w' : World) : Prop where
  keeps : Keeps n m E w E' w'
  size : w.heap.size ≤ w'.heap.size
  os : w'.os = w.os
  output : w'.output = w.output
  tape : w'.tape = w.tape
  same : ∀ B, B < w.heap.size → ¬ foot E B → w'.heap[B]? = w.heap[B]?
  F' : ∀ B, B < w.heap.size → E.F B → E'.F B ∨ foot E B
  foot' : ∀ B, B < w.heap.size → foot E' B → foot E B

omit [Gl] in
theorem andx {A B : Prop} (b : B) (f : B → A) : A ∧ B := ⟨f b, b⟩

theorem GlobOK.ext {n m : Nat} {E E' : Env} {w w' : World} (x : Ext n m E w E' w') (g : GlobOK E w) : GlobOK E' w' where
  ok b row hb := by
    obtain ⟨h0, h1, h2, h3, arr, el, fr, h4, h5, h6⟩ := g.ok b row hb
    have hlt : b < w.heap.size := by
      rcases Nat.lt_or_ge b w.heap.size with h | h
      · exact h
      · rw [Array.getElem?_eq_none h] at h4; cases h4
    have hF : ¬ E'.F b := by
      obtain ⟨v, v1, _⟩ := h6 0 h0
      exact (x.keeps.cells b 0 v h1 (by simp only [World.cell?, h4]; exact v1)).1
    refine ⟨h0, hF, fun hf => h2 (x.foot' b hlt hf), h3, arr, el, fr, (x.same b hlt h2).trans h4, h5, fun i hi => ?_⟩
    obtain ⟨v, v1, v2⟩ := h6 i hi
    have k : Keeps 0 0 (penv E.F) w (penv E'.F) w' := ⟨x.keeps.cells, fun b hb => by omega, fun l hl => by omega⟩
    exact ⟨v, v1, VR.keep k v2 (h3 _ (List.getElem_mem hi))⟩

/-- Where all cells stand, the package-level variables do. -/
theorem GlobOK.stand {n m : Nat} {E : Env} {w w' : World} (g : GlobOK E w) (hk : Keeps n m E w E w') (hs : ∀ (B : Nat) (c : Array Value) el fr, w.heap[B]? = some (Obj.cells c el fr) → w'.heap[B]? = w.heap[B]?) : GlobOK E w' where
  ok b row hb := by
    obtain ⟨h0, h1, h2, h3, arr, el, fr, h4, h5, h6⟩ := g.ok b row hb
    refine ⟨h0, h1, h2, h3, arr, el, fr, (hs b arr el fr h4).trans h4, h5, fun i hi => ?_⟩
    obtain ⟨v, v1, v2⟩ := h6 i hi
    have k : Keeps 0 0 (penv E.F) w (penv E.F) w' := ⟨hk.cells, fun b hb => by omega, fun l hl => by omega⟩
    exact ⟨v, v1, VR.keep k v2 (h3 _ (List.getElem_mem hi))⟩

theorem GlobOK.pen {E : Env} {w : World} (g : GlobOK E w) (F : Nat → Prop) (hF : ∀ B, ¬ E.F B → ¬ F B) : GlobOK (penv F) w where
  ok b row hb := by
    obtain ⟨h0, h1, h2, h3, arr, el, fr, h4, h5, h6⟩ := g.ok b row hb
    refine ⟨h0, hF b h1, fun hf => ?_, h3, arr, el, fr, h4, h5, fun i hi => ?_⟩
    · rcases hf with ⟨_, _, _, h, _⟩ | ⟨_, h⟩ <;> cases h
    · obtain ⟨v, v1, v2⟩ := h6 i hi
      have k : Keeps 0 0 (penv E.F) w (penv F) w := ⟨fun B o v a b => ⟨hF B a, b⟩, fun b hb => by omega, fun l hl => by omega⟩
      exact ⟨v, v1, VR.keep k v2 (h3 _ (List.getElem_mem hi))⟩

omit [Gl] in
theorem Ext.refl (n m : Nat) (E : Env) (w : World) : Ext n m E w E w :=
  ⟨.refl .., Nat.le_refl _, rfl, rfl, rfl, fun _ _ _ => rfl, fun _ _ h => .inl h, fun _ _ h => h⟩

omit [Gl] in
theorem Ext.trans {n m n' m' : Nat} {E1 E2 E3 : Env} {w1 w2 w3 : World} (hn : n ≤ n') (hm : m ≤ m') (a : Ext n m E1 w1 E2 w2) (b : Ext n' m' E2 w2 E3 w3) : Ext n m E1 w1 E3 w3 where
  keeps := a.keeps.trans hn hm b.keeps
  size := Nat.le_trans a.size b.size
  os := b.os.trans a.os
  output := b.output.trans a.output
  tape := b.tape.trans a.tape
  same B hB hf := by
    have h2 : ¬ foot E2 B := fun h => hf (a.foot' B hB h)
    rw [b.same B (Nat.lt_of_lt_of_le hB a.size) h2, a.same B hB hf]
  F' B hB hF := by
    rcases a.F' B hB hF with h | h
    · rcases b.F' B (Nat.lt_of_lt_of_le hB a.size) h with h' | h'
      · exact .inl h'
      · exact .inr (a.foot' B hB h')
    · exact .inr h
  foot' B hB hf := a.foot' B hB (b.foot' B (Nat.lt_of_lt_of_le hB a.size) hf)

theorem Ext.mono {n m n' m' : Nat} (hn : n ≤ n') (hm : m ≤ m') {E E' : Env} {w w' : World} (a : Ext n' m' E w E' w') : Ext n m E w E' w' :=
  (Ext.refl n m E w).trans hn hm a

/-- The marks that loops over functions have laid among a frame's deferred calls. -/
structure DefOK (base : Nat) (E : Env) (w : World) (ds : List Deferred) : Prop where
  marks : ∃ rs : List Nat, ds = rs.map (fun r => { target := .collected r, args := #[] }) ∧ rs.Nodup ∧
    ∀ r ∈ rs, base ≤ r ∧ ¬ foot E r ∧ w.heap[r]? = some (.deferred (some []))

structure StR (E : Env) (w : World) (st : St) (tmps : Array Value) : Prop where
  heap : HR E w st.h
  tmps : TR E w st.tmps tmps
  lt : ∀ x ∈ st.tmps, Lt st.h.blks.length st.h.loops.length x

omit [Gl] in
theorem TR.keep {n m : Nat} {E E' : Env} {w w' : World} (hk : Keeps n m E w E' w') {ts : List AV} {vs : Array Value} (h : TR E w ts vs) (hl : ∀ x ∈ ts, Lt n m x) : TR E' w' ts vs :=
  ⟨h.size, fun i hi hj => (h.val i hi hj).keep hk (hl _ (List.getElem_mem hi))⟩

omit [Gl] in
theorem DefOK.ext {n m base : Nat} {E E' : Env} {w w' : World} (he : Ext n m E w E' w') {ds : List Deferred} (h : DefOK base E w ds) : DefOK base E' w' ds := by
  obtain ⟨rs, h1, h2, h3⟩ := h.marks
  refine ⟨rs, h1, h2, fun r hr => ?_⟩
  obtain ⟨ab, a, b⟩ := h3 r hr
  have hlt : r < w.heap.size := by
    rcases Nat.lt_or_ge r w.heap.size with h | h
    · exact h
    · rw [Array.getElem?_eq_none h] at b; cases b
  exact ⟨ab, fun hf => a (he.foot' r hlt hf), (he.same r hlt a).trans b⟩

inductive AExit where
  | normal
  | jump (j : Code)

/-- A frame that runs, at a place. -/
def fat (b : Frame) (tmps : Array Value) (ds : List Deferred) (todo : List Item) : Frame :=
  { b with tmps, todo, defers := ds, mode := .run }

/-- Where a jump leads. -/
def Res : Code → List Item → Option (List Item)
  | .exit id, k => exitTo id k
  | .goto l, k => gotoIn l k
  | _, _ => none

def Arr (P : Program) (M : Machine) (b : Frame) (k : List Item) (cs : List Frame) (e : AExit) (tmps : Array Value) (ds : List Deferred) (w : World) : Prop :=
  match e with
  | .normal => Steps P M (lone (fat b tmps ds k) cs w)
  | .jump j => ∃ todo, Steps P M (lone (fat b tmps ds (.code j :: todo)) cs w) ∧ Res j todo = Res j k

omit [Gl] in
theorem Arr.of_steps {P : Program} {M M1 : Machine} {b : Frame} {k : List Item} {cs : List Frame} {e : AExit} {tmps : Array Value} {ds : List Deferred} {w : World}
    (h : Steps P M M1) (h' : Arr P M1 b k cs e tmps ds w) : Arr P M b k cs e tmps ds w := by
  cases e with
  | normal => exact h.trans h'
  | jump j => obtain ⟨todo, hs, hr⟩ := h'; exact ⟨todo, h.trans hs, hr⟩

/-- The round in which a frame runs. -/
def RndOK (m : Nat) (E : Env) (b : Frame) : Option Nat → Prop
  | none => b.roundOf = none
  | some l => l < m ∧ ∃ o, b.roundOf = some o ∧ ∀ o', E.lam l = some o' → o' = o

omit [Gl] in
theorem RndOK.ext {n m : Nat} {E E' : Env} {w w' : World} {b : Frame} {rnd : Option Nat} (he : Ext n m E w E' w') (h : RndOK m E b rnd) : RndOK m E' b rnd := by
  cases rnd with
  | none => exact h
  | some l => obtain ⟨h1, o, h2, h3⟩ := h; exact ⟨h1, o, h2, fun o' ho' => h3 o' (he.keeps.loops l h1 o' ho')⟩

/-- THE MEANING: from a frame at these items, in a state, the machine comes to an exit and a state for which Q holds. -/
structure TodoSem (P : Program) (n m : Nat) (rnd : Option Nat) (items : List Item) (st : St) (Q : AExit → St → Prop) : Prop where
  run : ∀ (b : Frame) (E : Env) (w : World) (tmps : Array Value) (ds : List Deferred) (base : Nat), StR E w st tmps → DefOK base E w ds → base ≤ w.heap.size → RndOK m E b rnd → n ≤ st.h.blks.length → m ≤ st.h.loops.length →
    ∀ (k : List Item) (cs : List Frame), ∃ e st' E' w' tmps' ds', Q e st' ∧ StR E' w' st' tmps' ∧ DefOK base E' w' ds' ∧ Ext n m E w E' w' ∧ n ≤ st'.h.blks.length ∧ m ≤ st'.h.loops.length ∧
      Arr P (lone (fat b tmps ds (items ++ k)) cs w) b k cs e tmps' ds' w'

section rules
variable {P : Program} {n m : Nat} {rnd : Option Nat} {st : St} {Q : AExit → St → Prop}

theorem TodoSem.mono {items : List Item} {Q' : AExit → St → Prop} (h : TodoSem P n m rnd items st Q) (hq : ∀ e s, Q e s → Q' e s) : TodoSem P n m rnd items st Q' :=
  ⟨fun b E w tmps ds base h1 h2 hb h3 h4 h5 k cs => by
    obtain ⟨e, st', E', w', tmps', ds', q, rest⟩ := h.run b E w tmps ds base h1 h2 hb h3 h4 h5 k cs
    exact ⟨e, st', E', w', tmps', ds', hq _ _ q, rest⟩⟩

/-- Nothing to do. -/
theorem todo_nil (h : Q .normal st) : TodoSem P n m rnd [] st Q :=
  ⟨fun b E w tmps ds base h1 h2 _ _ h4 h5 k cs => ⟨.normal, st, E, w, tmps, ds, h, h1, h2, .refl .., h4, h5, .refl ..⟩⟩

/-- One step of the machine that turns the items alone. -/
theorem todo_step {items items' : List Item} (hs : ∀ (b : Frame) (tmps : Array Value) (ds : List Deferred) (k : List Item) (cs : List Frame) (w : World) (E : Env), TR E w st.tmps tmps →
      step P (lone (fat b tmps ds (items ++ k)) cs w) = .next (lone (fat b tmps ds (items' ++ k)) cs w))
    (h : TodoSem P n m rnd items' st Q) : TodoSem P n m rnd items st Q :=
  ⟨fun b E w tmps ds base h1 h2 hb h3 h4 h5 k cs => by
    obtain ⟨e, st', E', w', tmps', ds', q, r1, r2, r3, r4, r5, r6⟩ := h.run b E w tmps ds base h1 h2 hb h3 h4 h5 k cs
    exact ⟨e, st', E', w', tmps', ds', q, r1, r2, r3, r4, r5, .of_steps (.one (hs b tmps ds k cs w E h1.tmps)) r6⟩⟩

/-- What follows an exit. -/
def Then (next : St → Prop) (Q : AExit → St → Prop) : AExit → St → Prop
  | .normal, s => next s
  | .jump j, s => Q (.jump j) s

/-- Jumps go past these items. -/
def Item.pass : Item → Bool
  | .inBlock _ | .inScope _ => false
  | _ => true

omit [Gl] in
theorem Res_pass {x : Item} (hx : Item.pass x = true) (j : Code) (k : List Item) : Res j (x :: k) = Res j k := by
  cases j <;> simp only [Res] <;> cases x <;> simp_all [Item.pass, exitTo, gotoIn]

theorem Res_passes : ∀ {xs : List Item} (_ : xs.all Item.pass = true) (j : Code) (k : List Item), Res j (xs ++ k) = Res j k
  | [], _, _, _ => rfl
  | x :: xs, h, j, k => by
    simp only [List.all_cons, Bool.and_eq_true] at h
    rw [List.cons_append, Res_pass h.1, Res_passes h.2]

/-- Items one after the other. -/
theorem todo_append {xs ys : List Item} (hy : ys.all Item.pass = true) (h : TodoSem P n m rnd xs st (Then (fun s => TodoSem P n m rnd ys s Q) Q)) : TodoSem P n m rnd (xs ++ ys) st Q :=
  ⟨fun b E w tmps ds base h1 h2 hb h3 h4 h5 k cs => by
    obtain ⟨e, s, E1, w1, t1, d1, q, r1, r2, r3, r4, r5, r6⟩ := h.run b E w tmps ds base h1 h2 hb h3 h4 h5 (ys ++ k) cs
    rw [← List.append_assoc] at r6
    cases e with
    | normal =>
      obtain ⟨e2, s2, E2, w2, t2, d2, q2, s1, s2', s3, s4, s5, s6⟩ := TodoSem.run q b E1 w1 t1 d1 base r1 r2 (Nat.le_trans hb r3.size) (h3.ext r3) r4 r5 k cs
      exact ⟨e2, s2, E2, w2, t2, d2, q2, s1, s2', r3.trans (Nat.le_refl _) (Nat.le_refl _) s3, s4, s5, .of_steps r6 s6⟩
    | jump j =>
      obtain ⟨todo, hs, hr⟩ := r6
      exact ⟨.jump j, s, E1, w1, t1, d1, q, r1, r2, r3, r4, r5, todo, hs, hr.trans (Res_passes hy j k)⟩⟩

omit [Gl] in
theorem TR.getD {E : Env} {w : World} {ts : List AV} {vs : Array Value} (h : TR E w ts vs) (t : Nat) : VR E w (ts.getD t .junk) (vs.getD t undef) := by
  rcases Nat.lt_or_ge t ts.length with hl | hl
  · have hv : t < vs.size := h.size ▸ hl
    have := h.val t hl hv
    simpa [List.getD, List.getElem?_eq_getElem hl, Array.getD, hv] using this
  · have : ts.getD t .junk = .junk := by simp [List.getD, List.getElem?_eq_none hl]
    rw [this]; exact .junk _

end rules
end Go.Abs
