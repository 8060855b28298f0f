/-
  Steps to a law of this program: AbsSem, AbsFlow, AbsOp.
  Conditions: none.
-/
import Derived.Test.YtpdnijifmebnbaaGreatDoorB0
import Derived.AtR
set_option linter.unusedVariables false
set_option linter.unusedSimpArgs false
set_option linter.unusedSectionVars false
namespace Go.Abs
noncomputable section
variable [Gl]

def one : Value → Bool
  | .agg _ | .tuple _ => false
  | _ => true

inductive Blk where
  | rows (rs : List (List AV)) (grown frozen : Bool)
  | mapb (es : List (AV × AV))
  deriving Inhabited

structure ALoop where
  state : LoopState
  pending : Option Code
  tmps : List AV
  params : Array Tmp
  assign : Code
  body : Code
  deriving Inhabited

structure Heap where
  blks : List (Option Blk)
  loops : List (Option ALoop)
  deriving Inhabited

structure St where
  tmps : List AV
  h : Heap
  deriving Inhabited

def Heap.blk? (h : Heap) (b : Nat) : Option Blk := (h.blks[b]?).join
def Heap.loop? (h : Heap) (l : Nat) : Option ALoop := (h.loops[l]?).join

structure LocAt (E : Env) (w : World) (L : Loc) (rs : List (List AV)) (fz : Bool) : Prop where
  lies : ∃ arr el, w.heap[L.blk]? = some (.cells arr el (0, 0)) ∧ L.n = arr.size ∧
    ∀ (i : Nat) (hi : i < rs.length), i < L.len → ∀ (j : Nat) (hj : j < rs[i].length), ∃ v, arr[L.off + i * L.sz + j]? = some v ∧ VR E w rs[i][j] v ∧ one v = true
  len : L.len ≤ rs.length
  fits : L.off + L.len * L.sz ≤ L.n
  sz : ∀ (i : Nat) (hi : i < rs.length), rs[i].length = L.sz
  own : fz = false → E.F L.blk
  free : fz = true → ¬ E.F L.blk

structure RowsAt (E : Env) (w : World) (Ls : List Loc) (rs : List (List AV)) (g fz : Bool) : Prop where
  one : g = false → ∃ L, Ls = [L]
  now : ∃ L ∈ Ls, L.len = rs.length
  all : ∀ L ∈ Ls, LocAt E w L rs fz
  apart : (Ls.map (·.blk)).Nodup

structure TR (E : Env) (w : World) (ts : List AV) (vs : Array Value) : Prop where
  size : ts.length = vs.size
  val : ∀ (i : Nat) (hi : i < ts.length) (hj : i < vs.size), VR E w ts[i] vs[i]

structure LoopAt (E : Env) (w : World) (o : Nat) (r : ALoop) : Prop where
  lies : ∃ ctmps defers fn, w.heap[o]? = some (.loop { state := r.state, pending := r.pending, fn, tmps := ctmps, params := r.params, assign := r.assign, body := r.body, defers }) ∧ TR E w r.tmps ctmps

structure MapAt (E : Env) (w : World) (Ls : List Loc) (es : List (AV × AV)) : Prop where
  lies : ∃ L ces clock, Ls = [L] ∧ E.F L.blk ∧ w.heap[L.blk]? = some (.map ces clock) ∧ es.length = ces.size ∧
    ∀ (i : Nat) (hi : i < es.length) (hj : i < ces.size), VR E w es[i].1 ces[i].key ∧ VR E w es[i].2 ces[i].val

def Blk.Lt (n m : Nat) : Blk → Prop
  | .rows rs _ _ => ∀ r ∈ rs, ∀ x ∈ r, Abs.Lt n m x
  | .mapb es => ∀ e ∈ es, Abs.Lt n m e.1 ∧ Abs.Lt n m e.2

structure Heap.Lt (h : Heap) : Prop where
  blks : ∀ b x, h.blk? b = some x → x.Lt h.blks.length h.loops.length
  loops : ∀ l r, h.loop? l = some r → ∀ x ∈ r.tmps, Abs.Lt h.blks.length h.loops.length x

def penv (F : Nat → Prop) : Env := ⟨F, fun _ => none, fun _ => none⟩

def foot (E : Env) (B : Nat) : Prop := (∃ b Ls L, E.ρ b = some Ls ∧ L ∈ Ls ∧ L.blk = B) ∨ ∃ l, E.lam l = some B

structure GlobOK (E : Env) (w : World) : Prop where
  ok : ∀ g row, Gl.gl g = some row → 0 < row.length ∧ ¬ E.F g ∧ ¬ foot E g ∧ (∀ x ∈ row, Pure x) ∧ ∃ arr el fr, w.heap[g]? = some (.cells arr el fr) ∧ arr.size = row.length ∧
    ∀ (i : Nat) (hi : i < row.length), ∃ v, arr[i]? = some v ∧ VR (penv E.F) w row[i] v

structure HR (E : Env) (w : World) (h : Heap) : Prop where
  dead : ∀ b, h.blk? b = none → E.ρ b = none
  rows : ∀ b rs g fz, h.blk? b = some (.rows rs g fz) → ∃ Ls, E.ρ b = some Ls ∧ RowsAt E w Ls rs g fz
  maps : ∀ b es, h.blk? b = some (.mapb es) → ∃ Ls, E.ρ b = some Ls ∧ MapAt E w Ls es
  apart : ∀ b b' Ls Ls' L L', b ≠ b' → E.ρ b = some Ls → E.ρ b' = some Ls' → L ∈ Ls → L' ∈ Ls' → E.F L.blk → L.blk ≠ L'.blk
  deadl : ∀ l, h.loop? l = none → E.lam l = none
  loops : ∀ l r, h.loop? l = some r → ∃ o, E.lam l = some o ∧ LoopAt E w o r
  lapart : ∀ l l' o, E.lam l = some o → E.lam l' = some o → l = l'
  lt : h.Lt
  inside : ∀ B, E.F B → B < w.heap.size
  globs : GlobOK E w

structure Ext (n m : Nat) (E : Env) (w : World) (E' : Env) (w' : World) : Prop where
  keeps : Keeps n m E w E' w'
  size : w.heap.size ≤ w'.heap.size
  os : w'.os = w.os
  output : w'.output = w.output
  tape : w'.tape = w.tape
  same : ∀ B, B < w.heap.size → ¬ foot E B → w'.heap[B]? = w.heap[B]?
  F' : ∀ B, B < w.heap.size → E.F B → E'.F B ∨ foot E B
  foot' : ∀ B, B < w.heap.size → foot E' B → foot E B

omit [Gl] in
theorem andx {A B : Prop} (b : B) (f : B → A) : A ∧ B := ⟨f b, b⟩

theorem GlobOK.ext {n m : Nat} {E E' : Env} {w w' : World} (x : Ext n m E w E' w') (g : GlobOK E w) : GlobOK E' w' where
  ok b row hb := by
    obtain ⟨h0, h1, h2, h3, arr, el, fr, h4, h5, h6⟩ := g.ok b row hb
    have hlt : b < w.heap.size := by
      rcases Nat.lt_or_ge b w.heap.size with h | h
      · exact h
      · rw [Array.getElem?_eq_none h] at h4; cases h4
    have hF : ¬ E'.F b := by
      obtain ⟨v, v1, _⟩ := h6 0 h0
      exact (x.keeps.cells b 0 v h1 (by simp only [World.cell?, h4]; exact v1)).1
    refine ⟨h0, hF, fun hf => h2 (x.foot' b hlt hf), h3, arr, el, fr, (x.same b hlt h2).trans h4, h5, fun i hi => ?_⟩
    obtain ⟨v, v1, v2⟩ := h6 i hi
    have k : Keeps 0 0 (penv E.F) w (penv E'.F) w' := ⟨x.keeps.cells, fun b hb => by omega, fun l hl => by omega⟩
    exact ⟨v, v1, VR.keep k v2 (h3 _ (List.getElem_mem hi))⟩

theorem GlobOK.stand {n m : Nat} {E : Env} {w w' : World} (g : GlobOK E w) (hk : Keeps n m E w E w') (hs : ∀ (B : Nat) (c : Array Value) el fr, w.heap[B]? = some (Obj.cells c el fr) → w'.heap[B]? = w.heap[B]?) : GlobOK E w' where
  ok b row hb := by
    obtain ⟨h0, h1, h2, h3, arr, el, fr, h4, h5, h6⟩ := g.ok b row hb
    refine ⟨h0, h1, h2, h3, arr, el, fr, (hs b arr el fr h4).trans h4, h5, fun i hi => ?_⟩
    obtain ⟨v, v1, v2⟩ := h6 i hi
    have k : Keeps 0 0 (penv E.F) w (penv E.F) w' := ⟨hk.cells, fun b hb => by omega, fun l hl => by omega⟩
    exact ⟨v, v1, VR.keep k v2 (h3 _ (List.getElem_mem hi))⟩

theorem GlobOK.pen {E : Env} {w : World} (g : GlobOK E w) (F : Nat → Prop) (hF : ∀ B, ¬ E.F B → ¬ F B) : GlobOK (penv F) w where
  ok b row hb := by
    obtain ⟨h0, h1, h2, h3, arr, el, fr, h4, h5, h6⟩ := g.ok b row hb
    refine ⟨h0, hF b h1, fun hf => ?_, h3, arr, el, fr, h4, h5, fun i hi => ?_⟩
    · rcases hf with ⟨_, _, _, h, _⟩ | ⟨_, h⟩ <;> cases h
    · obtain ⟨v, v1, v2⟩ := h6 i hi
      have k : Keeps 0 0 (penv E.F) w (penv F) w := ⟨fun B o v a b => ⟨hF B a, b⟩, fun b hb => by omega, fun l hl => by omega⟩
      exact ⟨v, v1, VR.keep k v2 (h3 _ (List.getElem_mem hi))⟩

omit [Gl] in
theorem Ext.refl (n m : Nat) (E : Env) (w : World) : Ext n m E w E w :=
  ⟨.refl .., Nat.le_refl _, rfl, rfl, rfl, fun _ _ _ => rfl, fun _ _ h => .inl h, fun _ _ h => h⟩

omit [Gl] in
theorem Ext.trans {n m n' m' : Nat} {E1 E2 E3 : Env} {w1 w2 w3 : World} (hn : n ≤ n') (hm : m ≤ m') (a : Ext n m E1 w1 E2 w2) (b : Ext n' m' E2 w2 E3 w3) : Ext n m E1 w1 E3 w3 where
  keeps := a.keeps.trans hn hm b.keeps
  size := Nat.le_trans a.size b.size
  os := b.os.trans a.os
  output := b.output.trans a.output
  tape := b.tape.trans a.tape
  same B hB hf := by
    have h2 : ¬ foot E2 B := fun h => hf (a.foot' B hB h)
    rw [b.same B (Nat.lt_of_lt_of_le hB a.size) h2, a.same B hB hf]
  F' B hB hF := by
    rcases a.F' B hB hF with h | h
    · rcases b.F' B (Nat.lt_of_lt_of_le hB a.size) h with h' | h'
      · exact .inl h'
      · exact .inr (a.foot' B hB h')
    · exact .inr h
  foot' B hB hf := a.foot' B hB (b.foot' B (Nat.lt_of_lt_of_le hB a.size) hf)

theorem Ext.mono {n m n' m' : Nat} (hn : n ≤ n') (hm : m ≤ m') {E E' : Env} {w w' : World} (a : Ext n' m' E w E' w') : Ext n m E w E' w' :=
  (Ext.refl n m E w).trans hn hm a

structure DefOK (base : Nat) (E : Env) (w : World) (ds : List Deferred) : Prop where
  marks : ∃ rs : List Nat, ds = rs.map (fun r => { target := .collected r, args := #[] }) ∧ rs.Nodup ∧
    ∀ r ∈ rs, base ≤ r ∧ ¬ foot E r ∧ w.heap[r]? = some (.deferred (some []))

structure StR (E : Env) (w : World) (st : St) (tmps : Array Value) : Prop where
  heap : HR E w st.h
  tmps : TR E w st.tmps tmps
  lt : ∀ x ∈ st.tmps, Lt st.h.blks.length st.h.loops.length x

omit [Gl] in
theorem TR.keep {n m : Nat} {E E' : Env} {w w' : World} (hk : Keeps n m E w E' w') {ts : List AV} {vs : Array Value} (h : TR E w ts vs) (hl : ∀ x ∈ ts, Lt n m x) : TR E' w' ts vs :=
  ⟨h.size, fun i hi hj => (h.val i hi hj).keep hk (hl _ (List.getElem_mem hi))⟩

omit [Gl] in
theorem DefOK.ext {n m base : Nat} {E E' : Env} {w w' : World} (he : Ext n m E w E' w') {ds : List Deferred} (h : DefOK base E w ds) : DefOK base E' w' ds := by
  obtain ⟨rs, h1, h2, h3⟩ := h.marks
  refine ⟨rs, h1, h2, fun r hr => ?_⟩
  obtain ⟨ab, a, b⟩ := h3 r hr
  have hlt : r < w.heap.size := by
    rcases Nat.lt_or_ge r w.heap.size with h | h
    · exact h
    · rw [Array.getElem?_eq_none h] at b; cases b
  exact ⟨ab, fun hf => a (he.foot' r hlt hf), (he.same r hlt a).trans b⟩

inductive AExit where
  | normal
  | jump (j : Code)

def fat (b : Frame) (tmps : Array Value) (ds : List Deferred) (todo : List Item) : Frame :=
  { b with tmps, todo, defers := ds, mode := .run }

def Res : Code → List Item → Option (List Item)
  | .exit id, k => exitTo id k
  | .goto l, k => gotoIn l k
  | _, _ => none

def Arr (P : Program) (M : Machine) (b : Frame) (k : List Item) (cs : List Frame) (e : AExit) (tmps : Array Value) (ds : List Deferred) (w : World) : Prop :=
  match e with
  | .normal => Steps P M (lone (fat b tmps ds k) cs w)
  | .jump j => ∃ todo, Steps P M (lone (fat b tmps ds (.code j :: todo)) cs w) ∧ Res j todo = Res j k

omit [Gl] in
theorem Arr.of_steps {P : Program} {M M1 : Machine} {b : Frame} {k : List Item} {cs : List Frame} {e : AExit} {tmps : Array Value} {ds : List Deferred} {w : World}
    (h : Steps P M M1) (h' : Arr P M1 b k cs e tmps ds w) : Arr P M b k cs e tmps ds w := by
  cases e with
  | normal => exact h.trans h'
  | jump j => obtain ⟨todo, hs, hr⟩ := h'; exact ⟨todo, h.trans hs, hr⟩

def RndOK (m : Nat) (E : Env) (b : Frame) : Option Nat → Prop
  | none => b.roundOf = none
  | some l => l < m ∧ ∃ o, b.roundOf = some o ∧ ∀ o', E.lam l = some o' → o' = o

omit [Gl] in
theorem RndOK.ext {n m : Nat} {E E' : Env} {w w' : World} {b : Frame} {rnd : Option Nat} (he : Ext n m E w E' w') (h : RndOK m E b rnd) : RndOK m E' b rnd := by
  cases rnd with
  | none => exact h
  | some l => obtain ⟨h1, o, h2, h3⟩ := h; exact ⟨h1, o, h2, fun o' ho' => h3 o' (he.keeps.loops l h1 o' ho')⟩

structure TodoSem (P : Program) (n m : Nat) (rnd : Option Nat) (items : List Item) (st : St) (Q : AExit → St → Prop) : Prop where
  run : ∀ (b : Frame) (E : Env) (w : World) (tmps : Array Value) (ds : List Deferred) (base : Nat), StR E w st tmps → DefOK base E w ds → base ≤ w.heap.size → RndOK m E b rnd → n ≤ st.h.blks.length → m ≤ st.h.loops.length →
    ∀ (k : List Item) (cs : List Frame), ∃ e st' E' w' tmps' ds', Q e st' ∧ StR E' w' st' tmps' ∧ DefOK base E' w' ds' ∧ Ext n m E w E' w' ∧ n ≤ st'.h.blks.length ∧ m ≤ st'.h.loops.length ∧
      Arr P (lone (fat b tmps ds (items ++ k)) cs w) b k cs e tmps' ds' w'

section rules
variable {P : Program} {n m : Nat} {rnd : Option Nat} {st : St} {Q : AExit → St → Prop}

theorem TodoSem.mono {items : List Item} {Q' : AExit → St → Prop} (h : TodoSem P n m rnd items st Q) (hq : ∀ e s, Q e s → Q' e s) : TodoSem P n m rnd items st Q' :=
  ⟨fun b E w tmps ds base h1 h2 hb h3 h4 h5 k cs => by
    obtain ⟨e, st', E', w', tmps', ds', q, rest⟩ := h.run b E w tmps ds base h1 h2 hb h3 h4 h5 k cs
    exact ⟨e, st', E', w', tmps', ds', hq _ _ q, rest⟩⟩

theorem todo_nil (h : Q .normal st) : TodoSem P n m rnd [] st Q :=
  ⟨fun b E w tmps ds base h1 h2 _ _ h4 h5 k cs => ⟨.normal, st, E, w, tmps, ds, h, h1, h2, .refl .., h4, h5, .refl ..⟩⟩

theorem todo_step {items items' : List Item} (hs : ∀ (b : Frame) (tmps : Array Value) (ds : List Deferred) (k : List Item) (cs : List Frame) (w : World) (E : Env), TR E w st.tmps tmps →
      step P (lone (fat b tmps ds (items ++ k)) cs w) = .next (lone (fat b tmps ds (items' ++ k)) cs w))
    (h : TodoSem P n m rnd items' st Q) : TodoSem P n m rnd items st Q :=
  ⟨fun b E w tmps ds base h1 h2 hb h3 h4 h5 k cs => by
    obtain ⟨e, st', E', w', tmps', ds', q, r1, r2, r3, r4, r5, r6⟩ := h.run b E w tmps ds base h1 h2 hb h3 h4 h5 k cs
    exact ⟨e, st', E', w', tmps', ds', q, r1, r2, r3, r4, r5, .of_steps (.one (hs b tmps ds k cs w E h1.tmps)) r6⟩⟩

def Then (next : St → Prop) (Q : AExit → St → Prop) : AExit → St → Prop
  | .normal, s => next s
  | .jump j, s => Q (.jump j) s

def Item.pass : Item → Bool
  | .inBlock _ | .inScope _ => false
  | _ => true

omit [Gl] in
theorem Res_pass {x : Item} (hx : Item.pass x = true) (j : Code) (k : List Item) : Res j (x :: k) = Res j k := by
  cases j <;> simp only [Res] <;> cases x <;> simp_all [Item.pass, exitTo, gotoIn]

theorem Res_passes : ∀ {xs : List Item} (_ : xs.all Item.pass = true) (j : Code) (k : List Item), Res j (xs ++ k) = Res j k
  | [], _, _, _ => rfl
  | x :: xs, h, j, k => by
    simp only [List.all_cons, Bool.and_eq_true] at h
    rw [List.cons_append, Res_pass h.1, Res_passes h.2]

theorem todo_append {xs ys : List Item} (hy : ys.all Item.pass = true) (h : TodoSem P n m rnd xs st (Then (fun s => TodoSem P n m rnd ys s Q) Q)) : TodoSem P n m rnd (xs ++ ys) st Q :=
  ⟨fun b E w tmps ds base h1 h2 hb h3 h4 h5 k cs => by
    obtain ⟨e, s, E1, w1, t1, d1, q, r1, r2, r3, r4, r5, r6⟩ := h.run b E w tmps ds base h1 h2 hb h3 h4 h5 (ys ++ k) cs
    rw [← List.append_assoc] at r6
    cases e with
    | normal =>
      obtain ⟨e2, s2, E2, w2, t2, d2, q2, s1, s2', s3, s4, s5, s6⟩ := TodoSem.run q b E1 w1 t1 d1 base r1 r2 (Nat.le_trans hb r3.size) (h3.ext r3) r4 r5 k cs
      exact ⟨e2, s2, E2, w2, t2, d2, q2, s1, s2', r3.trans (Nat.le_refl _) (Nat.le_refl _) s3, s4, s5, .of_steps r6 s6⟩
    | jump j =>
      obtain ⟨todo, hs, hr⟩ := r6
      exact ⟨.jump j, s, E1, w1, t1, d1, q, r1, r2, r3, r4, r5, todo, hs, hr.trans (Res_passes hy j k)⟩⟩

omit [Gl] in
theorem TR.getD {E : Env} {w : World} {ts : List AV} {vs : Array Value} (h : TR E w ts vs) (t : Nat) : VR E w (ts.getD t .junk) (vs.getD t undef) := by
  rcases Nat.lt_or_ge t ts.length with hl | hl
  · have hv : t < vs.size := h.size ▸ hl
    have := h.val t hl hv
    simpa [List.getD, List.getElem?_eq_getElem hl, Array.getD, hv] using this
  · have : ts.getD t .junk = .junk := by simp [List.getD, List.getElem?_eq_none hl]
    rw [this]; exact .junk _

end rules
end
end Go.Abs

namespace Go.Abs
noncomputable section
variable [Gl]

def ofV : Value → AV
  | .bool b => .bool b
  | .int k n => .int k n
  | .string s => .str s.data.toList
  | .pointer none => .nilp
  | .slice none 0 0 => .nils
  | .nilFunc => .nilf
  | .nilIface => .nili
  | .map none => .nilm
  | _ => .junk

omit [Gl] in
theorem ofV_VR (E : Env) (w : World) (v : Value) : VR E w (ofV v) v := by
  unfold ofV
  split <;> first | exact .junk _ | exact .bool _ | exact .int _ _ | exact .nilp | exact .nils | exact .nilf | exact .nili | exact .nilm | skip
  rename_i s
  have : VR E w (.str s.data.toList) (.string ⟨s.data.toList.toArray⟩) := .str _
  simpa using this

omit [Gl] in
theorem ofV_Lt (n m : Nat) (v : Value) : Lt n m (ofV v) := by
  unfold ofV
  split <;> first | exact .junk | exact .bool _ | exact .int _ _ | exact .str _ | exact .nilp | exact .nils | exact .nilf | exact .nili | exact .nilm

def St.ev (s : St) : Operand → AV
  | .tmp t => s.tmps.getD t .junk
  | .const v => ofV v
  | .global g => .gp g 0
  | .func f => .fn (.func f) [] []

omit [Gl] in
theorem ev_VR {E : Env} {w : World} {st : St} {tmps : Array Value} (h : TR E w st.tmps tmps) (b : Frame) (ds : List Deferred) (todo : List Item) (x : Operand) :
    VR E w (st.ev x) ((fat b tmps ds todo).eval x) := by
  cases x with
  | tmp t => exact h.getD t
  | const v => exact ofV_VR _ _ _
  | global g => exact .gp g 0
  | func f => exact .fn _ _ _ _ _ rfl rfl (fun i hi => by simp at hi) (fun i hi => by simp at hi)

omit [Gl] in
theorem ev_Lt {n m : Nat} {st : St} (h : ∀ x ∈ st.tmps, Lt n m x) (x : Operand) : Lt n m (st.ev x) := by
  cases x with
  | tmp t =>
    simp only [St.ev, List.getD]
    cases ht : st.tmps[t]? with
    | none => exact .junk
    | some v => exact h v (List.mem_of_getElem? ht)
  | const v => exact ofV_Lt _ _ _
  | global g => exact .gp g 0
  | func f => exact .fn _ _ _ (fun i hi => by simp at hi) (fun i hi => by simp at hi)

section steps
variable {P : Program} {b : Frame} {tmps : Array Value} {ds : List Deferred} {k : List Item} {cs : List Frame} {w : World}
omit [Gl] in
theorem st_skip : step P (lone (fat b tmps ds (.code .skip :: k)) cs w) = .next (lone (fat b tmps ds k) cs w) :=
  step_lone_go (by simp [stepG, stepG.exec, fat])
omit [Gl] in
theorem st_label {l : Nat} : step P (lone (fat b tmps ds (.code (.label l) :: k)) cs w) = .next (lone (fat b tmps ds k) cs w) :=
  step_lone_go (by simp [stepG, stepG.exec, fat])
omit [Gl] in
theorem st_inBlock {id : Nat} : step P (lone (fat b tmps ds (.inBlock id :: k)) cs w) = .next (lone (fat b tmps ds k) cs w) :=
  step_lone_go (by simp [stepG, stepG.exec, fat])
omit [Gl] in
theorem st_inScope {c : Code} : step P (lone (fat b tmps ds (.inScope c :: k)) cs w) = .next (lone (fat b tmps ds k) cs w) :=
  step_lone_go (by simp [stepG, stepG.exec, fat])
omit [Gl] in
theorem st_seq {x y : Code} : step P (lone (fat b tmps ds (.code (.seq x y) :: k)) cs w) = .next (lone (fat b tmps ds (.code x :: .code y :: k)) cs w) :=
  step_lone_go (by simp [stepG, stepG.exec, fat])
omit [Gl] in
theorem st_cond {c : Operand} {x y : Code} {t : Bool} (h : (fat b tmps ds (.code (.cond c x y) :: k)).eval c = .bool t) :
    step P (lone (fat b tmps ds (.code (.cond c x y) :: k)) cs w) = .next (lone (fat b tmps ds (.code (if t then x else y) :: k)) cs w) :=
  step_lone_go (by
    simp only [fat] at h
    simp [stepG, stepG.exec, fat, h])
omit [Gl] in
theorem st_block {id : Nat} {c : Code} : step P (lone (fat b tmps ds (.code (.block id c) :: k)) cs w) = .next (lone (fat b tmps ds (.code c :: .inBlock id :: k)) cs w) :=
  step_lone_go (by simp [stepG, stepG.exec, fat])
omit [Gl] in
theorem st_loop {c : Code} : step P (lone (fat b tmps ds (.code (.loop c) :: k)) cs w) = .next (lone (fat b tmps ds (.code c :: .inLoop c :: k)) cs w) :=
  step_lone_go (by simp [stepG, stepG.exec, fat])
omit [Gl] in
theorem st_inLoop {c : Code} : step P (lone (fat b tmps ds (.inLoop c :: k)) cs w) = .next (lone (fat b tmps ds (.code c :: .inLoop c :: k)) cs w) :=
  step_lone_go (by simp [stepG, stepG.exec, fat])
omit [Gl] in
theorem st_scope {c : Code} : step P (lone (fat b tmps ds (.code (.scope c) :: k)) cs w) = .next (lone (fat b tmps ds (.code c :: .inScope c :: k)) cs w) :=
  step_lone_go (by simp [stepG, stepG.exec, fat])
omit [Gl] in
theorem st_exit {id : Nat} {k' : List Item} (h : exitTo id k = some k') : step P (lone (fat b tmps ds (.code (.exit id) :: k)) cs w) = .next (lone (fat b tmps ds k') cs w) :=
  step_lone_go (by simp [stepG, stepG.exec, fat, h])
omit [Gl] in
theorem st_goto {l : Nat} {k' : List Item} (h : gotoIn l k = some k') : step P (lone (fat b tmps ds (.code (.goto l) :: k)) cs w) = .next (lone (fat b tmps ds k') cs w) :=
  step_lone_go (by simp [stepG, stepG.exec, fat, h])
omit [Gl] in
theorem st_region {id : Nat} {ops : Array Oper} : step P (lone (fat b tmps ds (.code (.region id ops false) :: k)) cs w) = .next (lone (fat b tmps ds (.inRegion ops (List.range ops.size) :: k)) cs w) :=
  step_lone_go (by simp [stepG, stepG.exec, fat])
omit [Gl] in
theorem st_regionEnd {ops : Array Oper} : step P (lone (fat b tmps ds (.inRegion ops [] :: k)) cs w) = .next (lone (fat b tmps ds k) cs w) :=
  step_lone_go (by simp [stepG, stepG.exec, fat])
end steps

section rules
variable {P : Program} {n m : Nat} {rnd : Option Nat} {st : St} {Q : AExit → St → Prop}

theorem t_skip (h : Q .normal st) : TodoSem P n m rnd [.code .skip] st Q :=
  todo_step (items' := []) (fun _ _ _ _ _ _ _ _ => st_skip) (todo_nil h)
theorem t_label {l : Nat} (h : Q .normal st) : TodoSem P n m rnd [.code (.label l)] st Q :=
  todo_step (items' := []) (fun _ _ _ _ _ _ _ _ => st_label) (todo_nil h)

theorem t_jump (j : Code) (hj : (match j with | .exit _ | .goto _ | .ret => True | _ => False)) (h : Q (.jump j) st) : TodoSem P n m rnd [.code j] st Q :=
  ⟨fun b E w tmps ds base h1 h2 _ _ h4 h5 k cs => ⟨.jump j, st, E, w, tmps, ds, h, h1, h2, .refl .., h4, h5, k, .refl .., rfl⟩⟩

theorem t_seq {x y : Code} (h : TodoSem P n m rnd [.code x] st (Then (fun s => TodoSem P n m rnd [.code y] s Q) Q)) : TodoSem P n m rnd [.code (.seq x y)] st Q :=
  todo_step (items' := [.code x, .code y]) (fun _ _ _ _ _ _ _ _ => st_seq) (todo_append (xs := [.code x]) rfl h)

theorem t_cond {c : Operand} {x y : Code} {t : Bool} (hc : st.ev c = .bool t) (h : TodoSem P n m rnd [.code (if t then x else y)] st Q) : TodoSem P n m rnd [.code (.cond c x y)] st Q :=
  todo_step (items' := [.code (if t then x else y)]) (fun b tmps ds k cs w E ht => st_cond (by
    show (fat b tmps ds (.code (.cond c x y) :: k)).eval c = .bool t
    have := ev_VR ht b ds (.code (.cond c x y) :: k) c
    rw [hc] at this
    revert this
    generalize (fat b tmps ds (.code (.cond c x y) :: k)).eval c = v
    intro this
    cases this; rfl)) h

theorem t_inLoop {c : Code} (h : TodoSem P n m rnd [.code c] st (Then (fun s => TodoSem P n m rnd [.inLoop c] s Q) Q)) : TodoSem P n m rnd [.inLoop c] st Q :=
  todo_step (items' := [.code c, .inLoop c]) (fun _ _ _ _ _ _ _ _ => st_inLoop) (todo_append (xs := [.code c]) rfl h)
theorem t_loop_head {c : Code} (h : TodoSem P n m rnd [.inLoop c] st Q) : TodoSem P n m rnd [.code (.loop c)] st Q :=
  ⟨fun b E w tmps ds base h1 h2 hb h3 h4 h5 k cs => by
    obtain ⟨e, st', E', w', tmps', ds', q, r1, r2, r3, r4, r5, r6⟩ := h.run b E w tmps ds base h1 h2 hb h3 h4 h5 k cs
    refine ⟨e, st', E', w', tmps', ds', q, r1, r2, r3, r4, r5, ?_⟩
    have e1 := st_loop (P := P) (b := b) (tmps := tmps) (ds := ds) (c := c) (k := k) (cs := cs) (w := w)
    have e2 := st_inLoop (P := P) (b := b) (tmps := tmps) (ds := ds) (c := c) (k := k) (cs := cs) (w := w)
    cases e with
    | normal =>
      obtain ⟨N, hN⟩ := r6
      cases N with
      | zero =>
        simp only [runN] at hN
        have hf : fat b tmps ds ([Item.inLoop c] ++ k) = fat b tmps' ds' k := by
          have := congrArg (fun s => match s with | Stepped.next mm => mm.gs | _ => #[]) hN
          simp [lone] at this
          exact this
        have : ([Item.inLoop c] ++ k) = k := congrArg Frame.todo hf
        have := congrArg List.length this
        simp at this
      | succ N => exact ⟨N + 1, by simp only [runN, List.cons_append, List.nil_append] at hN ⊢; rw [e2] at hN; rw [e1]; exact hN⟩
    | jump j =>
      obtain ⟨todo, ⟨N, hN⟩, hr⟩ := r6
      refine ⟨todo, ?_, hr⟩
      cases N with
      | zero =>
        simp only [runN] at hN
        have hf : fat b tmps ds ([Item.inLoop c] ++ k) = fat b tmps' ds' (.code j :: todo) := by
          have := congrArg (fun s => match s with | Stepped.next mm => mm.gs | _ => #[]) hN
          simp [lone] at this
          exact this
        have := congrArg Frame.todo hf
        simp [fat] at this
      | succ N => exact ⟨N + 1, by simp only [runN, List.cons_append, List.nil_append] at hN ⊢; rw [e2] at hN; rw [e1]; exact hN⟩⟩

def InBlock (id : Nat) (Q : AExit → St → Prop) : AExit → St → Prop
  | .jump (.exit id'), s => if id' = id then Q .normal s else Q (.jump (.exit id')) s
  | e, s => Q e s

theorem t_block {id : Nat} {c : Code} (h : TodoSem P n m rnd [.code c] st (InBlock id Q)) : TodoSem P n m rnd [.code (.block id c)] st Q :=
  ⟨fun b E w tmps ds base h1 h2 hb h3 h4 h5 k cs => by
    obtain ⟨e, s, E1, w1, t1, d1, q, r1, r2, r3, r4, r5, r6⟩ := h.run b E w tmps ds base h1 h2 hb h3 h4 h5 (.inBlock id :: k) cs
    have h0 : Steps P (lone (fat b tmps ds ([.code (.block id c)] ++ k)) cs w) (lone (fat b tmps ds ([.code c] ++ .inBlock id :: k)) cs w) := .one st_block
    cases e with
    | normal => exact ⟨.normal, s, E1, w1, t1, d1, q, r1, r2, r3, r4, r5, h0.trans (Steps.trans r6 (.one st_inBlock))⟩
    | jump j =>
      obtain ⟨todo, hs, hr⟩ := r6
      have go : ∀ (_ : Q (.jump j) s) (_ : Res j (.inBlock id :: k) = Res j k), ∃ e st' E' w' tmps' ds', Q e st' ∧ StR E' w' st' tmps' ∧ DefOK base E' w' ds' ∧ Ext n m E w E' w' ∧ n ≤ st'.h.blks.length ∧ m ≤ st'.h.loops.length ∧
          Arr P (lone (fat b tmps ds ([.code (.block id c)] ++ k)) cs w) b k cs e tmps' ds' w' :=
        fun q e => ⟨.jump j, s, E1, w1, t1, d1, q, r1, r2, r3, r4, r5, todo, h0.trans hs, hr.trans e⟩
      cases j with
      | exit id' =>
        by_cases hid : id' = id
        · simp only [InBlock, hid, if_true] at q
          refine ⟨.normal, s, E1, w1, t1, d1, q, r1, r2, r3, r4, r5, h0.trans (hs.trans (.one (st_exit ?_)))⟩
          have : exitTo id' todo = exitTo id' (.inBlock id :: k) := hr
          rw [this]; simp [exitTo, hid]
        · simp only [InBlock, hid, if_false] at q
          refine go q ?_
          have : (id == id') = false := by simp; exact fun h => hid h.symm
          simp [Res, exitTo, this]
      | goto l => exact go q (by simp [Res, gotoIn])
      | _ => exact go q rfl⟩

def InScope (P : Program) (n m : Nat) (rnd : Option Nat) (c : Code) (Q : AExit → St → Prop) : AExit → St → Prop
  | .jump (.goto l), s => match findLabel c l with
    | some rest => TodoSem P n m rnd [.code rest, .inScope c] s Q
    | none => Q (.jump (.goto l)) s
  | e, s => Q e s

theorem t_inScope {c x : Code} (h : TodoSem P n m rnd [.code x] st (InScope P n m rnd c Q)) : TodoSem P n m rnd [.code x, .inScope c] st Q :=
  ⟨fun b E w tmps ds base h1 h2 hb h3 h4 h5 k cs => by
    obtain ⟨e, s, E1, w1, t1, d1, q, r1, r2, r3, r4, r5, r6⟩ := h.run b E w tmps ds base h1 h2 hb h3 h4 h5 (.inScope c :: k) cs
    simp only [List.cons_append, List.nil_append] at r6 ⊢
    cases e with
    | normal => exact ⟨.normal, s, E1, w1, t1, d1, q, r1, r2, r3, r4, r5, Steps.trans r6 (.one st_inScope)⟩
    | jump j =>
      obtain ⟨todo, hs, hr⟩ := r6
      cases j with
      | goto l =>
        have hr' : gotoIn l todo = gotoIn l (.inScope c :: k) := hr
        simp only [InScope] at q
        cases hf : findLabel c l with
        | none =>
          simp only [hf] at q
          exact ⟨.jump (.goto l), s, E1, w1, t1, d1, q, r1, r2, r3, r4, r5, todo, hs, by rw [hr]; simp [Res, gotoIn, hf]⟩
        | some rest =>
          simp only [hf] at q
          obtain ⟨e2, s2, E2, w2, t2, d2, q2, s1, s2', s3, s4, s5, s6⟩ := q.run b E1 w1 t1 d1 base r1 r2 (Nat.le_trans hb r3.size) (h3.ext r3) r4 r5 k cs
          refine ⟨e2, s2, E2, w2, t2, d2, q2, s1, s2', r3.trans (Nat.le_refl _) (Nat.le_refl _) s3, s4, s5, .of_steps (hs.trans (.one (st_goto ?_))) s6⟩
          rw [hr']; simp [gotoIn, hf]
      | exit id => exact ⟨.jump (.exit id), s, E1, w1, t1, d1, q, r1, r2, r3, r4, r5, todo, hs, by rw [hr]; simp [Res, exitTo]⟩
      | _ => exact ⟨.jump _, s, E1, w1, t1, d1, q, r1, r2, r3, r4, r5, todo, hs, hr⟩⟩

theorem t_scope {c : Code} (h : TodoSem P n m rnd [.code c, .inScope c] st Q) : TodoSem P n m rnd [.code (.scope c)] st Q :=
  todo_step (items' := [.code c, .inScope c]) (fun _ _ _ _ _ _ _ _ => st_scope) h

end rules
end
end Go.Abs

namespace Go.Abs
noncomputable section
variable [Gl]

def aput (ts : List AV) (d : Option Tmp) (x : AV) : List AV :=
  match d with
  | some d => ts.set d x
  | none => ts

omit [Gl] in
theorem TR.put {E : Env} {w : World} {ts : List AV} {vs : Array Value} (h : TR E w ts vs) (d : Option Tmp) {x : AV} {v : Value} (hx : VR E w x v) :
    TR E w (aput ts d x) ((Act.put ⟨vs, []⟩ d v).tmps) := by
  cases d with
  | none => exact h
  | some d =>
    refine ⟨by simp [aput, Act.put, h.size], fun i hi hj => ?_⟩
    simp only [aput, Act.put, List.length_set, Array.size_setIfInBounds] at hi hj ⊢
    rw [List.getElem_set, Array.getElem_setIfInBounds hj]
    split
    · exact hx
    · exact h.val i hi hj

omit [Gl] in
theorem lt_put {n m : Nat} {ts : List AV} (h : ∀ x ∈ ts, Lt n m x) (d : Option Tmp) {x : AV} (hx : Lt n m x) : ∀ y ∈ aput ts d x, Lt n m y := by
  cases d with
  | none => exact h
  | some d =>
    intro y hy
    rcases List.mem_or_eq_of_mem_set hy with h' | h'
    · exact h y h'
    · exact h' ▸ hx

def cev (tmps : Array Value) : Operand → Value := Act.eval ⟨tmps, []⟩

theorem cev_VR {E : Env} {w : World} {st : St} {tmps : Array Value} (h : TR E w st.tmps tmps) (x : Operand) : VR E w (st.ev x) (cev tmps x) := by
  have := ev_VR h default [] [] x
  cases x <;> exact this

structure AtOp (P : Program) (c : Frame) (cs : List Frame) (s : Sem Next) : Prop where
  step : ∀ w, stepG P true { frame := c, callers := cs, status := .running, dying := none } w = stepG.apply P true c cs none s w
  plain : ∀ d r s' k, c.todo ≠ .call d true r s' :: k

omit [Gl] in
theorem at_value {P : Program} {c : Frame} {cs : List Frame} {s : Sem Next} (h : AtOp P c cs s) {w w' : World} {v : Value} (hr : s.run P w = .ok (.value v) w') :
    step P (lone c cs w) = .next (lone (c.finish v) cs w') :=
  step_lone_go (by rw [h.step]; simp [stepG.apply, Sem.runT_eq, hr])
omit [Gl] in
theorem at_skip {P : Program} {c : Frame} {cs : List Frame} {s : Sem Next} (h : AtOp P c cs s) {w w' : World} (hr : s.run P w = .ok .skip w') :
    step P (lone c cs w) = .next (lone (c.finish undef) cs w') :=
  step_lone_go (by rw [h.step]; simp [stepG.apply, Sem.runT_eq, hr])
omit [Gl] in
theorem at_enter {P : Program} {c : Frame} {cs : List Frame} {s : Sem Next} (h : AtOp P c cs s) {w w' : World} {f : FuncId} {args : Array Value} (hr : s.run P w = .ok (.enter f args) w') :
    step P (lone c cs w) = .next (lone (Frame.enter P f args .normal) (c :: cs) w') := by
  have hk : (match c.todo with | .call _ true _ _ :: _ => CallKind.wrapped | _ => CallKind.normal) = .normal := by
    split
    · rename_i hx; exact absurd hx (h.plain _ _ _ _)
    · rfl
  refine step_lone_go ?_
  rw [h.step]
  simp only [stepG.apply, Sem.runT_eq, hr, if_true, GStep.bare_after]
  exact congrArg (fun kd => GStep.go { frame := Frame.enter P f args kd, callers := c :: cs, status := .running, dying := none } w') hk
omit [Gl] in
theorem at_round {P : Program} {c : Frame} {cs : List Frame} {s : Sem Next} (h : AtOp P c cs s) {w w' : World} {l : Nat} {f : FuncId} {tmps : Array Value} {as body : Code} (hr : s.run P w = .ok (.round l f tmps as body) w') :
    step P (lone c cs w) = .next (lone (Frame.round l f tmps as body .normal) (c :: cs) w') :=
  step_lone_go (by rw [h.step]; simp [stepG.apply, Sem.runT_eq, hr])

structure GivesSem (P : Program) (h : Heap) (s : World → Env → Sem Next → Prop) (K : AV → Heap → Prop) : Prop where
  run : ∀ (E : Env) (w : World) (t : Sem Next), HR E w h → s w E t → ∀ (c : Frame) (cs : List Frame), AtOp P c cs t →
    ∃ r h' E' w' v, K r h' ∧ VR E' w' r v ∧ HR E' w' h' ∧ Lt h'.blks.length h'.loops.length r ∧ h.blks.length ≤ h'.blks.length ∧ h.loops.length ≤ h'.loops.length ∧
      Ext h.blks.length h.loops.length E w E' w' ∧ Steps P (lone c cs w) (lone (c.finish v) cs w')

def OpSem (P : Program) (o : Oper) (st : St) (K : AV → Heap → Prop) : Prop :=
  (∀ c, o.op ≠ .defer c) ∧ (∀ x ∈ st.tmps, Lt st.h.blks.length st.h.loops.length x) →
  GivesSem P st.h (fun w E t => ∃ tmps, TR E w st.tmps tmps ∧ t = execOp (cev tmps) o) K

theorem GivesSem.mono {P : Program} {h : Heap} {s : World → Env → Sem Next → Prop} {K K' : AV → Heap → Prop} (g : GivesSem P h s K) (hk : ∀ r h', K r h' → K' r h') : GivesSem P h s K' :=
  ⟨fun E w t h1 h2 c cs h3 => by obtain ⟨r, h', E', w', v, k, rest⟩ := g.run E w t h1 h2 c cs h3; exact ⟨r, h', E', w', v, hk _ _ k, rest⟩⟩

theorem gives_value {P : Program} {h : Heap} {s : World → Env → Sem Next → Prop} {K : AV → Heap → Prop} {r : AV}
    (hr : ∀ E w t, HR E w h → s w E t → ∃ v, (t.run P w = .ok (.value v) w ∨ (t.run P w = .ok .skip w ∧ v = undef)) ∧ VR E w r v) (hl : Lt h.blks.length h.loops.length r) (hk : K r h) : GivesSem P h s K :=
  ⟨fun E w t h1 h2 c cs h3 => by
    obtain ⟨v, hv, hvr⟩ := hr E w t h1 h2
    refine ⟨r, h, E, w, v, hk, hvr, h1, hl, Nat.le_refl _, Nat.le_refl _, .refl .., .one ?_⟩
    rcases hv with hv | ⟨hv, rfl⟩
    · exact at_value h3 hv
    · exact at_skip h3 hv⟩

section region
variable {P : Program} {n m : Nat} {rnd : Option Nat} {st : St} {Q : AExit → St → Prop} {ops : Array Oper}

omit [Gl] in
theorem fat_atR (b : Frame) (tmps : Array Value) (ds : List Deferred) (todo : List Item) : fat b tmps ds todo = b.atR ⟨tmps, ds⟩ todo := rfl

theorem finish_fat (b : Frame) (tmps : Array Value) (ds : List Deferred) (i : Nat) (rest : List Nat) (k : List Item) (v : Value) :
    (fat b tmps ds (.inRegion ops (i :: rest) :: k)).finish v = fat b (Act.put ⟨tmps, []⟩ ((ops[i]?).bind (·.dst)) v).tmps ds (.inRegion ops rest :: k) := by
  rw [fat_atR, Frame.finish_atR]
  cases (ops[i]?).bind (·.dst) <;> rfl

def guardA (ops : Array Oper) (ts : List AV) (o : Oper) : Option Bool :=
  match o.guard with
  | none => some true
  | some (j, want) =>
    match (ops[j]?).bind (·.dst) with
    | none => none
    | some d => match ts.getD d .junk with
      | .bool b => some (b == want)
      | .tup [] => some false
      | _ => none

omit [Gl] in
theorem VR.bool_inv {E : Env} {w : World} {b : Bool} {v : Value} (h : VR E w (.bool b) v) : v = .bool b := by cases h; rfl

theorem guardA_wanted {E : Env} {w : World} {ts : List AV} {tmps : Array Value} (h : TR E w ts tmps) {o : Oper} {g : Bool} (hg : guardA ops ts o = some g) :
    Region.wanted o (yielded ops tmps) = g := by
  unfold guardA at hg
  unfold Region.wanted
  split at hg
  · rename_i ho
    injection hg with hg
    rw [ho]; exact hg
  · rename_i j want ho
    rw [ho]
    split at hg
    · cases hg
    · rename_i d hd
      split at hg
      · rename_i b hx
        have hv := h.getD d
        rw [hx] at hv
        have this := hv.bool_inv
        have hsz : d < tmps.size := by
          rcases Nat.lt_or_ge d tmps.size with h | h
          · exact h
          · exfalso
            have e : tmps.getD d undef = undef := by simp [Array.getD, Nat.not_lt.2 h]
            rw [e] at this
            exact Value.noConfusion this
        have e : tmps[d]? = some (.bool b) := by
          simp only [Array.getD, hsz, dif_pos] at this
          rw [Array.getElem?_eq_getElem hsz]
          exact congrArg some this
        have ey : yielded ops tmps j = some b := by
          simp only [yielded, hd, Option.bind_some, e]
        have hg' : (b == want) = g := Option.some.inj hg
        show (yielded ops tmps j == some want) = g
        rw [ey, ← hg']
        rfl
      · rename_i hx
        injection hg with hg; subst hg
        have hv := h.getD d
        rw [hx] at hv
        have hne : ∀ b, tmps[d]? ≠ some (.bool b) := fun b e => by
          have e2 : tmps.getD d undef = .bool b := by
            obtain ⟨hd, e⟩ := Array.getElem?_eq_some_iff.1 e
            simp [Array.getD, hd, e]
          rw [e2] at hv
          cases hv
        have ey : yielded ops tmps j = none := by
          unfold yielded
          rw [hd, Option.bind_some]
          cases e3 : tmps[d]? with
          | none => rfl
          | some v => cases v <;> first | rfl | exact absurd e3 (hne _)
        show (yielded ops tmps j == some want) = false
        rw [ey]
        cases want <;> rfl
      · cases hg

theorem todo_op_skip {i : Nat} {rest : List Nat} {o : Oper} (ho : ops[i]? = some o) (hg : guardA ops st.tmps o = some false)
    (h : TodoSem P n m rnd [.inRegion ops rest] { st with tmps := aput st.tmps o.dst (.tup []) } Q) : TodoSem P n m rnd [.inRegion ops (i :: rest)] st Q :=
  ⟨fun b E w tmps ds base h1 h2 hb h3 h4 h5 k cs => by
    have hw := guardA_wanted h1.tmps hg
    have h1' : StR E w { st with tmps := aput st.tmps o.dst (.tup []) } (Act.put ⟨tmps, []⟩ o.dst undef).tmps :=
      ⟨h1.heap, h1.tmps.put o.dst (.tup [] #[] rfl fun i hi => by simp at hi), lt_put h1.lt o.dst (.tup [] fun i hi => by simp at hi)⟩
    obtain ⟨e, st', E', w', tmps', ds', q, r1, r2, r3, r4, r5, r6⟩ := h.run b E w _ ds base h1' h2 hb h3 h4 h5 k cs
    refine ⟨e, st', E', w', tmps', ds', q, r1, r2, r3, r4, r5, .of_steps (.one ?_) r6⟩
    have hs := stepR_op_skip (P := P) (b := b) (a := ⟨tmps, ds⟩) (k := k) (cs := cs) (w := w) (ops := ops) (i := i) (rest := rest) (by simp [ho, hw])
    have e1 : (Act.put ⟨tmps, ds⟩ ((ops[i]?).bind (·.dst)) undef) = ⟨(Act.put ⟨tmps, []⟩ o.dst undef).tmps, ds⟩ := by
      simp only [ho, Option.bind_some]; cases o.dst <;> rfl
    rw [e1] at hs
    exact hs⟩

theorem todo_op {i : Nat} {rest : List Nat} {o : Oper} (ho : ops[i]? = some o) (hg : guardA ops st.tmps o = some true) (hd : ∀ c, o.op ≠ .defer c)
    (h : OpSem P o st (fun r h' => TodoSem P n m rnd [.inRegion ops rest] { tmps := aput st.tmps o.dst r, h := h' } Q)) : TodoSem P n m rnd [.inRegion ops (i :: rest)] st Q :=
  ⟨fun b E w tmps ds base h1 h2 hb h3 h4 h5 k cs => by
    have hw := guardA_wanted h1.tmps hg
    have hat : AtOp P (fat b tmps ds (.inRegion ops (i :: rest) :: k)) cs (execOp (cev tmps) o) := by
      refine ⟨fun w => ?_, fun _ _ _ _ h => by cases h⟩
      have := stepGR_op (P := P) (b := b) (a := ⟨tmps, ds⟩) (k := k) (cs := cs) (w := w) (ops := ops) (i := i) (rest := rest) ho hw
      rw [Oper.semAt_eq _ _ _ hd] at this
      exact this
    obtain ⟨r, h', E1, w1, v, q, s1, s2, s3, s4, s5, s6, s7⟩ := (h ⟨hd, h1.lt⟩).run E w _ h1.heap ⟨tmps, h1.tmps, rfl⟩ _ cs hat
    have ht : TR E1 w1 st.tmps tmps := h1.tmps.keep s6.keeps h1.lt
    have hst : StR E1 w1 { tmps := aput st.tmps o.dst r, h := h' } (Act.put ⟨tmps, []⟩ o.dst v).tmps :=
      ⟨s2, ht.put o.dst s1, lt_put (fun x hx => (h1.lt x hx).mono s4 s5) o.dst s3⟩
    have hx : Ext n m E w E1 w1 := s6.mono h4 h5
    obtain ⟨e, st', E', w', tmps', ds', q, r1, r2, r3, r4, r5, r6⟩ := TodoSem.run q b E1 w1 _ ds base hst (h2.ext hx) (Nat.le_trans hb hx.size) (h3.ext hx) (Nat.le_trans h4 s4) (Nat.le_trans h5 s5) k cs
    refine ⟨e, st', E', w', tmps', ds', q, r1, r2, hx.trans (Nat.le_refl _) (Nat.le_refl _) r3, r4, r5, .of_steps ?_ r6⟩
    rw [finish_fat] at s7
    simp only [ho, Option.bind_some] at s7
    exact s7⟩

theorem todo_region_end (h : Q .normal st) : TodoSem P n m rnd [.inRegion ops []] st Q :=
  todo_step (items' := []) (fun _ _ _ _ _ _ _ _ => st_regionEnd) (todo_nil h)
theorem t_region {id : Nat} (h : TodoSem P n m rnd [.inRegion ops (List.range ops.size)] st Q) : TodoSem P n m rnd [.code (.region id ops false)] st Q :=
  todo_step (items' := [.inRegion ops (List.range ops.size)]) (fun _ _ _ _ _ _ _ _ => st_region) h
end region
end
end Go.Abs
