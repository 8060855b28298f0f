/-
  Memory: loads and stores of several cells; a new block; a block that turns.
  Conditions: none.
-/
import Derived.Test.YthbpdiolceabhaaGreatDoorAbsTab
set_option linter.unusedVariables false
set_option linter.unusedSimpArgs false
set_option linter.unusedSectionVars false
namespace Go.Abs
variable [Gl]

omit [Gl] in
theorem one_of_okc {E : Env} {w : World} {x : AV} {v : Value} (h : VR E w x v) (hx : okc x = true) : one v = true := by
  cases h <;> first | rfl | (simp [okc] at hx)

omit [Gl] in
theorem Addr.add_none (B off n : Nat) : (Addr.add ⟨B, off, none⟩ n) = ⟨B, off + n, none⟩ := by
  unfold Addr.add
  split
  · rename_i h; subst h; rfl
  · rfl

section run
variable {P : Program} {w : World}

omit [Gl] in
theorem run_load1 {a : Addr} {v : Value} (h : w.cell? a = some v) (m : Mode := .plain) : (load a m).run P w = .ok v w := by
  simp [load, Sem.run, h]

theorem run_loadCellsFrom {B off : Nat} (f : Nat → Value) : ∀ (n i : Nat) (acc : Array Value), (∀ j, j < n → w.cell? ⟨B, off + (i + j), none⟩ = some (f (i + j))) →
    (loadCellsFrom ⟨B, off, none⟩ i n acc).run P w = .ok (acc ++ ((List.range n).map fun j => f (i + j)).toArray) w
  | 0, i, acc, _ => by simp [loadCellsFrom]
  | n + 1, i, acc, h => by
    have h0 := h 0 (by omega)
    simp only [Nat.add_zero] at h0
    have ih := run_loadCellsFrom f n (i + 1) (acc.push (f i)) (fun j hj => by
      have := h (j + 1) (by omega)
      rw [show i + 1 + j = i + (j + 1) from by omega]; exact this)
    simp only [loadCellsFrom, Sem.run_bind, Addr.add_none, run_load1 h0, Result.andThen_ok, ih]
    congr 1
    apply Array.ext'
    simp [List.range_succ_eq_map, Function.comp_def]
    intro a _
    congr 1; omega

theorem run_loadCells {B off n : Nat} (f : Nat → Value) (h : ∀ j, j < n → w.cell? ⟨B, off + j, none⟩ = some (f j)) :
    (loadCells ⟨B, off, none⟩ n).run P w = .ok ((List.range n).map f).toArray w := by
  have := run_loadCellsFrom (P := P) (w := w) (B := B) (off := off) f n 0 #[] (fun j hj => by simpa using h j hj)
  simpa [loadCells] using this

/-- Values laid into a row, one after the other. -/
def setMany (arr : Array Value) (off : Nat) : List Value → Array Value
  | [] => arr
  | v :: vs => setMany (arr.setIfInBounds off v) (off + 1) vs

omit [Gl] in
theorem setMany_size (vs : List Value) : ∀ (arr : Array Value) (off : Nat), (setMany arr off vs).size = arr.size := by
  induction vs with
  | nil => intros; rfl
  | cons v vs ih => intro arr off; rw [setMany, ih]; simp

omit [Gl] in
theorem setMany_get (vs : List Value) : ∀ (arr : Array Value) (off i : Nat), off + vs.length ≤ arr.size →
    (setMany arr off vs)[i]? = if off ≤ i ∧ i < off + vs.length then vs[i - off]? else arr[i]? := by
  induction vs with
  | nil =>
    intro arr off i _
    simp only [setMany, List.length_nil, Nat.add_zero]
    rw [if_neg (by omega)]
  | cons v vs ih =>
    intro arr off i h
    simp only [List.length_cons] at h ⊢
    rw [setMany, ih _ _ _ (by simp; omega)]
    by_cases h1 : off + 1 ≤ i ∧ i < off + 1 + vs.length
    · rw [if_pos h1, if_pos (by omega), show i - off = (i - (off + 1)) + 1 from by omega, List.getElem?_cons_succ]
    · rw [if_neg h1]
      by_cases h2 : i = off
      · subst h2
        rw [if_pos (by omega), Array.getElem?_setIfInBounds_self_of_lt (by omega)]; simp
      · rw [if_neg (by omega), Array.getElem?_setIfInBounds_ne (Ne.symm h2)]

omit [Gl] in
theorem setCell_heap (w : World) (B o : Nat) (v : Value) (arr : Array Value) (el : TypeId) (hB : w.heap[B]? = some (.cells arr el (0, 0))) :
    (w.setCell ⟨B, o, none⟩ v).heap = w.heap.setIfInBounds B (.cells (arr.setIfInBounds o v) el (0, 0)) := by
  apply Array.ext_getElem?
  intro i
  by_cases h : i = B
  · subst h
    have hlt : i < w.heap.size := by
      rcases Nat.lt_or_ge i w.heap.size with h | h
      · exact h
      · rw [Array.getElem?_eq_none h] at hB; cases hB
    rw [Array.getElem?_setIfInBounds_self_of_lt hlt]
    simp [World.setCell, Array.getElem?_modify, hB]
  · rw [Array.getElem?_setIfInBounds_ne (Ne.symm h)]
    simp [World.setCell, Array.getElem?_modify, Ne.symm h]

theorem run_storeCells {B off : Nat} {el : TypeId} : ∀ (vs : List Value) (i : Nat) (arr : Array Value) (w : World), w.heap[B]? = some (.cells arr el (0, 0)) → (∀ v ∈ vs, one v = true) →
    off + i + vs.length ≤ arr.size →
    ∃ w', (storeCells ⟨B, off, none⟩ vs i).run P w = .ok () w' ∧ w'.heap = w.heap.setIfInBounds B (.cells (setMany arr (off + i) vs) el (0, 0)) ∧ w'.os = w.os ∧ w'.output = w.output ∧ w'.tape = w.tape
  | [], i, arr, w, h, _, _ => ⟨w, rfl, by
      simp only [setMany]
      apply Array.ext_getElem?
      intro j
      by_cases hj : j = B
      · subst hj
        have hlt : j < w.heap.size := by
          rcases Nat.lt_or_ge j w.heap.size with h' | h'
          · exact h'
          · rw [Array.getElem?_eq_none h'] at h; cases h
        rw [Array.getElem?_setIfInBounds_self_of_lt hlt, h]
      · rw [Array.getElem?_setIfInBounds_ne (Ne.symm hj)], rfl, rfl, rfl⟩
  | v :: vs, i, arr, w, h, hv, hs => by
    simp only [List.length_cons] at hs
    have hlt : B < w.heap.size := by
      rcases Nat.lt_or_ge B w.heap.size with h' | h'
      · exact h'
      · rw [Array.getElem?_eq_none h'] at h; cases h
    have hc : w.cell? ⟨B, off + i, none⟩ = some arr[off + i] := by
      simp only [World.cell?, h]
      simp
    have hf : w.frozen? ⟨B, off + i, none⟩ = false := by
      simp [World.frozen?, h]
    have h1 : (w.setCell ⟨B, off + i, none⟩ v).heap[B]? = some (.cells (arr.setIfInBounds (off + i) v) el (0, 0)) := by
      rw [setCell_heap w B (off + i) v arr el h, Array.getElem?_setIfInBounds_self_of_lt hlt]
    obtain ⟨w', r1, r2, r3, r4, r5⟩ := run_storeCells (B := B) (off := off) (el := el) vs (i + 1) (arr.setIfInBounds (off + i) v) (w.setCell ⟨B, off + i, none⟩ v) h1 (fun x hx => hv x (by simp [hx])) (by simp; omega)
    refine ⟨w', ?_, ?_, r3, r4, r5⟩
    · have e : (store ⟨B, off + i, none⟩ v).run P w = .ok () (w.setCell ⟨B, off + i, none⟩ v) := by
        have h1 := hv v (by simp)
        cases v <;> simp [one] at h1 <;> simp [store, Sem.run, hc, hf]
      simp only [storeCells, Sem.run_bind, Addr.add_none, e, Result.andThen_ok]
      exact r1
    · rw [r2, setCell_heap w B (off + i) v arr el h]
      apply Array.ext_getElem?
      intro j
      by_cases hj : j = B
      · subst hj
        rw [Array.getElem?_setIfInBounds_self_of_lt (by simpa using hlt), Array.getElem?_setIfInBounds_self_of_lt hlt, setMany, Nat.add_assoc]
      · rw [Array.getElem?_setIfInBounds_ne (Ne.symm hj), Array.getElem?_setIfInBounds_ne (Ne.symm hj), Array.getElem?_setIfInBounds_ne (Ne.symm hj)]
end run

omit [Gl] in
theorem blk?_push (h : Heap) (x : Blk) (b : Nat) : (h.push x).blk? b = if b = h.blks.length then some x else h.blk? b := by
  unfold Heap.blk? Heap.push
  by_cases hb : b = h.blks.length
  · subst hb; simp
  · rw [if_neg hb]
    rcases Nat.lt_or_ge b h.blks.length with hl | hl
    · simp [List.getElem?_append_left hl]
    · have h1 : (h.blks ++ [some x])[b]? = none := List.getElem?_eq_none (by simp; omega)
      have h2 : h.blks[b]? = none := List.getElem?_eq_none hl
      simp [h1, h2]

omit [Gl] in
theorem blk?_put (h : Heap) (x : Blk) (c b : Nat) (hc : c < h.blks.length) : (h.put c x).blk? b = if b = c then some x else h.blk? b := by
  unfold Heap.blk? Heap.put
  by_cases hb : b = c
  · subst hb; simp [hc]
  · simp [Ne.symm hb, hb]

omit [Gl] in
theorem blk?_lt {h : Heap} {b : Nat} {x : Blk} (hb : h.blk? b = some x) : b < h.blks.length := by
  rcases Nat.lt_or_ge b h.blks.length with hl | hl
  · exact hl
  · simp [Heap.blk?, List.getElem?_eq_none hl] at hb

omit [Gl] in
theorem Blk.Lt.mono {n m n' m' : Nat} (hn : n ≤ n') (hm : m ≤ m') {x : Blk} (h : x.Lt n m) : x.Lt n' m' := by
  cases x with
  | rows rs g fz => exact fun r hr y hy => (h r hr y hy).mono hn hm
  | mapb es => exact fun e he => ⟨(h e he).1.mono hn hm, (h e he).2.mono hn hm⟩

theorem Heap.Lt.push {h : Heap} (hl : h.Lt) {x : Blk} (hx : x.Lt (h.blks.length + 1) h.loops.length) : (h.push x).Lt := by
  refine ⟨fun b y hb => ?_, fun l r hr y hy => ?_⟩
  · rw [blk?_push] at hb
    have e : (h.push x).blks.length = h.blks.length + 1 := by simp [Heap.push]
    rw [e]
    split at hb
    · injection hb with hb; subst hb; exact hx
    · exact (hl.blks b y hb).mono (by omega) (Nat.le_refl _)
  · have e : (h.push x).blks.length = h.blks.length + 1 := by simp [Heap.push]
    rw [e]
    exact (hl.loops l r hr y hy).mono (by omega) (Nat.le_refl _)

theorem Heap.Lt.put {h : Heap} (hl : h.Lt) {x : Blk} {c : Nat} (hc : c < h.blks.length) (hx : x.Lt h.blks.length h.loops.length) : (h.put c x).Lt := by
  have e : (h.put c x).blks.length = h.blks.length := by simp [Heap.put]
  refine ⟨fun b y hb => ?_, fun l r hr y hy => ?_⟩
  · rw [blk?_put _ _ _ _ hc] at hb
    rw [e]
    split at hb
    · injection hb with hb; subst hb; exact hx
    · exact hl.blks b y hb
  · rw [e]; exact hl.loops l r hr y hy

/-- The reading with one block more, or turned. -/
def Env.with (E : Env) (b : Nat) (Ls : List Loc) : Env :=
  { F := fun B => E.F B ∨ ∃ L ∈ Ls, L.blk = B, ρ := fun c => if c = b then some Ls else E.ρ c, lam := E.lam }

/-- A NEW BLOCK. -/
theorem hr_push {E : Env} {w w' : World} {h : Heap} (hr : HR E w h) {arr : Array Value} {el : TypeId} {rs : List (List AV)} {g : Bool} {sz : Nat}
    (hw : w'.heap = w.heap.push (.cells arr el (0, 0))) (ho : w'.os = w.os) (hout : w'.output = w.output) (ht : w'.tape = w.tape)
    (hsz : ∀ (i : Nat) (hi : i < rs.length), rs[i].length = sz) (hfit : rs.length * sz ≤ arr.size)
    (hval : ∀ (i : Nat) (hi : i < rs.length) (j : Nat) (hj : j < rs[i].length), ∃ v, arr[i * sz + j]? = some v ∧ VR E w rs[i][j] v ∧ one v = true)
    (hlt : ∀ r ∈ rs, ∀ x ∈ r, Lt h.blks.length h.loops.length x) :
    let L : Loc := ⟨w.heap.size, 0, sz, arr.size, rs.length⟩
    let E' := E.with h.blks.length [L]
    HR E' w' (h.push (.rows rs g false)) ∧ Ext h.blks.length h.loops.length E w E' w' := by
  intro L E'
  have hnone : E.ρ h.blks.length = none := hr.dead _ (by simp [Heap.blk?])
  have hold : ∀ B, B < w.heap.size → w'.heap[B]? = w.heap[B]? := fun B hB => by rw [hw, Array.getElem?_push_lt hB, Array.getElem?_eq_getElem hB]
  have hnew : w'.heap[w.heap.size]? = some (.cells arr el (0, 0)) := by rw [hw]; simp
  have hsize : w'.heap.size = w.heap.size + 1 := by rw [hw]; simp
  have hrho : ∀ b, b ≠ h.blks.length → E'.ρ b = E.ρ b := fun b hb => by show (if b = _ then _ else _) = _; rw [if_neg hb]
  have hrho' : E'.ρ h.blks.length = some [L] := by show (if _ then _ else _) = _; rw [if_pos rfl]
  have keeps : Keeps h.blks.length h.loops.length E w E' w' := by
    refine ⟨fun B o v hF hc => ?_, fun b hb Ls' hLs' => ?_, fun _ _ _ h => h⟩
    · have hB : B < w.heap.size := by
        rcases Nat.lt_or_ge B w.heap.size with h | h
        · exact h
        · simp [World.cell?, Array.getElem?_eq_none h] at hc
      refine ⟨?_, ?_⟩
      · rintro (h | ⟨L', hL', rfl⟩)
        · exact hF h
        · obtain rfl : L' = L := by simpa using hL'
          exact absurd hB (Nat.lt_irrefl _)
      · simp only [World.cell?, hold B hB] at hc ⊢; exact hc
    · rw [hrho b (by omega)] at hLs'
      exact ⟨Ls', hLs', fun L hL => ⟨L, hL, rfl, rfl, rfl, rfl, Nat.le_refl _⟩⟩
  have hfoot : ∀ B, foot E' B → foot E B ∨ B = w.heap.size := by
    rintro B (⟨b, Ls, L', h1, h2, rfl⟩ | ⟨l, h1⟩)
    · by_cases hb : b = h.blks.length
      · subst hb
        rw [hrho'] at h1
        injection h1 with h1; subst h1
        obtain rfl : L' = L := by simpa using h2
        exact .inr rfl
      · rw [hrho b hb] at h1
        exact .inl (.inl ⟨b, Ls, L', h1, h2, rfl⟩)
    · exact .inl (.inr ⟨l, h1⟩)
  refine andx (B := Ext ..) ⟨keeps, by omega, ho, hout, ht, fun B hB _ => hold B hB, fun B _ hF => .inl (.inl hF), fun B hB hf => (hfoot B hf).resolve_right (by omega)⟩ fun hx => ?_
  have hFold : ∀ B, B < w.heap.size → (E'.F B ↔ E.F B) := fun B hB => ⟨fun h => h.elim id fun ⟨L', hL', e⟩ => by
    obtain rfl : L' = L := by simpa using hL'
    have : w.heap.size = B := e
    omega, .inl⟩
  refine ⟨fun b hb => ?_, fun b rs' g' fz hb => ?_, fun b es hb => ?_, fun b b' Ls Ls' L1 L2 hne h1 h2 m1 m2 hF => ?_, hr.deadl, fun l r hl => ?_, hr.lapart, ?_, fun B hB => ?_, hr.globs.ext hx⟩
  · rw [blk?_push] at hb
    split at hb
    · cases hb
    · rename_i hne; rw [hrho b hne]; exact hr.dead b hb
  · rw [blk?_push] at hb
    split at hb
    · rename_i he
      injection hb with hb; injection hb with e1 e2 e3
      subst he; subst e1; subst e2; subst e3
      refine ⟨[L], hrho', fun _ => ⟨L, rfl⟩, ⟨L, by simp, rfl⟩, fun L' hL' => ?_, by simp⟩
      obtain rfl : L' = L := by simpa using hL'
      refine ⟨⟨arr, el, hnew, rfl, fun i hi _ j hj => ?_⟩, Nat.le_refl _, by show 0 + rs.length * sz ≤ arr.size; omega, hsz, fun _ => .inr ⟨L, by simp, rfl⟩, fun h => by cases h⟩
      obtain ⟨v, v1, v2, v3⟩ := hval i hi j hj
      exact ⟨v, by show arr[0 + i * sz + j]? = _; rw [Nat.zero_add]; exact v1, v2.keep keeps (hlt _ (List.getElem_mem hi) _ (List.getElem_mem hj)), v3⟩
    · rename_i hne
      obtain ⟨Ls, h1, h2⟩ := hr.rows b rs' g' fz hb
      refine ⟨Ls, by rw [hrho b hne]; exact h1, h2.one, h2.now, fun L' hL' => ?_, h2.apart⟩
      have hl := h2.all L' hL'
      obtain ⟨arr', el', a1, a2, a3⟩ := hl.lies
      have hB : L'.blk < w.heap.size := foot_lt hr (.inl ⟨b, Ls, L', h1, hL', rfl⟩)
      refine ⟨⟨arr', el', (hold _ hB).trans a1, a2, fun i hi hi' j hj => ?_⟩, hl.len, hl.fits, hl.sz, fun h => .inl (hl.own h), fun h hF => hl.free h ((hFold _ hB).1 hF)⟩
      obtain ⟨v, v1, v2, v3⟩ := a3 i hi hi' j hj
      exact ⟨v, v1, v2.keep keeps (hr.lt.blks b _ hb _ (List.getElem_mem hi) _ (List.getElem_mem hj)), v3⟩
  · rw [blk?_push] at hb
    split at hb
    · injection hb with hb; cases hb
    · rename_i hne
      obtain ⟨Ls, h1, ⟨L', ces, clock, rfl, h3, h4, h5, h6⟩⟩ := hr.maps b es hb
      have hB : L'.blk < w.heap.size := foot_lt hr (.inl ⟨b, [L'], L', h1, by simp, rfl⟩)
      refine ⟨[L'], by rw [hrho b hne]; exact h1, ⟨L', ces, clock, rfl, .inl h3, (hold _ hB).trans h4, h5, fun i hi hj => ?_⟩⟩
      have hl := hr.lt.blks b _ hb _ (List.getElem_mem hi)
      exact ⟨(h6 i hi hj).1.keep keeps hl.1, (h6 i hi hj).2.keep keeps hl.2⟩
  · by_cases hb : b = h.blks.length
    · have h2' : E.ρ b' = some Ls' := by rw [← hrho b' (fun e => hne (hb.trans e.symm))]; exact h2
      have hB : L2.blk < w.heap.size := foot_lt hr (.inl ⟨b', Ls', L2, h2', m2, rfl⟩)
      rw [hb, hrho'] at h1
      injection h1 with h1; subst h1
      obtain rfl : L1 = L := by simpa using m1
      show w.heap.size ≠ _; omega
    · have h1' : E.ρ b = some Ls := by rw [← hrho b hb]; exact h1
      have hB : L1.blk < w.heap.size := foot_lt hr (.inl ⟨b, Ls, L1, h1', m1, rfl⟩)
      by_cases hb' : b' = h.blks.length
      · rw [hb', hrho'] at h2
        injection h2 with h2; subst h2
        obtain rfl : L2 = L := by simpa using m2
        show _ ≠ w.heap.size; omega
      · exact hr.apart b b' Ls Ls' L1 L2 hne h1' (by rw [← hrho b' hb']; exact h2) m1 m2 ((hFold _ hB).1 hF)
  · obtain ⟨o, h1, ⟨ct, df, fi, h2, h3⟩⟩ := hr.loops l r hl
    have hB : o < w.heap.size := foot_lt hr (.inr ⟨l, h1⟩)
    exact ⟨o, h1, ⟨ct, df, fi, (hold _ hB).trans h2, h3.keep keeps (hr.lt.loops l r hl)⟩⟩
  · exact hr.lt.push fun r hr' x hx => (hlt r hr' x hx).mono (by omega) (Nat.le_refl _)
  · rcases hB with h | ⟨L', hL', rfl⟩
    · have := hr.inside B h; omega
    · obtain rfl : L' = L := by simpa using hL'
      show w.heap.size < _; omega

/-- A BLOCK THAT TURNS: stored into, or grown. -/
theorem hr_change {E : Env} {w w' : World} {h : Heap} (hr : HR E w h) {b : Nat} {rs rs' : List (List AV)} {g g' : Bool} {Ls Ls' : List Loc}
    (hb : h.blk? b = some (.rows rs g false)) (hLs : E.ρ b = some Ls)
    (ho : w'.os = w.os) (hout : w'.output = w.output) (ht : w'.tape = w.tape) (hsize : w.heap.size ≤ w'.heap.size)
    (hold : ∀ B, B < w.heap.size → (∀ L ∈ Ls, L.blk ≠ B) → w'.heap[B]? = w.heap[B]?)
    (hins : ∀ L' ∈ Ls', L'.blk < w'.heap.size ∧ ((∃ L ∈ Ls, L.blk = L'.blk) ∨ w.heap.size ≤ L'.blk))
    (href : ∀ L ∈ Ls, ∃ L' ∈ Ls', L'.blk = L.blk ∧ L'.off = L.off ∧ L'.sz = L.sz ∧ L'.n = L.n ∧ L.len ≤ L'.len)
    (hrows : Keeps h.blks.length h.loops.length E w (E.with b Ls') w' → RowsAt (E.with b Ls') w' Ls' rs' g' false)
    (hlt : ∀ r ∈ rs', ∀ x ∈ r, Lt h.blks.length h.loops.length x) :
    HR (E.with b Ls') w' (h.put b (.rows rs' g' false)) ∧ Ext h.blks.length h.loops.length E w (E.with b Ls') w' := by
  have hblt : b < h.blks.length := blk?_lt hb
  obtain ⟨Ls0, e0, hra⟩ := hr.rows b rs g false hb
  rw [hLs] at e0; injection e0 with e0; subst e0
  have hown : ∀ L ∈ Ls, E.F L.blk := fun L hL => (hra.all L hL).own rfl
  have hrho : ∀ c, c ≠ b → (E.with b Ls').ρ c = E.ρ c := fun c hc => by show (if c = _ then _ else _) = _; rw [if_neg hc]
  have hrho' : (E.with b Ls').ρ b = some Ls' := by show (if _ then _ else _) = _; rw [if_pos rfl]
  have hF' : ∀ B, (E.with b Ls').F B → E.F B ∨ w.heap.size ≤ B := by
    rintro B (h | ⟨L', hL', rfl⟩)
    · exact .inl h
    · rcases (hins L' hL').2 with ⟨L, hL, e⟩ | h
      · exact .inl (e ▸ hown L hL)
      · exact .inr h
  have keeps : Keeps h.blks.length h.loops.length E w (E.with b Ls') w' := by
    refine ⟨fun B o v hF hc => ?_, fun c hc Ls2 hLs2 => ?_, fun _ _ _ h => h⟩
    · have hB : B < w.heap.size := by
        rcases Nat.lt_or_ge B w.heap.size with h | h
        · exact h
        · simp [World.cell?, Array.getElem?_eq_none h] at hc
      refine ⟨fun h => (hF' B h).elim hF (by omega), ?_⟩
      have := hold B hB (fun L hL e => hF (e ▸ hown L hL))
      simp only [World.cell?, this] at hc ⊢; exact hc
    · by_cases hcb : c = b
      · subst hcb
        rw [hrho'] at hLs2; injection hLs2 with hLs2; subst hLs2
        exact ⟨Ls, hLs, href⟩
      · rw [hrho c hcb] at hLs2
        exact ⟨Ls2, hLs2, fun L hL => ⟨L, hL, rfl, rfl, rfl, rfl, Nat.le_refl _⟩⟩
  have hfoot : ∀ B, B < w.heap.size → foot (E.with b Ls') B → foot E B := by
    rintro B hB (⟨c, Ls2, L', h1, h2, rfl⟩ | ⟨l, h1⟩)
    · by_cases hcb : c = b
      · subst hcb
        rw [hrho'] at h1; injection h1 with h1; subst h1
        rcases (hins L' h2).2 with ⟨L, hL, e⟩ | h
        · exact .inl ⟨c, Ls, L, hLs, hL, e⟩
        · omega
      · rw [hrho c hcb] at h1
        exact .inl ⟨c, Ls2, L', h1, h2, rfl⟩
    · exact .inr ⟨l, h1⟩
  have hother : ∀ c Ls2 L, c ≠ b → E.ρ c = some Ls2 → L ∈ Ls2 → ∀ L0 ∈ Ls, L0.blk ≠ L.blk := fun c Ls2 L hc h1 h2 L0 hL0 =>
    hr.apart b c Ls Ls2 L0 L (Ne.symm hc) hLs h1 hL0 h2 (hown L0 hL0)
  refine andx (B := Ext ..) ⟨keeps, hsize, ho, hout, ht, fun B hB hf => hold B hB (fun L hL e => hf (.inl ⟨b, Ls, L, hLs, hL, e⟩)), fun B _ hF => .inl (.inl hF), hfoot⟩ fun hx => ?_
  refine ⟨fun c hc => ?_, fun c rs2 g2 fz hc => ?_, fun c es hc => ?_, fun c c' L1s L2s L1 L2 hne h1 h2 m1 m2 hF => ?_, hr.deadl, fun l r hl => ?_, hr.lapart, ?_, fun B hB => ?_, hr.globs.ext hx⟩
  · rw [blk?_put _ _ _ _ hblt] at hc
    split at hc
    · cases hc
    · rename_i hne; rw [hrho c hne]; exact hr.dead c hc
  · rw [blk?_put _ _ _ _ hblt] at hc
    split at hc
    · rename_i he
      injection hc with hc; injection hc with e1 e2 e3
      subst he; subst e1; subst e2; subst e3
      exact ⟨Ls', hrho', hrows keeps⟩
    · rename_i hne
      obtain ⟨L2s, h1, h2⟩ := hr.rows c rs2 g2 fz hc
      refine ⟨L2s, by rw [hrho c hne]; exact h1, h2.one, h2.now, fun L' hL' => ?_, h2.apart⟩
      have hl := h2.all L' hL'
      obtain ⟨arr', el', a1, a2, a3⟩ := hl.lies
      have hB : L'.blk < w.heap.size := foot_lt hr (.inl ⟨c, L2s, L', h1, hL', rfl⟩)
      refine ⟨⟨arr', el', (hold _ hB (hother c L2s L' hne h1 hL')).trans a1, a2, fun i hi hi' j hj => ?_⟩, hl.len, hl.fits, hl.sz, fun h => .inl (hl.own h), fun h hF => hl.free h ((hF' _ hF).resolve_right (by omega))⟩
      obtain ⟨v, v1, v2, v3⟩ := a3 i hi hi' j hj
      exact ⟨v, v1, v2.keep keeps (hr.lt.blks c _ hc _ (List.getElem_mem hi) _ (List.getElem_mem hj)), v3⟩
  · rw [blk?_put _ _ _ _ hblt] at hc
    split at hc
    · injection hc with hc; cases hc
    · rename_i hne
      obtain ⟨L2s, h1, ⟨L', ces, clock, rfl, h3, h4, h5, h6⟩⟩ := hr.maps c es hc
      have hB : L'.blk < w.heap.size := foot_lt hr (.inl ⟨c, [L'], L', h1, by simp, rfl⟩)
      refine ⟨[L'], by rw [hrho c hne]; exact h1, ⟨L', ces, clock, rfl, .inl h3, (hold _ hB (hother c [L'] L' hne h1 (by simp))).trans h4, h5, fun i hi hj => ?_⟩⟩
      have hl := hr.lt.blks c _ hc _ (List.getElem_mem hi)
      exact ⟨(h6 i hi hj).1.keep keeps hl.1, (h6 i hi hj).2.keep keeps hl.2⟩
  · by_cases hcb : c = b
    · have hcb' : c' ≠ b := fun e => hne (hcb.trans e.symm)
      rw [hcb, hrho'] at h1; injection h1 with h1; subst h1
      rw [hrho c' hcb'] at h2
      rcases (hins L1 m1).2 with ⟨L, hL, e⟩ | hge
      · rw [← e]; exact hother c' L2s L2 hcb' h2 m2 L hL
      · have hB : L2.blk < w.heap.size := foot_lt hr (.inl ⟨c', L2s, L2, h2, m2, rfl⟩)
        omega
    · rw [hrho c hcb] at h1
      have hB : L1.blk < w.heap.size := foot_lt hr (.inl ⟨c, L1s, L1, h1, m1, rfl⟩)
      by_cases hcb' : c' = b
      · rw [hcb', hrho'] at h2; injection h2 with h2; subst h2
        rcases (hins L2 m2).2 with ⟨L, hL, e⟩ | hge
        · rw [← e]; exact Ne.symm (hother c L1s L1 hcb h1 m1 L hL)
        · omega
      · rw [hrho c' hcb'] at h2
        exact hr.apart c c' L1s L2s L1 L2 hne h1 h2 m1 m2 ((hF' _ hF).resolve_right (by omega))
  · obtain ⟨o, h1, ⟨ct, df, fi, h2, h3⟩⟩ := hr.loops l r hl
    have hB : o < w.heap.size := foot_lt hr (.inr ⟨l, h1⟩)
    have hne : ∀ L ∈ Ls, L.blk ≠ o := fun L hL e => by
      obtain ⟨arr, el, a1, _⟩ := (hra.all L hL).lies
      rw [e, h2] at a1; cases a1
    exact ⟨o, h1, ⟨ct, df, fi, (hold _ hB hne).trans h2, h3.keep keeps (hr.lt.loops l r hl)⟩⟩
  · exact hr.lt.put hblt fun r hr' x hx => hlt r hr' x hx
  · rcases hB with h | ⟨L', hL', rfl⟩
    · have := hr.inside B h; omega
    · exact (hins L' hL').1

end Go.Abs
