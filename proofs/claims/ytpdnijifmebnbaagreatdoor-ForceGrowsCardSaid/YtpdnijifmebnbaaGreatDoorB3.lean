/-
  Steps to a law of this program: AbsMem, AbsOps1, AbsMemM, AbsOps2.
  Conditions: none.
-/
import Derived.Test.YtpdnijifmebnbaaGreatDoorB2
set_option linter.unusedVariables false
set_option linter.unusedSimpArgs false
set_option linter.unusedSectionVars false
namespace Go.Abs
noncomputable section
variable [Gl]

omit [Gl] in
theorem one_of_okc {E : Env} {w : World} {x : AV} {v : Value} (h : VR E w x v) (hx : okc x = true) : one v = true := by
  cases h <;> first | rfl | (simp [okc] at hx)

omit [Gl] in
theorem Addr.add_none (B off n : Nat) : (Addr.add ⟨B, off, none⟩ n) = ⟨B, off + n, none⟩ := by
  unfold Addr.add
  split
  · rename_i h; subst h; rfl
  · rfl

section run
variable {P : Program} {w : World}

omit [Gl] in
theorem run_load1 {a : Addr} {v : Value} (h : w.cell? a = some v) (m : Mode := .plain) : (load a m).run P w = .ok v w := by
  simp [load, Sem.run, h]

theorem run_loadCellsFrom {B off : Nat} (f : Nat → Value) : ∀ (n i : Nat) (acc : Array Value), (∀ j, j < n → w.cell? ⟨B, off + (i + j), none⟩ = some (f (i + j))) →
    (loadCellsFrom ⟨B, off, none⟩ i n acc).run P w = .ok (acc ++ ((List.range n).map fun j => f (i + j)).toArray) w
  | 0, i, acc, _ => by simp [loadCellsFrom]
  | n + 1, i, acc, h => by
    have h0 := h 0 (by omega)
    simp only [Nat.add_zero] at h0
    have ih := run_loadCellsFrom f n (i + 1) (acc.push (f i)) (fun j hj => by
      have := h (j + 1) (by omega)
      rw [show i + 1 + j = i + (j + 1) from by omega]; exact this)
    simp only [loadCellsFrom, Sem.run_bind, Addr.add_none, run_load1 h0, Result.andThen_ok, ih]
    congr 1
    apply Array.ext'
    simp [List.range_succ_eq_map, Function.comp_def]
    intro a _
    congr 1; omega

theorem run_loadCells {B off n : Nat} (f : Nat → Value) (h : ∀ j, j < n → w.cell? ⟨B, off + j, none⟩ = some (f j)) :
    (loadCells ⟨B, off, none⟩ n).run P w = .ok ((List.range n).map f).toArray w := by
  have := run_loadCellsFrom (P := P) (w := w) (B := B) (off := off) f n 0 #[] (fun j hj => by simpa using h j hj)
  simpa [loadCells] using this

def setMany (arr : Array Value) (off : Nat) : List Value → Array Value
  | [] => arr
  | v :: vs => setMany (arr.setIfInBounds off v) (off + 1) vs

omit [Gl] in
theorem setMany_size (vs : List Value) : ∀ (arr : Array Value) (off : Nat), (setMany arr off vs).size = arr.size := by
  induction vs with
  | nil => intros; rfl
  | cons v vs ih => intro arr off; rw [setMany, ih]; simp

omit [Gl] in
theorem setMany_get (vs : List Value) : ∀ (arr : Array Value) (off i : Nat), off + vs.length ≤ arr.size →
    (setMany arr off vs)[i]? = if off ≤ i ∧ i < off + vs.length then vs[i - off]? else arr[i]? := by
  induction vs with
  | nil =>
    intro arr off i _
    simp only [setMany, List.length_nil, Nat.add_zero]
    rw [if_neg (by omega)]
  | cons v vs ih =>
    intro arr off i h
    simp only [List.length_cons] at h ⊢
    rw [setMany, ih _ _ _ (by simp; omega)]
    by_cases h1 : off + 1 ≤ i ∧ i < off + 1 + vs.length
    · rw [if_pos h1, if_pos (by omega), show i - off = (i - (off + 1)) + 1 from by omega, List.getElem?_cons_succ]
    · rw [if_neg h1]
      by_cases h2 : i = off
      · subst h2
        rw [if_pos (by omega), Array.getElem?_setIfInBounds_self_of_lt (by omega)]; simp
      · rw [if_neg (by omega), Array.getElem?_setIfInBounds_ne (Ne.symm h2)]

omit [Gl] in
theorem setCell_heap (w : World) (B o : Nat) (v : Value) (arr : Array Value) (el : TypeId) (hB : w.heap[B]? = some (.cells arr el (0, 0))) :
    (w.setCell ⟨B, o, none⟩ v).heap = w.heap.setIfInBounds B (.cells (arr.setIfInBounds o v) el (0, 0)) := by
  apply Array.ext_getElem?
  intro i
  by_cases h : i = B
  · subst h
    have hlt : i < w.heap.size := by
      rcases Nat.lt_or_ge i w.heap.size with h | h
      · exact h
      · rw [Array.getElem?_eq_none h] at hB; cases hB
    rw [Array.getElem?_setIfInBounds_self_of_lt hlt]
    simp [World.setCell, Array.getElem?_modify, hB]
  · rw [Array.getElem?_setIfInBounds_ne (Ne.symm h)]
    simp [World.setCell, Array.getElem?_modify, Ne.symm h]

theorem run_storeCells {B off : Nat} {el : TypeId} : ∀ (vs : List Value) (i : Nat) (arr : Array Value) (w : World), w.heap[B]? = some (.cells arr el (0, 0)) → (∀ v ∈ vs, one v = true) →
    off + i + vs.length ≤ arr.size →
    ∃ w', (storeCells ⟨B, off, none⟩ vs i).run P w = .ok () w' ∧ w'.heap = w.heap.setIfInBounds B (.cells (setMany arr (off + i) vs) el (0, 0)) ∧ w'.os = w.os ∧ w'.output = w.output ∧ w'.tape = w.tape
  | [], i, arr, w, h, _, _ => ⟨w, rfl, by
      simp only [setMany]
      apply Array.ext_getElem?
      intro j
      by_cases hj : j = B
      · subst hj
        have hlt : j < w.heap.size := by
          rcases Nat.lt_or_ge j w.heap.size with h' | h'
          · exact h'
          · rw [Array.getElem?_eq_none h'] at h; cases h
        rw [Array.getElem?_setIfInBounds_self_of_lt hlt, h]
      · rw [Array.getElem?_setIfInBounds_ne (Ne.symm hj)], rfl, rfl, rfl⟩
  | v :: vs, i, arr, w, h, hv, hs => by
    simp only [List.length_cons] at hs
    have hlt : B < w.heap.size := by
      rcases Nat.lt_or_ge B w.heap.size with h' | h'
      · exact h'
      · rw [Array.getElem?_eq_none h'] at h; cases h
    have hc : w.cell? ⟨B, off + i, none⟩ = some arr[off + i] := by
      simp only [World.cell?, h]
      simp
    have hf : w.frozen? ⟨B, off + i, none⟩ = false := by
      simp [World.frozen?, h]
    have h1 : (w.setCell ⟨B, off + i, none⟩ v).heap[B]? = some (.cells (arr.setIfInBounds (off + i) v) el (0, 0)) := by
      rw [setCell_heap w B (off + i) v arr el h, Array.getElem?_setIfInBounds_self_of_lt hlt]
    obtain ⟨w', r1, r2, r3, r4, r5⟩ := run_storeCells (B := B) (off := off) (el := el) vs (i + 1) (arr.setIfInBounds (off + i) v) (w.setCell ⟨B, off + i, none⟩ v) h1 (fun x hx => hv x (by simp [hx])) (by simp; omega)
    refine ⟨w', ?_, ?_, r3, r4, r5⟩
    · have e : (store ⟨B, off + i, none⟩ v).run P w = .ok () (w.setCell ⟨B, off + i, none⟩ v) := by
        have h1 := hv v (by simp)
        cases v <;> simp [one] at h1 <;> simp [store, Sem.run, hc, hf]
      simp only [storeCells, Sem.run_bind, Addr.add_none, e, Result.andThen_ok]
      exact r1
    · rw [r2, setCell_heap w B (off + i) v arr el h]
      apply Array.ext_getElem?
      intro j
      by_cases hj : j = B
      · subst hj
        rw [Array.getElem?_setIfInBounds_self_of_lt (by simpa using hlt), Array.getElem?_setIfInBounds_self_of_lt hlt, setMany, Nat.add_assoc]
      · rw [Array.getElem?_setIfInBounds_ne (Ne.symm hj), Array.getElem?_setIfInBounds_ne (Ne.symm hj), Array.getElem?_setIfInBounds_ne (Ne.symm hj)]
end run

omit [Gl] in
theorem blk?_push (h : Heap) (x : Blk) (b : Nat) : (h.push x).blk? b = if b = h.blks.length then some x else h.blk? b := by
  unfold Heap.blk? Heap.push
  by_cases hb : b = h.blks.length
  · subst hb; simp
  · rw [if_neg hb]
    rcases Nat.lt_or_ge b h.blks.length with hl | hl
    · simp [List.getElem?_append_left hl]
    · have h1 : (h.blks ++ [some x])[b]? = none := List.getElem?_eq_none (by simp; omega)
      have h2 : h.blks[b]? = none := List.getElem?_eq_none hl
      simp [h1, h2]

omit [Gl] in
theorem blk?_put (h : Heap) (x : Blk) (c b : Nat) (hc : c < h.blks.length) : (h.put c x).blk? b = if b = c then some x else h.blk? b := by
  unfold Heap.blk? Heap.put
  by_cases hb : b = c
  · subst hb; simp [hc]
  · simp [Ne.symm hb, hb]

omit [Gl] in
theorem blk?_lt {h : Heap} {b : Nat} {x : Blk} (hb : h.blk? b = some x) : b < h.blks.length := by
  rcases Nat.lt_or_ge b h.blks.length with hl | hl
  · exact hl
  · simp [Heap.blk?, List.getElem?_eq_none hl] at hb

omit [Gl] in
theorem Blk.Lt.mono {n m n' m' : Nat} (hn : n ≤ n') (hm : m ≤ m') {x : Blk} (h : x.Lt n m) : x.Lt n' m' := by
  cases x with
  | rows rs g fz => exact fun r hr y hy => (h r hr y hy).mono hn hm
  | mapb es => exact fun e he => ⟨(h e he).1.mono hn hm, (h e he).2.mono hn hm⟩

theorem Heap.Lt.push {h : Heap} (hl : h.Lt) {x : Blk} (hx : x.Lt (h.blks.length + 1) h.loops.length) : (h.push x).Lt := by
  refine ⟨fun b y hb => ?_, fun l r hr y hy => ?_⟩
  · rw [blk?_push] at hb
    have e : (h.push x).blks.length = h.blks.length + 1 := by simp [Heap.push]
    rw [e]
    split at hb
    · injection hb with hb; subst hb; exact hx
    · exact (hl.blks b y hb).mono (by omega) (Nat.le_refl _)
  · have e : (h.push x).blks.length = h.blks.length + 1 := by simp [Heap.push]
    rw [e]
    exact (hl.loops l r hr y hy).mono (by omega) (Nat.le_refl _)

theorem Heap.Lt.put {h : Heap} (hl : h.Lt) {x : Blk} {c : Nat} (hc : c < h.blks.length) (hx : x.Lt h.blks.length h.loops.length) : (h.put c x).Lt := by
  have e : (h.put c x).blks.length = h.blks.length := by simp [Heap.put]
  refine ⟨fun b y hb => ?_, fun l r hr y hy => ?_⟩
  · rw [blk?_put _ _ _ _ hc] at hb
    rw [e]
    split at hb
    · injection hb with hb; subst hb; exact hx
    · exact hl.blks b y hb
  · rw [e]; exact hl.loops l r hr y hy

def Env.with (E : Env) (b : Nat) (Ls : List Loc) : Env :=
  { F := fun B => E.F B ∨ ∃ L ∈ Ls, L.blk = B, ρ := fun c => if c = b then some Ls else E.ρ c, lam := E.lam }

theorem hr_push {E : Env} {w w' : World} {h : Heap} (hr : HR E w h) {arr : Array Value} {el : TypeId} {rs : List (List AV)} {g : Bool} {sz : Nat}
    (hw : w'.heap = w.heap.push (.cells arr el (0, 0))) (ho : w'.os = w.os) (hout : w'.output = w.output) (ht : w'.tape = w.tape)
    (hsz : ∀ (i : Nat) (hi : i < rs.length), rs[i].length = sz) (hfit : rs.length * sz ≤ arr.size)
    (hval : ∀ (i : Nat) (hi : i < rs.length) (j : Nat) (hj : j < rs[i].length), ∃ v, arr[i * sz + j]? = some v ∧ VR E w rs[i][j] v ∧ one v = true)
    (hlt : ∀ r ∈ rs, ∀ x ∈ r, Lt h.blks.length h.loops.length x) :
    let L : Loc := ⟨w.heap.size, 0, sz, arr.size, rs.length⟩
    let E' := E.with h.blks.length [L]
    HR E' w' (h.push (.rows rs g false)) ∧ Ext h.blks.length h.loops.length E w E' w' := by
  intro L E'
  have hnone : E.ρ h.blks.length = none := hr.dead _ (by simp [Heap.blk?])
  have hold : ∀ B, B < w.heap.size → w'.heap[B]? = w.heap[B]? := fun B hB => by rw [hw, Array.getElem?_push_lt hB, Array.getElem?_eq_getElem hB]
  have hnew : w'.heap[w.heap.size]? = some (.cells arr el (0, 0)) := by rw [hw]; simp
  have hsize : w'.heap.size = w.heap.size + 1 := by rw [hw]; simp
  have hrho : ∀ b, b ≠ h.blks.length → E'.ρ b = E.ρ b := fun b hb => by show (if b = _ then _ else _) = _; rw [if_neg hb]
  have hrho' : E'.ρ h.blks.length = some [L] := by show (if _ then _ else _) = _; rw [if_pos rfl]
  have keeps : Keeps h.blks.length h.loops.length E w E' w' := by
    refine ⟨fun B o v hF hc => ?_, fun b hb Ls' hLs' => ?_, fun _ _ _ h => h⟩
    · have hB : B < w.heap.size := by
        rcases Nat.lt_or_ge B w.heap.size with h | h
        · exact h
        · simp [World.cell?, Array.getElem?_eq_none h] at hc
      refine ⟨?_, ?_⟩
      · rintro (h | ⟨L', hL', rfl⟩)
        · exact hF h
        · obtain rfl : L' = L := by simpa using hL'
          exact absurd hB (Nat.lt_irrefl _)
      · simp only [World.cell?, hold B hB] at hc ⊢; exact hc
    · rw [hrho b (by omega)] at hLs'
      exact ⟨Ls', hLs', fun L hL => ⟨L, hL, rfl, rfl, rfl, rfl, Nat.le_refl _⟩⟩
  have hfoot : ∀ B, foot E' B → foot E B ∨ B = w.heap.size := by
    rintro B (⟨b, Ls, L', h1, h2, rfl⟩ | ⟨l, h1⟩)
    · by_cases hb : b = h.blks.length
      · subst hb
        rw [hrho'] at h1
        injection h1 with h1; subst h1
        obtain rfl : L' = L := by simpa using h2
        exact .inr rfl
      · rw [hrho b hb] at h1
        exact .inl (.inl ⟨b, Ls, L', h1, h2, rfl⟩)
    · exact .inl (.inr ⟨l, h1⟩)
  refine andx (B := Ext ..) ⟨keeps, by omega, ho, hout, ht, fun B hB _ => hold B hB, fun B _ hF => .inl (.inl hF), fun B hB hf => (hfoot B hf).resolve_right (by omega)⟩ fun hx => ?_
  have hFold : ∀ B, B < w.heap.size → (E'.F B ↔ E.F B) := fun B hB => ⟨fun h => h.elim id fun ⟨L', hL', e⟩ => by
    obtain rfl : L' = L := by simpa using hL'
    have : w.heap.size = B := e
    omega, .inl⟩
  refine ⟨fun b hb => ?_, fun b rs' g' fz hb => ?_, fun b es hb => ?_, fun b b' Ls Ls' L1 L2 hne h1 h2 m1 m2 hF => ?_, hr.deadl, fun l r hl => ?_, hr.lapart, ?_, fun B hB => ?_, hr.globs.ext hx⟩
  · rw [blk?_push] at hb
    split at hb
    · cases hb
    · rename_i hne; rw [hrho b hne]; exact hr.dead b hb
  · rw [blk?_push] at hb
    split at hb
    · rename_i he
      injection hb with hb; injection hb with e1 e2 e3
      subst he; subst e1; subst e2; subst e3
      refine ⟨[L], hrho', fun _ => ⟨L, rfl⟩, ⟨L, by simp, rfl⟩, fun L' hL' => ?_, by simp⟩
      obtain rfl : L' = L := by simpa using hL'
      refine ⟨⟨arr, el, hnew, rfl, fun i hi _ j hj => ?_⟩, Nat.le_refl _, by show 0 + rs.length * sz ≤ arr.size; omega, hsz, fun _ => .inr ⟨L, by simp, rfl⟩, fun h => by cases h⟩
      obtain ⟨v, v1, v2, v3⟩ := hval i hi j hj
      exact ⟨v, by show arr[0 + i * sz + j]? = _; rw [Nat.zero_add]; exact v1, v2.keep keeps (hlt _ (List.getElem_mem hi) _ (List.getElem_mem hj)), v3⟩
    · rename_i hne
      obtain ⟨Ls, h1, h2⟩ := hr.rows b rs' g' fz hb
      refine ⟨Ls, by rw [hrho b hne]; exact h1, h2.one, h2.now, fun L' hL' => ?_, h2.apart⟩
      have hl := h2.all L' hL'
      obtain ⟨arr', el', a1, a2, a3⟩ := hl.lies
      have hB : L'.blk < w.heap.size := foot_lt hr (.inl ⟨b, Ls, L', h1, hL', rfl⟩)
      refine ⟨⟨arr', el', (hold _ hB).trans a1, a2, fun i hi hi' j hj => ?_⟩, hl.len, hl.fits, hl.sz, fun h => .inl (hl.own h), fun h hF => hl.free h ((hFold _ hB).1 hF)⟩
      obtain ⟨v, v1, v2, v3⟩ := a3 i hi hi' j hj
      exact ⟨v, v1, v2.keep keeps (hr.lt.blks b _ hb _ (List.getElem_mem hi) _ (List.getElem_mem hj)), v3⟩
  · rw [blk?_push] at hb
    split at hb
    · injection hb with hb; cases hb
    · rename_i hne
      obtain ⟨Ls, h1, ⟨L', ces, clock, rfl, h3, h4, h5, h6⟩⟩ := hr.maps b es hb
      have hB : L'.blk < w.heap.size := foot_lt hr (.inl ⟨b, [L'], L', h1, by simp, rfl⟩)
      refine ⟨[L'], by rw [hrho b hne]; exact h1, ⟨L', ces, clock, rfl, .inl h3, (hold _ hB).trans h4, h5, fun i hi hj => ?_⟩⟩
      have hl := hr.lt.blks b _ hb _ (List.getElem_mem hi)
      exact ⟨(h6 i hi hj).1.keep keeps hl.1, (h6 i hi hj).2.keep keeps hl.2⟩
  · by_cases hb : b = h.blks.length
    · have h2' : E.ρ b' = some Ls' := by rw [← hrho b' (fun e => hne (hb.trans e.symm))]; exact h2
      have hB : L2.blk < w.heap.size := foot_lt hr (.inl ⟨b', Ls', L2, h2', m2, rfl⟩)
      rw [hb, hrho'] at h1
      injection h1 with h1; subst h1
      obtain rfl : L1 = L := by simpa using m1
      show w.heap.size ≠ _; omega
    · have h1' : E.ρ b = some Ls := by rw [← hrho b hb]; exact h1
      have hB : L1.blk < w.heap.size := foot_lt hr (.inl ⟨b, Ls, L1, h1', m1, rfl⟩)
      by_cases hb' : b' = h.blks.length
      · rw [hb', hrho'] at h2
        injection h2 with h2; subst h2
        obtain rfl : L2 = L := by simpa using m2
        show _ ≠ w.heap.size; omega
      · exact hr.apart b b' Ls Ls' L1 L2 hne h1' (by rw [← hrho b' hb']; exact h2) m1 m2 ((hFold _ hB).1 hF)
  · obtain ⟨o, h1, ⟨ct, df, fi, h2, h3⟩⟩ := hr.loops l r hl
    have hB : o < w.heap.size := foot_lt hr (.inr ⟨l, h1⟩)
    exact ⟨o, h1, ⟨ct, df, fi, (hold _ hB).trans h2, h3.keep keeps (hr.lt.loops l r hl)⟩⟩
  · exact hr.lt.push fun r hr' x hx => (hlt r hr' x hx).mono (by omega) (Nat.le_refl _)
  · rcases hB with h | ⟨L', hL', rfl⟩
    · have := hr.inside B h; omega
    · obtain rfl : L' = L := by simpa using hL'
      show w.heap.size < _; omega

theorem hr_change {E : Env} {w w' : World} {h : Heap} (hr : HR E w h) {b : Nat} {rs rs' : List (List AV)} {g g' : Bool} {Ls Ls' : List Loc}
    (hb : h.blk? b = some (.rows rs g false)) (hLs : E.ρ b = some Ls)
    (ho : w'.os = w.os) (hout : w'.output = w.output) (ht : w'.tape = w.tape) (hsize : w.heap.size ≤ w'.heap.size)
    (hold : ∀ B, B < w.heap.size → (∀ L ∈ Ls, L.blk ≠ B) → w'.heap[B]? = w.heap[B]?)
    (hins : ∀ L' ∈ Ls', L'.blk < w'.heap.size ∧ ((∃ L ∈ Ls, L.blk = L'.blk) ∨ w.heap.size ≤ L'.blk))
    (href : ∀ L ∈ Ls, ∃ L' ∈ Ls', L'.blk = L.blk ∧ L'.off = L.off ∧ L'.sz = L.sz ∧ L'.n = L.n ∧ L.len ≤ L'.len)
    (hrows : Keeps h.blks.length h.loops.length E w (E.with b Ls') w' → RowsAt (E.with b Ls') w' Ls' rs' g' false)
    (hlt : ∀ r ∈ rs', ∀ x ∈ r, Lt h.blks.length h.loops.length x) :
    HR (E.with b Ls') w' (h.put b (.rows rs' g' false)) ∧ Ext h.blks.length h.loops.length E w (E.with b Ls') w' := by
  have hblt : b < h.blks.length := blk?_lt hb
  obtain ⟨Ls0, e0, hra⟩ := hr.rows b rs g false hb
  rw [hLs] at e0; injection e0 with e0; subst e0
  have hown : ∀ L ∈ Ls, E.F L.blk := fun L hL => (hra.all L hL).own rfl
  have hrho : ∀ c, c ≠ b → (E.with b Ls').ρ c = E.ρ c := fun c hc => by show (if c = _ then _ else _) = _; rw [if_neg hc]
  have hrho' : (E.with b Ls').ρ b = some Ls' := by show (if _ then _ else _) = _; rw [if_pos rfl]
  have hF' : ∀ B, (E.with b Ls').F B → E.F B ∨ w.heap.size ≤ B := by
    rintro B (h | ⟨L', hL', rfl⟩)
    · exact .inl h
    · rcases (hins L' hL').2 with ⟨L, hL, e⟩ | h
      · exact .inl (e ▸ hown L hL)
      · exact .inr h
  have keeps : Keeps h.blks.length h.loops.length E w (E.with b Ls') w' := by
    refine ⟨fun B o v hF hc => ?_, fun c hc Ls2 hLs2 => ?_, fun _ _ _ h => h⟩
    · have hB : B < w.heap.size := by
        rcases Nat.lt_or_ge B w.heap.size with h | h
        · exact h
        · simp [World.cell?, Array.getElem?_eq_none h] at hc
      refine ⟨fun h => (hF' B h).elim hF (by omega), ?_⟩
      have := hold B hB (fun L hL e => hF (e ▸ hown L hL))
      simp only [World.cell?, this] at hc ⊢; exact hc
    · by_cases hcb : c = b
      · subst hcb
        rw [hrho'] at hLs2; injection hLs2 with hLs2; subst hLs2
        exact ⟨Ls, hLs, href⟩
      · rw [hrho c hcb] at hLs2
        exact ⟨Ls2, hLs2, fun L hL => ⟨L, hL, rfl, rfl, rfl, rfl, Nat.le_refl _⟩⟩
  have hfoot : ∀ B, B < w.heap.size → foot (E.with b Ls') B → foot E B := by
    rintro B hB (⟨c, Ls2, L', h1, h2, rfl⟩ | ⟨l, h1⟩)
    · by_cases hcb : c = b
      · subst hcb
        rw [hrho'] at h1; injection h1 with h1; subst h1
        rcases (hins L' h2).2 with ⟨L, hL, e⟩ | h
        · exact .inl ⟨c, Ls, L, hLs, hL, e⟩
        · omega
      · rw [hrho c hcb] at h1
        exact .inl ⟨c, Ls2, L', h1, h2, rfl⟩
    · exact .inr ⟨l, h1⟩
  have hother : ∀ c Ls2 L, c ≠ b → E.ρ c = some Ls2 → L ∈ Ls2 → ∀ L0 ∈ Ls, L0.blk ≠ L.blk := fun c Ls2 L hc h1 h2 L0 hL0 =>
    hr.apart b c Ls Ls2 L0 L (Ne.symm hc) hLs h1 hL0 h2 (hown L0 hL0)
  refine andx (B := Ext ..) ⟨keeps, hsize, ho, hout, ht, fun B hB hf => hold B hB (fun L hL e => hf (.inl ⟨b, Ls, L, hLs, hL, e⟩)), fun B _ hF => .inl (.inl hF), hfoot⟩ fun hx => ?_
  refine ⟨fun c hc => ?_, fun c rs2 g2 fz hc => ?_, fun c es hc => ?_, fun c c' L1s L2s L1 L2 hne h1 h2 m1 m2 hF => ?_, hr.deadl, fun l r hl => ?_, hr.lapart, ?_, fun B hB => ?_, hr.globs.ext hx⟩
  · rw [blk?_put _ _ _ _ hblt] at hc
    split at hc
    · cases hc
    · rename_i hne; rw [hrho c hne]; exact hr.dead c hc
  · rw [blk?_put _ _ _ _ hblt] at hc
    split at hc
    · rename_i he
      injection hc with hc; injection hc with e1 e2 e3
      subst he; subst e1; subst e2; subst e3
      exact ⟨Ls', hrho', hrows keeps⟩
    · rename_i hne
      obtain ⟨L2s, h1, h2⟩ := hr.rows c rs2 g2 fz hc
      refine ⟨L2s, by rw [hrho c hne]; exact h1, h2.one, h2.now, fun L' hL' => ?_, h2.apart⟩
      have hl := h2.all L' hL'
      obtain ⟨arr', el', a1, a2, a3⟩ := hl.lies
      have hB : L'.blk < w.heap.size := foot_lt hr (.inl ⟨c, L2s, L', h1, hL', rfl⟩)
      refine ⟨⟨arr', el', (hold _ hB (hother c L2s L' hne h1 hL')).trans a1, a2, fun i hi hi' j hj => ?_⟩, hl.len, hl.fits, hl.sz, fun h => .inl (hl.own h), fun h hF => hl.free h ((hF' _ hF).resolve_right (by omega))⟩
      obtain ⟨v, v1, v2, v3⟩ := a3 i hi hi' j hj
      exact ⟨v, v1, v2.keep keeps (hr.lt.blks c _ hc _ (List.getElem_mem hi) _ (List.getElem_mem hj)), v3⟩
  · rw [blk?_put _ _ _ _ hblt] at hc
    split at hc
    · injection hc with hc; cases hc
    · rename_i hne
      obtain ⟨L2s, h1, ⟨L', ces, clock, rfl, h3, h4, h5, h6⟩⟩ := hr.maps c es hc
      have hB : L'.blk < w.heap.size := foot_lt hr (.inl ⟨c, [L'], L', h1, by simp, rfl⟩)
      refine ⟨[L'], by rw [hrho c hne]; exact h1, ⟨L', ces, clock, rfl, .inl h3, (hold _ hB (hother c [L'] L' hne h1 (by simp))).trans h4, h5, fun i hi hj => ?_⟩⟩
      have hl := hr.lt.blks c _ hc _ (List.getElem_mem hi)
      exact ⟨(h6 i hi hj).1.keep keeps hl.1, (h6 i hi hj).2.keep keeps hl.2⟩
  · by_cases hcb : c = b
    · have hcb' : c' ≠ b := fun e => hne (hcb.trans e.symm)
      rw [hcb, hrho'] at h1; injection h1 with h1; subst h1
      rw [hrho c' hcb'] at h2
      rcases (hins L1 m1).2 with ⟨L, hL, e⟩ | hge
      · rw [← e]; exact hother c' L2s L2 hcb' h2 m2 L hL
      · have hB : L2.blk < w.heap.size := foot_lt hr (.inl ⟨c', L2s, L2, h2, m2, rfl⟩)
        omega
    · rw [hrho c hcb] at h1
      have hB : L1.blk < w.heap.size := foot_lt hr (.inl ⟨c, L1s, L1, h1, m1, rfl⟩)
      by_cases hcb' : c' = b
      · rw [hcb', hrho'] at h2; injection h2 with h2; subst h2
        rcases (hins L2 m2).2 with ⟨L, hL, e⟩ | hge
        · rw [← e]; exact Ne.symm (hother c L1s L1 hcb h1 m1 L hL)
        · omega
      · rw [hrho c' hcb'] at h2
        exact hr.apart c c' L1s L2s L1 L2 hne h1 h2 m1 m2 ((hF' _ hF).resolve_right (by omega))
  · obtain ⟨o, h1, ⟨ct, df, fi, h2, h3⟩⟩ := hr.loops l r hl
    have hB : o < w.heap.size := foot_lt hr (.inr ⟨l, h1⟩)
    have hne : ∀ L ∈ Ls, L.blk ≠ o := fun L hL e => by
      obtain ⟨arr, el, a1, _⟩ := (hra.all L hL).lies
      rw [e, h2] at a1; cases a1
    exact ⟨o, h1, ⟨ct, df, fi, (hold _ hB hne).trans h2, h3.keep keeps (hr.lt.loops l r hl)⟩⟩
  · exact hr.lt.put hblt fun r hr' x hx => hlt r hr' x hx
  · rcases hB with h | ⟨L', hL', rfl⟩
    · have := hr.inside B h; omega
    · exact (hins L' hL').1

end
end Go.Abs

namespace Go.Abs
noncomputable section
variable [Gl]

def VOK (P : Program) (h : Heap) (E : Env) (w : World) (s : Sem Value) (K : AV → Heap → Prop) : Prop :=
  ∃ r h' E' w' v, s.run P w = .ok v w' ∧ K r h' ∧ VR E' w' r v ∧ HR E' w' h' ∧ Lt h'.blks.length h'.loops.length r ∧ h.blks.length ≤ h'.blks.length ∧ h.loops.length ≤ h'.loops.length ∧
    Ext h.blks.length h.loops.length E w E' w'

theorem VOK.val {P : Program} {h : Heap} {E : Env} {w : World} {s : Sem Value} {K : AV → Heap → Prop} {r : AV} {v : Value} (hr : HR E w h) (hs : s.run P w = .ok v w) (hv : VR E w r v)
    (hl : Lt h.blks.length h.loops.length r) (hk : K r h) : VOK P h E w s K :=
  ⟨r, h, E, w, v, hs, hk, hv, hr, hl, Nat.le_refl _, Nat.le_refl _, .refl ..⟩

section runs
variable {P : Program} {w : World} {T : Tab}
omit [Gl] in
theorem run_underlying {t : TypeId} {d : TypeDesc} (h : P.underlying t = some d) : (underlying t).run P w = .ok d w := by
  simp [underlying, h]
omit [Gl] in
theorem run_typeInfo {t : TypeId} {i : TypeInfo} (h : P.info? t = some i) : (typeInfo t).run P w = .ok i w := by
  simp [typeInfo, h]
theorem run_sizeOf (hT : TabOK P T) {t : TypeId} {i : TI} (h : T t = some i) : (sizeOf t).run P w = .ok i.size w := by
  obtain ⟨_, info, h1, h2, _⟩ := hT.ok t i h
  simp [sizeOf, run_typeInfo h1, h2]
theorem run_und (hT : TabOK P T) {t : TypeId} {i : TI} (h : T t = some i) : (underlying t).run P w = .ok i.desc w := run_underlying (hT.ok t i h).1
theorem run_isAgg (hT : TabOK P T) {t : TypeId} {i : TI} (h : T t = some i) : (isAgg t).run P w = .ok (isAggD i.desc) w := by
  simp only [isAgg, Sem.run_bind, run_und hT h, Result.andThen_ok]
  cases i.desc <;> rfl
theorem run_zero (hT : TabOK P T) {t : TypeId} {i : TI} (h : T t = some i) : ∃ z, (zeroValue t).run P w = .ok z w ∧ z.cells.toList.map ofV = i.zero ∧ z.cells.size = i.size ∧ (∀ c ∈ z.cells.toList, one c = true) := by
  obtain ⟨_, info, h1, h2, _, z, h3, h4, h5, h6, _⟩ := hT.ok t i h
  exact ⟨z, by simp [zeroValue, run_typeInfo h1, h3], h4, h5, h6⟩
end runs

structure RowCells (E : Env) (w : World) (B o : Nat) (row : List AV) : Prop where
  ok : ∃ f : Nat → Value, ∀ (t : Nat) (ht : t < row.length), w.cell? ⟨B, o + t, none⟩ = some (f t) ∧ VR E w row[t] (f t)

theorem ptr_row {E : Env} {w : World} {h : Heap} (hr : HR E w h) {b i j : Nat} {v : Value} (hv : VR E w (.ptr b i j) v) {rs : List (List AV)} {g fz : Bool} (hb : h.blk? b = some (.rows rs g fz))
    {row : List AV} (hrow : rs[i]? = some row) : ∃ B o, v = .pointer (some ⟨B, o + j, none⟩) ∧ RowCells E w B o row := by
  cases hv with
  | ptr _ _ _ a hv =>
    obtain ⟨Ls, h1, h2⟩ := hr.rows b rs g fz hb
    obtain ⟨L, hL, h3, h4, rfl⟩ := hv Ls h1
    obtain ⟨arr, el, a1, a2, a3⟩ := (h2.all L hL).lies
    obtain ⟨hi, rfl⟩ := List.getElem?_eq_some_iff.1 hrow
    refine ⟨L.blk, L.off + i * L.sz, rfl, ⟨fun t => (arr[L.off + i * L.sz + t]?).getD undef, fun t ht => ?_⟩⟩
    obtain ⟨v, b1, b2, _⟩ := a3 i hi h3 t ht
    simp only [World.cell?, a1, b1, Option.getD_some]
    exact ⟨rfl, b2⟩

omit [Gl] in
theorem vp_row {E : Env} {w : World} {row : List AV} {j : Nat} {v : Value} (hv : VR E w (.vp row j) v) : ∃ B o, v = .pointer (some ⟨B, o + j, none⟩) ∧ RowCells E w B o row := by
  cases hv with
  | vp _ _ B off vals hF h => exact ⟨B, off, rfl, ⟨vals, fun t ht => ⟨(hF t ht).2, h t ht⟩⟩⟩

theorem gp_row {E : Env} {w : World} {h : Heap} (hr : HR E w h) {g j : Nat} {v : Value} (hv : VR E w (.gp g j) v) {row : List AV} (hg : Gl.gl g = some row) :
    v = .pointer (some ⟨g, 0 + j, none⟩) ∧ RowCells E w g 0 row ∧ ∀ n m, ∀ x ∈ row, Lt n m x := by
  cases hv
  refine ⟨by rw [Nat.zero_add], ⟨⟨fun t => (w.cell? ⟨g, 0 + t, none⟩).getD undef, fun t ht => ?_⟩⟩, fun n m x hx => ?_⟩
  · obtain ⟨-, -, -, h1, arr, el, fr, h2, -, h3⟩ := hr.globs.ok g row hg
    obtain ⟨v, h3, h4⟩ := h3 t ht
    have e : w.cell? ⟨g, 0 + t, none⟩ = some v := by rw [Nat.zero_add]; simp only [World.cell?, h2]; exact h3
    simp only [e, Option.getD_some]
    have k : Keeps 0 0 (penv E.F) w E w := ⟨fun B o v a b => ⟨a, b⟩, fun b hb => by omega, fun l hl => by omega⟩
    exact ⟨trivial, VR.keep k h4 (h1 _ (List.getElem_mem ht))⟩
  · obtain ⟨-, -, -, h1, -⟩ := hr.globs.ok g row hg
    exact (h1 x hx).lt n m

section ops
variable {P : Program} {T : Tab} {h : Heap} {E : Env} {w : World} {K : AV → Heap → Prop}

omit [Gl] in
theorem lt_of_partA {n m : Nat} {ti : TI} {row : List AV} {j : Nat} {r : AV} (hp : partA ti row j = some r) (hl : ∀ x ∈ row, Lt n m x) : Lt n m r := by
  unfold partA at hp
  split at hp
  · split at hp
    · injection hp with hp; subst hp
      exact .agg _ fun i hi => hl _ (List.mem_of_mem_drop (List.mem_of_mem_take (List.getElem_mem hi)))
    · cases hp
  · exact hl r (List.mem_of_getElem? hp)

theorem part_load (hT : TabOK P T) {t : TypeId} {ti : TI} (ht : T t = some ti) {B o j : Nat} {row : List AV} (hc : RowCells E w B o row) {r : AV} (hp : partA ti row j = some r) :
    ∃ v, (loadVar t ⟨B, o + j, none⟩).run P w = .ok v w ∧ VR E w r v := by
  obtain ⟨f, hf⟩ := hc.ok
  unfold partA at hp
  simp only [loadVar, Sem.run_bind, run_isAgg hT ht, Result.andThen_ok]
  by_cases hd : isAggD ti.desc = true
  · rw [if_pos hd] at hp
    split at hp
    · rename_i hle
      injection hp with hp; subst hp
      have hld := run_loadCells (P := P) (w := w) (B := B) (off := o + j) (n := ti.size) (fun k => f (j + k)) (fun k hk => by
        rw [Nat.add_assoc]; exact (hf (j + k) (by omega)).1)
      refine ⟨.agg ((List.range ti.size).map fun k => f (j + k)).toArray, ?_, .agg _ _ (by simp; omega) fun i hi hj => ?_⟩
      · simp [hd, run_sizeOf hT ht, hld]
      · simp only [List.length_take, List.length_drop] at hi
        simp only [List.getElem_take, List.getElem_drop, List.getElem_toArray, List.getElem_map, List.getElem_range]
        exact (hf (j + i) (by omega)).2
    · cases hp
  · rw [if_neg hd] at hp
    obtain ⟨hj, rfl⟩ := List.getElem?_eq_some_iff.1 hp
    refine ⟨f j, ?_, (hf j hj).2⟩
    simp only [Bool.not_eq_true] at hd
    simp [hd, run_load1 (hf j hj).1]

theorem op_load (hT : TabOK P T) (hr : HR E w h) {t : TypeId} {x r : AV} {v : Value} (hv : VR E w x v) (hl : Lt h.blks.length h.loops.length x) (hx : loadA T h t x = some r) (hk : K r h) :
    VOK P h E w (Instr.loadAt t v) K := by
  unfold loadA at hx
  split at hx
  · cases hx
  · rename_i ti ht
    split at hx
    · rename_i b i j
      split at hx
      · rename_i rs g fz hb
        obtain ⟨row, hrow, hp⟩ := Option.bind_eq_some_iff.1 hx
        obtain ⟨B, o, rfl, hc⟩ := ptr_row hr hv hb hrow
        obtain ⟨v', hv1, hv2⟩ := part_load hT ht hc hp
        refine .val hr (v := v') (r := r) ?_ hv2 (lt_of_partA hp fun y hy => hr.lt.blks b _ hb row (List.mem_of_getElem? hrow) y hy) hk
        simp [Instr.loadAt, Instr.sureAddr, hv1]
      · cases hx
    · rename_i row j
      obtain ⟨B, o, rfl, hc⟩ := vp_row hv
      obtain ⟨v', hv1, hv2⟩ := part_load hT ht hc hx
      refine .val hr (v := v') (r := r) ?_ hv2 (lt_of_partA hx fun y hy => ?_) hk
      · simp [Instr.loadAt, Instr.sureAddr, hv1]
      · cases hl with | vp _ _ hl => obtain ⟨i, hi, rfl⟩ := List.getElem_of_mem hy; exact hl i hi
    · rename_i g j
      obtain ⟨row, hg, hp⟩ := Option.bind_eq_some_iff.1 hx
      obtain ⟨rfl, hc, hlt⟩ := gp_row hr hv hg
      obtain ⟨v', hv1, hv2⟩ := part_load hT ht hc hp
      refine .val hr (v := v') (r := r) ?_ hv2 (lt_of_partA hp (hlt _ _)) hk
      simp only [Instr.loadAt, Instr.sureAddr, Sem.run_bind, Sem.run_pure, Result.andThen_ok]
      exact hv1
    · cases hx

theorem part_agg (hT : TabOK P T) {t : TypeId} {ti : TI} (ht : T t = some ti) {cs : List AV} {vs : Array Value} (hs : cs.length = vs.size)
    (hv : ∀ (i : Nat) (hi : i < cs.length) (hj : i < vs.size), VR E w cs[i] vs[i]) {j : Nat} {r : AV} (hp : partA ti cs j = some r) :
    ∃ v, (part t vs j).run P w = .ok v w ∧ VR E w r v := by
  unfold partA at hp
  simp only [part, Sem.run_bind, run_isAgg hT ht, Result.andThen_ok]
  by_cases hd : isAggD ti.desc = true
  · rw [if_pos hd] at hp
    split at hp
    · rename_i hle
      injection hp with hp; subst hp
      refine ⟨.agg (vs.extract j (j + ti.size)), ?_, .agg _ _ (by simp; omega) fun i hi hj => ?_⟩
      · simp [hd, run_sizeOf hT ht]
      · simp only [List.length_take, List.length_drop] at hi
        simp only [List.getElem_take, List.getElem_drop, Array.getElem_extract]
        exact hv (j + i) (by omega) (by omega)
    · cases hp
  · rw [if_neg hd] at hp
    obtain ⟨hj, rfl⟩ := List.getElem?_eq_some_iff.1 hp
    refine ⟨vs[j]'(hs ▸ hj), ?_, hv j hj (hs ▸ hj)⟩
    simp only [Bool.not_eq_true] at hd
    simp [hd, Array.getElem?_eq_getElem (hs ▸ hj)]

theorem op_field (hT : TabOK P T) (hr : HR E w h) {t : TypeId} {x r : AV} {v : Value} {f : Nat} (hv : VR E w x v) (hl : Lt h.blks.length h.loops.length x) (hx : fieldA T t x f = some r) (hk : K r h) :
    VOK P h E w (Instr.field t v f) K := by
  unfold fieldA at hx
  split at hx
  · rename_i fs _ _ _ cs ht
    cases hv with
    | agg _ vs hs hv =>
      split at hx
      · cases hx
      · rename_i fd hfd
        split at hx
        · cases hx
        · rename_i fi hfi
          obtain ⟨v', h1, h2⟩ := part_agg hT hfi hs hv hx
          refine .val hr (v := v') (r := r) ?_ h2 (lt_of_partA hx fun y hy => ?_) hk
          · simp [Instr.field, run_und hT ht, hfd, asAgg, h1]
          · cases hl with | agg _ hl => obtain ⟨i, hi, rfl⟩ := List.getElem_of_mem hy; exact hl i hi
  · cases hx

theorem op_fieldAddr (hT : TabOK P T) (hr : HR E w h) {t : TypeId} {x r : AV} {v : Value} {f : Nat} (hv : VR E w x v) (hl : Lt h.blks.length h.loops.length x) (hx : fieldAddrA T h t x f = some r) (hk : K r h) :
    VOK P h E w (Instr.fieldAt t v f) K := by
  unfold fieldAddrA at hx
  split at hx
  · rename_i fs _ _ _ ht
    split at hx
    · cases hx
    · rename_i fd hfd
      split at hx
      · cases hx
      · rename_i fi hfi
        split at hx
        · cases hx
        · rename_i hz
          have hz' : fi.size ≠ 0 := by simpa using hz
          have run : ∀ B o, (Instr.fieldAt t (.pointer (some ⟨B, o, none⟩)) f).run P w = .ok (.pointer (some ⟨B, o + fd.offset, none⟩)) w := fun B o => by
            simp [Instr.fieldAt, run_und hT ht, hfd, Instr.sureAddr, fieldPlace, run_sizeOf hT hfi, hz', Addr.add_none]
          split at hx
          · rename_i b i j
            split at hx
            · rename_i rs g fz hb
              split at hx
              · rename_i row hrow
                split at hx
                · rename_i hlt
                  injection hx with hx; subst hx
                  have hlt' : j + fd.offset < row.length := by simpa [Nat.blt_eq] using hlt
                  cases hv with
                  | ptr _ _ _ a hv =>
                    obtain ⟨Ls, h1, h2⟩ := hr.rows b rs g fz hb
                    obtain ⟨L, hL, h3, h4, rfl⟩ := hv Ls h1
                    refine .val hr (run _ _) (.ptr _ _ _ _ fun Ls' hLs' => ?_) (by cases hl with | ptr _ _ _ hl => exact .ptr _ _ _ hl) hk
                    rw [h1] at hLs'; injection hLs' with hLs'; subst hLs'
                    obtain ⟨hi, rfl⟩ := List.getElem?_eq_some_iff.1 hrow
                    exact ⟨L, hL, h3, by rw [← (h2.all L hL).sz i hi]; exact hlt', by rw [Nat.add_assoc]⟩
                · cases hx
              · cases hx
            · cases hx
          · rename_i row j
            injection hx with hx; subst hx
            cases hv with
            | vp _ _ B off vals hF hh =>
              refine .val hr (run _ _) ?_ (by cases hl with | vp _ _ hl => exact .vp _ _ hl) hk
              rw [Nat.add_assoc]
              exact .vp row (j + fd.offset) B off vals hF hh
          · rename_i g j
            injection hx with hx; subst hx
            cases hv
            exact .val hr (run _ _) (.gp _ _) (.gp _ _) hk
          · cases hx
  · cases hx

def notNil : Value → Prop
  | .pointer none | .nilIface | .nilFunc => False
  | .func (.method _) _ _ => False
  | _ => True

theorem op_nilCheck {x : AV} {v : Value} {K1 : AV → Prop} (hr : HR E w h) (hv : VR E w x v) (hl : Lt h.blks.length h.loops.length x) (hx : nilCheckW h x K1) :
    ∃ r, K1 r ∧ VR E w r v ∧ Lt h.blks.length h.loops.length r ∧ notNil v := by
  unfold nilCheckW at hx
  split at hx
  · rename_i b i j
    split at hx
    · rename_i rs g fz hb
      refine ⟨_, hx, hv, hl, ?_⟩
      cases hv with
      | ptr _ _ _ a hv =>
        obtain ⟨Ls, h1, _⟩ := hr.rows b rs g fz hb
        obtain ⟨L, _, _, _, rfl⟩ := hv Ls h1
        trivial
    · exact hx.elim
  · refine ⟨_, hx, hv, hl, ?_⟩; cases hv; trivial
  · refine ⟨_, hx, hv, hl, ?_⟩; cases hv; trivial
  · refine ⟨_, hx, hv, hl, ?_⟩; cases hv; trivial
  · rename_i l
    split at hx
    · rename_i r hlr
      refine ⟨_, hx, hv, hl, ?_⟩
      cases hv with
      | yld _ f va vc hv =>
        obtain ⟨o, h1, _⟩ := hr.loops l r hlr
        obtain ⟨rfl, rfl, rfl⟩ := hv o h1
        trivial
    · exact hx.elim
  · exact hx.elim

end ops
end
end Go.Abs

namespace Go.Abs
noncomputable section
variable [Gl]

theorem hr_pushmap {E : Env} {w w' : World} {h : Heap} (hr : HR E w h) {clock : Nat}
    (hw : w'.heap = w.heap.push (.map #[] clock)) (ho : w'.os = w.os) (hout : w'.output = w.output) (ht : w'.tape = w.tape) :
    let L : Loc := ⟨w.heap.size, 0, 0, 0, 0⟩
    let E' := E.with h.blks.length [L]
    HR E' w' (h.push (.mapb [])) ∧ Ext h.blks.length h.loops.length E w E' w' := by
  intro L E'
  have hnone : E.ρ h.blks.length = none := hr.dead _ (by simp [Heap.blk?])
  have hold : ∀ B, B < w.heap.size → w'.heap[B]? = w.heap[B]? := fun B hB => by rw [hw, Array.getElem?_push_lt hB, Array.getElem?_eq_getElem hB]
  have hnew : w'.heap[w.heap.size]? = some (.map #[] clock) := by rw [hw]; simp
  have hsize : w'.heap.size = w.heap.size + 1 := by rw [hw]; simp
  have hrho : ∀ b, b ≠ h.blks.length → E'.ρ b = E.ρ b := fun b hb => by show (if b = _ then _ else _) = _; rw [if_neg hb]
  have hrho' : E'.ρ h.blks.length = some [L] := by show (if _ then _ else _) = _; rw [if_pos rfl]
  have keeps : Keeps h.blks.length h.loops.length E w E' w' := by
    refine ⟨fun B o v hF hc => ?_, fun b hb Ls' hLs' => ?_, fun _ _ _ h => h⟩
    · have hB : B < w.heap.size := by
        rcases Nat.lt_or_ge B w.heap.size with h | h
        · exact h
        · simp [World.cell?, Array.getElem?_eq_none h] at hc
      refine ⟨?_, ?_⟩
      · rintro (h | ⟨L', hL', rfl⟩)
        · exact hF h
        · obtain rfl : L' = L := by simpa using hL'
          exact absurd hB (Nat.lt_irrefl _)
      · simp only [World.cell?, hold B hB] at hc ⊢; exact hc
    · rw [hrho b (by omega)] at hLs'
      exact ⟨Ls', hLs', fun L hL => ⟨L, hL, rfl, rfl, rfl, rfl, Nat.le_refl _⟩⟩
  have hfoot : ∀ B, foot E' B → foot E B ∨ B = w.heap.size := by
    rintro B (⟨b, Ls, L', h1, h2, rfl⟩ | ⟨l, h1⟩)
    · by_cases hb : b = h.blks.length
      · subst hb
        rw [hrho'] at h1
        injection h1 with h1; subst h1
        obtain rfl : L' = L := by simpa using h2
        exact .inr rfl
      · rw [hrho b hb] at h1
        exact .inl (.inl ⟨b, Ls, L', h1, h2, rfl⟩)
    · exact .inl (.inr ⟨l, h1⟩)
  refine andx (B := Ext ..) ⟨keeps, by omega, ho, hout, ht, fun B hB _ => hold B hB, fun B _ hF => .inl (.inl hF), fun B hB hf => (hfoot B hf).resolve_right (by omega)⟩ fun hx => ?_
  have hFold : ∀ B, B < w.heap.size → (E'.F B ↔ E.F B) := fun B hB => ⟨fun h => h.elim id fun ⟨L', hL', e⟩ => by
    obtain rfl : L' = L := by simpa using hL'
    have : w.heap.size = B := e
    omega, .inl⟩
  refine ⟨fun b hb => ?_, fun b rs' g' fz hb => ?_, fun b es hb => ?_, fun b b' Ls Ls' L1 L2 hne h1 h2 m1 m2 hF => ?_, hr.deadl, fun l r hl => ?_, hr.lapart, ?_, fun B hB => ?_, hr.globs.ext hx⟩
  · rw [blk?_push] at hb
    split at hb
    · cases hb
    · rename_i hne; rw [hrho b hne]; exact hr.dead b hb
  · rw [blk?_push] at hb
    split at hb
    · injection hb with hb; cases hb
    · rename_i hne
      obtain ⟨Ls, h1, h2⟩ := hr.rows b rs' g' fz hb
      refine ⟨Ls, by rw [hrho b hne]; exact h1, h2.one, h2.now, fun L' hL' => ?_, h2.apart⟩
      have hl := h2.all L' hL'
      obtain ⟨arr', el', a1, a2, a3⟩ := hl.lies
      have hB : L'.blk < w.heap.size := foot_lt hr (.inl ⟨b, Ls, L', h1, hL', rfl⟩)
      refine ⟨⟨arr', el', (hold _ hB).trans a1, a2, fun i hi hi' j hj => ?_⟩, hl.len, hl.fits, hl.sz, fun h => .inl (hl.own h), fun h hF => hl.free h ((hFold _ hB).1 hF)⟩
      obtain ⟨v, v1, v2, v3⟩ := a3 i hi hi' j hj
      exact ⟨v, v1, v2.keep keeps (hr.lt.blks b _ hb _ (List.getElem_mem hi) _ (List.getElem_mem hj)), v3⟩
  · rw [blk?_push] at hb
    split at hb
    · rename_i he
      injection hb with hb; injection hb with e1
      subst he; subst e1
      exact ⟨[L], hrho', ⟨L, #[], clock, rfl, .inr ⟨L, by simp, rfl⟩, hnew, rfl, fun i hi => by simp at hi⟩⟩
    · rename_i hne
      obtain ⟨Ls, h1, ⟨L', ces, clock, rfl, h3, h4, h5, h6⟩⟩ := hr.maps b es hb
      have hB : L'.blk < w.heap.size := foot_lt hr (.inl ⟨b, [L'], L', h1, by simp, rfl⟩)
      refine ⟨[L'], by rw [hrho b hne]; exact h1, ⟨L', ces, clock, rfl, .inl h3, (hold _ hB).trans h4, h5, fun i hi hj => ?_⟩⟩
      have hl := hr.lt.blks b _ hb _ (List.getElem_mem hi)
      exact ⟨(h6 i hi hj).1.keep keeps hl.1, (h6 i hi hj).2.keep keeps hl.2⟩
  · by_cases hb : b = h.blks.length
    · have h2' : E.ρ b' = some Ls' := by rw [← hrho b' (fun e => hne (hb.trans e.symm))]; exact h2
      have hB : L2.blk < w.heap.size := foot_lt hr (.inl ⟨b', Ls', L2, h2', m2, rfl⟩)
      rw [hb, hrho'] at h1
      injection h1 with h1; subst h1
      obtain rfl : L1 = L := by simpa using m1
      show w.heap.size ≠ _; omega
    · have h1' : E.ρ b = some Ls := by rw [← hrho b hb]; exact h1
      have hB : L1.blk < w.heap.size := foot_lt hr (.inl ⟨b, Ls, L1, h1', m1, rfl⟩)
      by_cases hb' : b' = h.blks.length
      · rw [hb', hrho'] at h2
        injection h2 with h2; subst h2
        obtain rfl : L2 = L := by simpa using m2
        show _ ≠ w.heap.size; omega
      · exact hr.apart b b' Ls Ls' L1 L2 hne h1' (by rw [← hrho b' hb']; exact h2) m1 m2 ((hFold _ hB).1 hF)
  · obtain ⟨o, h1, ⟨ct, df, fi, h2, h3⟩⟩ := hr.loops l r hl
    have hB : o < w.heap.size := foot_lt hr (.inr ⟨l, h1⟩)
    exact ⟨o, h1, ⟨ct, df, fi, (hold _ hB).trans h2, h3.keep keeps (hr.lt.loops l r hl)⟩⟩
  · exact hr.lt.push fun e he => by cases he
  · rcases hB with h | ⟨L', hL', rfl⟩
    · have := hr.inside B h; omega
    · obtain rfl : L' = L := by simpa using hL'
      show w.heap.size < _; omega

theorem hr_putmap {E : Env} {w w' : World} {h : Heap} (hr : HR E w h) {b : Nat} {es es' : List (AV × AV)} {L : Loc} {ces : Array MapEntry} {clock : Nat}
    (hb : h.blk? b = some (.mapb es)) (hLs : E.ρ b = some [L])
    (ho : w'.os = w.os) (hout : w'.output = w.output) (ht : w'.tape = w.tape) (hsize : w.heap.size ≤ w'.heap.size)
    (hold : ∀ B, B < w.heap.size → L.blk ≠ B → w'.heap[B]? = w.heap[B]?) (hnew : w'.heap[L.blk]? = some (.map ces clock)) (hlen : es'.length = ces.size)
    (hval : ∀ (i : Nat) (hi : i < es'.length) (hj : i < ces.size), VR E w es'[i].1 ces[i].key ∧ VR E w es'[i].2 ces[i].val)
    (hlt : (Blk.mapb es').Lt h.blks.length h.loops.length) :
    HR E w' (h.put b (.mapb es')) ∧ Ext h.blks.length h.loops.length E w E w' := by
  have hblt : b < h.blks.length := blk?_lt hb
  obtain ⟨Ls0, e0, ⟨L0, ces0, clock0, rfl, hF0, hw0, _, _⟩⟩ := hr.maps b es hb
  rw [hLs] at e0; injection e0 with e0; injection e0 with e0; subst e0
  have hBl : L.blk < w.heap.size := hr.inside _ hF0
  have keeps : Keeps h.blks.length h.loops.length E w E w' := by
    refine ⟨fun B o v hF hc => ?_, fun c hc Ls2 hLs2 => ⟨Ls2, hLs2, fun L hL => ⟨L, hL, rfl, rfl, rfl, rfl, Nat.le_refl _⟩⟩, fun _ _ _ h => h⟩
    have hB : B < w.heap.size := by
      rcases Nat.lt_or_ge B w.heap.size with h | h
      · exact h
      · simp [World.cell?, Array.getElem?_eq_none h] at hc
    refine ⟨hF, ?_⟩
    have := hold B hB (fun e => hF (e ▸ hF0))
    simp only [World.cell?, this] at hc ⊢; exact hc
  have hother : ∀ c Ls2 L2, c ≠ b → E.ρ c = some Ls2 → L2 ∈ Ls2 → L.blk ≠ L2.blk := fun c Ls2 L2 hc h1 h2 =>
    hr.apart b c [L] Ls2 L L2 (Ne.symm hc) hLs h1 (by simp) h2 hF0
  refine andx (B := Ext ..) ⟨keeps, hsize, ho, hout, ht, fun B hB hf => hold B hB (fun e => hf (.inl ⟨b, [L], L, hLs, by simp, e⟩)), fun B _ hF => .inl hF, fun _ _ h => h⟩ fun hx => ?_
  refine ⟨fun c hc => ?_, fun c rs2 g2 fz hc => ?_, fun c es2 hc => ?_, hr.apart, hr.deadl, fun l r hl => ?_, hr.lapart, ?_, fun B hB => Nat.lt_of_lt_of_le (hr.inside B hB) hsize, hr.globs.ext hx⟩
  · rw [blk?_put _ _ _ _ hblt] at hc
    split at hc
    · cases hc
    · exact hr.dead c hc
  · rw [blk?_put _ _ _ _ hblt] at hc
    split at hc
    · injection hc with hc; cases hc
    · rename_i hne
      obtain ⟨L2s, h1, h2⟩ := hr.rows c rs2 g2 fz hc
      refine ⟨L2s, h1, h2.one, h2.now, fun L' hL' => ?_, h2.apart⟩
      have hl := h2.all L' hL'
      obtain ⟨arr', el', a1, a2, a3⟩ := hl.lies
      have hB : L'.blk < w.heap.size := foot_lt hr (.inl ⟨c, L2s, L', h1, hL', rfl⟩)
      refine ⟨⟨arr', el', (hold _ hB (hother c L2s L' hne h1 hL')).trans a1, a2, fun i hi hi' j hj => ?_⟩, hl.len, hl.fits, hl.sz, hl.own, hl.free⟩
      obtain ⟨v, v1, v2, v3⟩ := a3 i hi hi' j hj
      exact ⟨v, v1, v2.keep keeps (hr.lt.blks c _ hc _ (List.getElem_mem hi) _ (List.getElem_mem hj)), v3⟩
  · rw [blk?_put _ _ _ _ hblt] at hc
    split at hc
    · rename_i he
      injection hc with hc; injection hc with e1
      subst he; subst e1
      refine ⟨[L], hLs, ⟨L, ces, clock, rfl, hF0, hnew, hlen, fun i hi hj => ?_⟩⟩
      have hl := hlt _ (List.getElem_mem hi)
      exact ⟨(hval i hi hj).1.keep keeps hl.1, (hval i hi hj).2.keep keeps hl.2⟩
    · rename_i hne
      obtain ⟨L2s, h1, ⟨L', ces', clock', rfl, h3, h4, h5, h6⟩⟩ := hr.maps c es2 hc
      have hB : L'.blk < w.heap.size := foot_lt hr (.inl ⟨c, [L'], L', h1, by simp, rfl⟩)
      refine ⟨[L'], h1, ⟨L', ces', clock', rfl, h3, (hold _ hB (hother c [L'] L' hne h1 (by simp))).trans h4, h5, fun i hi hj => ?_⟩⟩
      have hl := hr.lt.blks c _ hc _ (List.getElem_mem hi)
      exact ⟨(h6 i hi hj).1.keep keeps hl.1, (h6 i hi hj).2.keep keeps hl.2⟩
  · obtain ⟨o, h1, ⟨ct, df, fi, h2, h3⟩⟩ := hr.loops l r hl
    have hB : o < w.heap.size := foot_lt hr (.inr ⟨l, h1⟩)
    have hne : L.blk ≠ o := fun e => by rw [e, h2] at hw0; cases hw0
    exact ⟨o, h1, ⟨ct, df, fi, (hold _ hB hne).trans h2, h3.keep keeps (hr.lt.loops l r hl)⟩⟩
  · exact hr.lt.put hblt hlt

section maps
variable {P : Program} {E : Env} {w : World} {h : Heap}
theorem map_loc (hr : HR E w h) {b : Nat} {v : Value} (hv : VR E w (.mp b) v) {es : List (AV × AV)} (hb : h.blk? b = some (.mapb es)) :
    ∃ L ces clock, E.ρ b = some [L] ∧ v = .map (some L.blk) ∧ E.F L.blk ∧ w.heap[L.blk]? = some (.map ces clock) ∧ es.length = ces.size ∧
      ∀ (i : Nat) (hi : i < es.length) (hj : i < ces.size), VR E w es[i].1 ces[i].key ∧ VR E w es[i].2 ces[i].val := by
  obtain ⟨Ls, h1, ⟨L, ces, clock, rfl, h3, h4, h5, h6⟩⟩ := hr.maps b es hb
  cases hv with
  | mp _ r hrr =>
    obtain ⟨L', hL', e⟩ := hrr _ h1
    obtain rfl : L' = L := by simpa using hL'
    exact ⟨L', ces, clock, h1, by rw [e], h3, h4, h5, h6⟩

theorem run_getMap {r : Nat} {es : Array MapEntry} {clock : Nat} (h : w.heap[r]? = some (.map es clock)) : (getObj r).run P w = .ok (.map es clock) w := by
  simp [getObj, Sem.run, h]

end maps
end
end Go.Abs

namespace Go.Abs
noncomputable section
variable [Gl]

omit [Gl] in
theorem bytes_len (bs : ByteArray) : bs.data.toList.length = bs.size := Array.length_toList
theorem toList_loop (bs : ByteArray) : ∀ (n i : Nat) (r : List UInt8), bs.size - i = n → ByteArray.toList.loop bs i r = r.reverse ++ bs.data.toList.drop i
  | 0, i, r, h => by
    rw [ByteArray.toList.loop, if_neg (by omega)]
    have : bs.data.toList.drop i = [] := List.drop_eq_nil_of_le (by rw [bytes_len]; omega)
    rw [this, List.append_nil]
  | n + 1, i, r, h => by
    have hi : i < bs.size := by omega
    have hi' : i < bs.data.toList.length := by rw [bytes_len]; exact hi
    have hi'' : i < bs.data.size := hi
    rw [ByteArray.toList.loop, if_pos hi, toList_loop bs n (i + 1) _ (by omega), List.reverse_cons, List.append_assoc, List.singleton_append, List.drop_eq_getElem_cons hi']
    congr 2
    show bs.data[i]! = bs.data.toList[i]
    rw [getElem!_pos bs.data i hi'', Array.getElem_toList]
theorem toList_data (bs : ByteArray) : bs.toList = bs.data.toList := by
  unfold ByteArray.toList
  rw [toList_loop bs bs.size 0 [] (by omega)]
  rfl
theorem toList_bytes (s : List UInt8) : (⟨s.toArray⟩ : ByteArray).toList = s := by rw [toList_data]
omit [Gl] in
theorem size_bytes (s : List UInt8) : (⟨s.toArray⟩ : ByteArray).size = s.length := List.size_toArray

section ops
variable {P : Program} {T : Tab} {h : Heap} {E : Env} {w : World} {K : AV → Heap → Prop}

theorem ms_loc {b i len : Nat} {capo : Option Nat} {v : Value} (hr : HR E w h) (hv : VR E w (.ms b i len capo) v) {rs : List (List AV)} {g fz : Bool} (hb : h.blk? b = some (.rows rs g fz)) :
    ∃ Ls L c, E.ρ b = some Ls ∧ L ∈ Ls ∧ RowsAt E w Ls rs g fz ∧ i + len ≤ L.len ∧ len ≤ c ∧ L.off + (i + c) * L.sz ≤ L.n ∧ (∀ k, capo = some k → c = k) ∧ ∃ k, (c = 0 ∨ k = i) ∧ v = .slice (some ⟨L.blk, L.off + k * L.sz, none⟩) len c := by
  cases hv with
  | ms _ _ _ _ a l c hv =>
    obtain ⟨Ls, h1, h2⟩ := hr.rows b rs g fz hb
    obtain ⟨L, hL, h3, h4, h5, h6, ⟨k, hk, rfl⟩, rfl⟩ := hv Ls h1
    exact ⟨Ls, L, c, h1, hL, h2, h3, h4, h5, h6, k, hk, rfl⟩

theorem ms_pos {b i len : Nat} {capo : Option Nat} {v : Value} (hr : HR E w h) (hv : VR E w (.ms b i len capo) v) {rs : List (List AV)} {g fz : Bool} (hb : h.blk? b = some (.rows rs g fz)) (hp : 0 < len) :
    ∃ Ls L c, E.ρ b = some Ls ∧ L ∈ Ls ∧ RowsAt E w Ls rs g fz ∧ i + len ≤ L.len ∧ len ≤ c ∧ L.off + (i + c) * L.sz ≤ L.n ∧ (∀ k, capo = some k → c = k) ∧ v = .slice (some ⟨L.blk, L.off + i * L.sz, none⟩) len c := by
  obtain ⟨Ls, L, c, h1, hL, h2, h3, h4, h5, h6, k, hk, h7⟩ := ms_loc hr hv hb
  obtain rfl : k = i := by omega
  exact ⟨Ls, L, c, h1, hL, h2, h3, h4, h5, h6, h7⟩

theorem op_indexGlob (hT : TabOK P T) (hr : HR E w h) {t : TypeId} {g j : Nat} {ix : AV} {vx vi : Value} (hv : VR E w (.gp g j) vx) (hvi : VR E w ix vi)
    (hx : indexGlobW T t g j ix (fun r => K r h)) : VOK P h E w (Instr.indexAt t vx vi) K := by
  unfold indexGlobW at hx
  split at hx
  · rename_i ti k i ht
    cases hvi
    split at hx
    · rename_i n e hd
      split at hx
      · exact hx.elim
      · rename_i ei hei
        obtain ⟨⟨hi0, hi1⟩, hk⟩ := hx
        cases hv
        refine .val hr (v := .pointer (some ⟨g, j + i.toNat * ei.size, none⟩)) ?_ (.gp _ _) (.gp _ _) hk
        simp [Instr.indexAt, asIntOf, run_und hT ht, hd, Instr.sureAddr, run_sizeOf hT hei, hi0, hi1, Addr.add_none]
    · exact hx.elim
  · exact hx.elim

theorem op_indexMem (hT : TabOK P T) (hr : HR E w h) {t : TypeId} {x ix : AV} {vx vi : Value} (hv : VR E w x vx) (hvi : VR E w ix vi) (hl : Lt h.blks.length h.loops.length x)
    (hx : indexMemW T h t x ix (fun r => K r h)) : VOK P h E w (Instr.indexAt t vx vi) K := by
  unfold indexMemW at hx
  split at hx
  · rename_i ti k i ht
    cases hvi
    split at hx
    · rename_i e b s len capo hd
      split at hx
      · exact hx.elim
      · rename_i ei hei
        obtain ⟨⟨hi0, hi1⟩, hsz, hblk, hk⟩ := hx
        split at hblk
        · rename_i rs g fz hb
          obtain ⟨row, hrow, hrl⟩ := hblk
          obtain ⟨Ls, L, c, h1, hL, h2, h3, h4, h5, h6, rfl⟩ := ms_pos hr hv hb (by omega)
          obtain ⟨hsi, rfl⟩ := List.getElem?_eq_some_iff.1 hrow
          have hLsz : L.sz = ei.size := by rw [← (h2.all L hL).sz _ hsi]; exact hrl
          refine .val hr (v := .pointer (some ⟨L.blk, L.off + (s + i.toNat) * L.sz + 0, none⟩)) ?_ (.ptr _ _ _ _ fun Ls' hLs' => ?_) (by cases hl with | ms _ _ _ _ hl => exact .ptr _ _ _ hl) hk
          · have e : L.off + (s + i.toNat) * L.sz + 0 = L.off + s * L.sz + i.toNat * ei.size := by rw [hLsz, Nat.add_mul]; omega
            rw [e]
            simp [Instr.indexAt, asIntOf, run_und hT ht, hd, run_sizeOf hT hei, hi0, hi1, Addr.add_none]
          · rw [h1] at hLs'; injection hLs' with hLs'; subst hLs'
            exact ⟨L, hL, by omega, by omega, rfl⟩
        · exact hblk.elim
    · rename_i e es capo hd
      split at hx
      · exact hx.elim
      · rename_i ei hei
        obtain ⟨⟨hi0, hi1⟩, row, hrow, hrl, hk⟩ := hx
        cases hv with
        | vs _ _ B off cap sz vals hlen hcap hsz hF hh =>
          obtain ⟨hii, rfl⟩ := List.getElem?_eq_some_iff.1 hrow
          have hse : sz = ei.size := (hsz _ hii).symm.trans hrl
          refine .val hr (v := .pointer (some ⟨B, (off + i.toNat * sz) + 0, none⟩)) ?_ (.vp _ 0 B (off + i.toNat * sz) (vals i.toNat) (fun t ht' => ?_) (fun t ht' => hh _ hii _ ht')) ?_ hk
          · rw [Nat.add_zero, hse]
            simp [Instr.indexAt, asIntOf, run_und hT ht, hd, run_sizeOf hT hei, hi0, hi1, Addr.add_none]
          · exact hF _ hii _ ht'
          · cases hl with | vs _ _ hl => exact .vp _ _ fun t ht' => hl _ hii _ ht'
    · rename_i n e b r j hd
      split at hx
      · exact hx.elim
      · rename_i ei hei
        obtain ⟨⟨hi0, hi1⟩, hblk, hk⟩ := hx
        split at hblk
        · rename_i rs g fz hb
          split at hblk
          · rename_i row hrow
            cases hv with
            | ptr _ _ _ a hv =>
              obtain ⟨Ls, h1, h2⟩ := hr.rows b rs g fz hb
              obtain ⟨L, hL, h3, h4, rfl⟩ := hv Ls h1
              obtain ⟨hri, rfl⟩ := List.getElem?_eq_some_iff.1 hrow
              refine .val hr (v := .pointer (some ⟨L.blk, L.off + r * L.sz + j + i.toNat * ei.size, none⟩)) ?_ (.ptr _ _ _ _ fun Ls' hLs' => ?_) (by cases hl with | ptr _ _ _ hl => exact .ptr _ _ _ hl) hk
              · simp [Instr.indexAt, asIntOf, run_und hT ht, hd, Instr.sureAddr, run_sizeOf hT hei, hi0, hi1, Addr.add_none]
              · rw [h1] at hLs'; injection hLs' with hLs'; subst hLs'
                exact ⟨L, hL, h3, by rw [← (h2.all L hL).sz _ hri]; exact hblk, by rw [Nat.add_assoc]⟩
          · exact hblk.elim
        · exact hblk.elim
    · rename_i n e row j hd
      split at hx
      · exact hx.elim
      · rename_i ei hei
        obtain ⟨⟨hi0, hi1⟩, hk⟩ := hx
        cases hv with
        | vp _ _ B off vals hF hh =>
          refine .val hr (v := .pointer (some ⟨B, off + (j + i.toNat * ei.size), none⟩)) ?_ (.vp row _ B off vals hF hh) (by cases hl with | vp _ _ hl => exact .vp _ _ hl) hk
          rw [← Nat.add_assoc]
          simp [Instr.indexAt, asIntOf, run_und hT ht, hd, Instr.sureAddr, run_sizeOf hT hei, hi0, hi1, Addr.add_none]
    · exact hx.elim
  · exact hx.elim

theorem op_indexAddr (hT : TabOK P T) (hr : HR E w h) {t : TypeId} {x ix : AV} {vx vi : Value} (hv : VR E w x vx) (hvi : VR E w ix vi) (hl : Lt h.blks.length h.loops.length x)
    (hx : indexAddrW T h t x ix (fun r => K r h)) : VOK P h E w (Instr.indexAt t vx vi) K := by
  unfold indexAddrW at hx
  split at hx
  · exact op_indexGlob hT hr hv hvi hx
  · exact op_indexMem hT hr hv hvi hl hx

theorem op_index (hT : TabOK P T) (hr : HR E w h) {t : TypeId} {x ix : AV} {vx vi : Value} (hv : VR E w x vx) (hvi : VR E w ix vi) (hl : Lt h.blks.length h.loops.length x)
    (hx : indexW T t x ix (fun r => K r h)) : VOK P h E w (Instr.index t vx vi) K := by
  unfold indexW at hx
  split at hx
  · rename_i ti k i ht
    cases hvi
    split at hx
    · rename_i n e cs hd
      split at hx
      · exact hx.elim
      · rename_i ei hei
        obtain ⟨⟨hi0, hi1⟩, r, hp, hk⟩ := hx
        cases hv with
        | agg _ vs hs hv =>
          obtain ⟨v', h1, h2⟩ := part_agg hT hei hs hv hp
          refine .val hr (v := v') (r := r) ?_ h2 (lt_of_partA hp fun y hy => ?_) hk
          · simp [Instr.index, asIntOf, run_und hT ht, hd, run_sizeOf hT hei, hi0, hi1, h1]
          · cases hl with | agg _ hl => obtain ⟨i, hi, rfl⟩ := List.getElem_of_mem hy; exact hl i hi
    · rename_i s hd
      obtain ⟨hi0, c, hc, hk⟩ := hx
      cases hv
      refine .val hr (v := .int .u8 c.toNat) ?_ (.int _ _) (.int _ _) hk
      have e : (⟨s.toArray⟩ : ByteArray)[i.toNat]? = some c := by
        obtain ⟨hlt, rfl⟩ := List.getElem?_eq_some_iff.1 hc
        have hsz : i.toNat < (⟨s.toArray⟩ : ByteArray).size := by rw [size_bytes]; exact hlt
        have := getElem?_pos (⟨s.toArray⟩ : ByteArray) i.toNat hsz
        rw [this]
        rfl
      simp [Instr.index, asIntOf, run_und hT ht, hd, hi0, e]
    · exact hx.elim
  · exact hx.elim

theorem op_len (hT : TabOK P T) (hr : HR E w h) {t : TypeId} {x : AV} {v : Value} {ty : TypeId} (hv : VR E w x v) 
    (hx : lenW T h t x (fun r => K r h)) : VOK P h E w (Builtin.len_ #[t] ty #[v]) K := by
  unfold lenW at hx
  split at hx
  · exact hx.elim
  · rename_i ti ht
    split at hx
    · rename_i s hd
      cases hv
      exact .val hr (v := .int .i64 s.length) (by simp [Builtin.len_, run_und hT ht, hd, goInt, size_bytes]) (.int _ _) (.int _ _) hx
    · rename_i n e hd
      exact .val hr (v := .int .i64 n) (by show Sem.run P (underlying t >>= _) w = _; rw [Sem.run_bind, run_und hT ht, Result.andThen_ok, hd]; rfl) (.int _ _) (.int _ _) hx
    · rename_i e es capo hd
      cases hv
      exact .val hr (v := .int .i64 es.length) (by simp [Builtin.len_, run_und hT ht, hd, goInt]) (.int _ _) (.int _ _) hx
    · rename_i e b i len capo hd
      split at hx
      rotate_left
      · exact hx.elim
      rename_i rs g fz hb
      obtain ⟨Ls, L, c, h1, hL, h2, h3, h4, h5, h6, _, _, rfl⟩ := ms_loc hr hv hb
      exact .val hr (v := .int .i64 len) (by simp [Builtin.len_, run_und hT ht, hd, goInt]) (.int _ _) (.int _ _) hx
    · rename_i e hd
      cases hv
      exact .val hr (v := .int .i64 0) (by simp [Builtin.len_, run_und hT ht, hd, goInt]) (.int _ _) (.int _ _) hx
    · rename_i key el b hd
      split at hx
      rotate_left
      · exact hx.elim
      rename_i es hbl
      obtain ⟨L, ces, clock, e1, rfl, e2, e3, e4, e5⟩ := map_loc hr hv hbl
      exact .val hr (v := .int .i64 es.length) (by simp [Builtin.len_, run_und hT ht, hd, goInt, run_getMap e3, e4]) (.int _ _) (.int _ _) hx
    · exact hx.elim

theorem op_unary {op : UnOp} (hr : HR E w h) {x r : AV} {v : Value} (hv : VR E w x v) (hx : unA op x = some r) (hk : K r h) : VOK P h E w (Op.unary op v) K := by
  unfold unA at hx
  split at hx
  · injection hx with hx; subst hx
    cases hv
    exact .val hr (by simp [Op.unary, Op.intArith]) (.int _ _) (.int _ _) hk
  · injection hx with hx; subst hx
    cases hv
    exact .val hr (by simp [Op.unary, Op.intBits]) (.int _ _) (.int _ _) hk
  · injection hx with hx; subst hx
    cases hv
    exact .val hr (by simp [Op.unary]) (.bool _) (.bool _) hk
  · cases hx

theorem op_extract (hr : HR E w h) {x : AV} {v : Value} {i : Nat} {cs : List AV} {r : AV} (hv : VR E w (.tup cs) v) (hl : Lt h.blks.length h.loops.length (.tup cs)) (hx : cs[i]? = some r) (hk : K r h) :
    VOK P h E w (Instr.extract v i) K := by
  cases hv with
  | tup _ vs hs hv =>
    obtain ⟨hi, rfl⟩ := List.getElem?_eq_some_iff.1 hx
    refine .val hr (v := vs[i]'(hs ▸ hi)) ?_ (hv i hi (hs ▸ hi)) (by cases hl with | tup _ hl => exact hl i hi) hk
    simp [Instr.extract, Array.getElem?_eq_getElem (hs ▸ hi)]

theorem VOK.bool {b : Bool} {s : Sem Value} (hr : HR E w h) (hs : s.run P w = .ok (.bool b) w) (hk : K (.bool b) h) : VOK P h E w s K := .val hr hs (.bool _) (.bool _) hk
theorem VOK.int {k : IntKind} {n : Int} {s : Sem Value} (hr : HR E w h) (hs : s.run P w = .ok (.int k n) w) (hk : K (.int k n) h) : VOK P h E w s K := .val hr hs (.int _ _) (.int _ _) hk

theorem op_int {op : BinOp} {k : IntKind} {a b : Int} {t : TypeId} {r : AV} (hr : HR E w h) (hx : intA op k a b = some r) (hk : K r h) : VOK P h E w (binOp op t (.int k a) (.int k b)) K := by
  cases op <;> simp only [intA] at hx <;> first | (cases hx; done) | skip
  all_goals injection hx with hx; subst hx
  all_goals first
    | exact .int hr (by simp [binOp, Op.intArith, Op.intBits]) hk
    | exact .bool hr (by simp [binOp, Op.intCmp]) hk

end ops
end
end Go.Abs
