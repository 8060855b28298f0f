/-
  The abstract operations are the model's: new slices, append.
  Conditions: none.
-/
import Derived.Test.YthbpdiolceabhaaGreatDoorAbsOps5
import Derived.Laws.MakeOwn
import Derived.Laws.AppendOwn
set_option linter.unusedVariables false
set_option linter.unusedSimpArgs false
set_option linter.unusedSectionVars false
namespace Go.Abs
variable [Gl]

section ops
variable {P : Program} {T : Tab} {h : Heap} {E : Env} {w : World} {K : AV → Heap → Prop}

/-- Rows that lie flat in cells. -/
structure Flat (E : Env) (w : World) (size : Nat) (rs : List (List AV)) (cs : List Value) : Prop where
  len : cs.length = rs.length * size
  sz : ∀ (i : Nat) (hi : i < rs.length), rs[i].length = size
  val : ∀ (i : Nat) (hi : i < rs.length) (j : Nat) (hj : j < rs[i].length), ∃ v, cs[i * size + j]? = some v ∧ VR E w rs[i][j] v ∧ one v = true

omit [Gl] in
theorem Flat.one_mem {size : Nat} {rs : List (List AV)} {cs : List Value} (f : Flat E w size rs cs) : ∀ c ∈ cs, one c = true := by
  intro c hc
  obtain ⟨k, hk, rfl⟩ := List.getElem_of_mem hc
  rw [f.len] at hk
  have hs : 0 < size := by
    rcases Nat.eq_zero_or_pos size with h | h
    · subst h; simp at hk
    · exact h
  have hi : k / size < rs.length := Nat.div_lt_of_lt_mul (by rwa [Nat.mul_comm])
  have hj : k % size < (rs[k / size]).length := by rw [f.sz _ hi]; exact Nat.mod_lt _ hs
  obtain ⟨v, h1, _, h3⟩ := f.val _ hi _ hj
  rw [Nat.mul_comm, Nat.div_add_mod, List.getElem?_eq_getElem (by rw [f.len]; exact hk)] at h1
  injection h1 with h1
  exact h1 ▸ h3

omit [Gl] in
theorem index_lt {i j size n : Nat} (hi : i < n) (hj : j < size) : i * size + j < n * size := by
  have := Nat.mul_le_mul_right size (show i + 1 ≤ n from hi)
  rw [Nat.add_mul] at this
  omega

theorem Flat.append {size : Nat} {rs rs' : List (List AV)} {cs cs' : List Value} (f : Flat E w size rs cs) (f' : Flat E w size rs' cs') : Flat E w size (rs ++ rs') (cs ++ cs') := by
  have hsz : ∀ (i : Nat) (hi : i < (rs ++ rs').length), (rs ++ rs')[i].length = size := fun i hi => by
    rcases Nat.lt_or_ge i rs.length with h | h
    · rw [List.getElem_append_left h]; exact f.sz i h
    · rw [List.getElem_append_right h]; exact f'.sz _ _
  refine ⟨by simp [f.len, f'.len, Nat.add_mul], hsz, fun i hi j hj => ?_⟩
  have hjs : j < size := by rw [← hsz i hi]; exact hj
  rcases Nat.lt_or_ge i rs.length with h | h
  · have e : (rs ++ rs')[i][j] = rs[i][j]'(by rw [f.sz i h]; exact hjs) := by simp [List.getElem_append_left h]
    obtain ⟨v, v1, v2, v3⟩ := f.val i h j (by rw [f.sz i h]; exact hjs)
    refine ⟨v, ?_, by rw [e]; exact v2, v3⟩
    rw [List.getElem?_append_left (by rw [f.len]; exact index_lt h hjs)]; exact v1
  · have hi' : i - rs.length < rs'.length := by simp at hi; omega
    have e : (rs ++ rs')[i][j] = rs'[i - rs.length][j]'(by rw [f'.sz _ hi']; exact hjs) := by simp [List.getElem_append_right h]
    obtain ⟨v, v1, v2, v3⟩ := f'.val _ hi' j (by rw [f'.sz _ hi']; exact hjs)
    refine ⟨v, ?_, by rw [e]; exact v2, v3⟩
    have hle : cs.length ≤ i * size + j := by rw [f.len]; have := Nat.mul_le_mul_right size h; omega
    rw [List.getElem?_append_right hle, f.len]
    rw [show i * size + j - rs.length * size = (i - rs.length) * size + j from by rw [Nat.sub_mul]; have := Nat.mul_le_mul_right size h; omega]
    exact v1

/-- The rows of a block, from a place on, lie flat in its cells. -/
theorem flat_window {L : Loc} {rs : List (List AV)} {fz : Bool} {i len size : Nat} (hl : LocAt E w L rs fz) (hi : i + len ≤ L.len) (hsz : L.sz = size) :
    ∃ cs, Flat E w size ((rs.drop i).take len) cs ∧ ∀ (k : Nat) (v : Value), cs[k]? = some v → w.cell? ⟨L.blk, L.off + i * L.sz + k, none⟩ = some v := by
  obtain ⟨arr, el, a1, a2, a3⟩ := hl.lies
  have hrl := hl.len
  have hwl : ((rs.drop i).take len).length = len := by simp; omega
  have hfit := hl.fits
  have hmul : (i + len) * L.sz ≤ L.len * L.sz := Nat.mul_le_mul_right _ hi
  rw [Nat.add_mul] at hmul
  refine ⟨(arr.toList.drop (L.off + i * L.sz)).take (len * size), ⟨?_, fun t ht => ?_, fun t ht j hj => ?_⟩, fun k v hk => ?_⟩
  · rw [hwl]; simp; subst hsz; omega
  · rw [hwl] at ht
    have e : ((rs.drop i).take len)[t]'(by rw [hwl]; exact ht) = rs[i + t]'(by omega) := by simp
    rw [e, ← hsz]; exact hl.sz _ _
  · rw [hwl] at ht
    have e : ((rs.drop i).take len)[t]'(by rw [hwl]; exact ht) = rs[i + t]'(by omega) := by simp
    have hj' : j < (rs[i + t]'(by omega)).length := by rw [← e]; exact hj
    obtain ⟨v, v1, v2, v3⟩ := a3 (i + t) (by omega) (by omega) j hj'
    have hjs : j < size := by rw [← hsz, ← hl.sz (i + t) (by omega)]; exact hj'
    refine ⟨v, ?_, ?_, v3⟩
    · rw [List.getElem?_take, if_pos (index_lt ht hjs), List.getElem?_drop, Array.getElem?_toList]
      rw [show L.off + i * L.sz + (t * size + j) = L.off + (i + t) * L.sz + j from by rw [Nat.add_mul, hsz]; omega]
      exact v1
    · have e2 : ((rs.drop i).take len)[t][j] = (rs[i + t]'(by omega))[j]'hj' := by simp
      rw [e2]; exact v2
  · rw [List.getElem?_take] at hk
    split at hk
    · rw [List.getElem?_drop, Array.getElem?_toList] at hk
      simp only [World.cell?, a1]
      simpa using hk
    · cases hk

theorem run_firstCells {B o size n len cap : Nat} {cs : List Value} (hl : cs.length = n * size) (hc : ∀ (k : Nat) (v : Value), cs[k]? = some v → w.cell? ⟨B, o + k, none⟩ = some v) :
    (Builtin.firstCells size n (.slice (some ⟨B, o, none⟩) len cap)).run P w = .ok cs.toArray w :=
  run_firstCells_some (P := P) w size n ⟨B, o, none⟩ len cap cs hl fun j v hj => by rw [Addr.add_none]; exact hc j v hj

/-- What an append adds: its rows, flat. -/
theorem rows_flat (hr : HR E w h) {x : AV} {v : Value} {new : List (List AV)} {size : Nat} (hv : VR E w x v) (hx : rowsOf h x = some new) (hs : ∀ row ∈ new, row.length = size ∧ row.all okc = true) (hpos : 0 < size)
    (hstr : (∃ s, x = .str s) → size = 1) :
    ∃ cs, Flat E w size new cs ∧ (Builtin.lenOf v).run P w = .ok new.length w ∧ (∀ w', w'.heap = w.heap → (Builtin.firstCells size new.length v).run P w' = .ok cs.toArray w') := by
  unfold rowsOf at hx
  split at hx
  · rename_i es capo
    injection hx with hx; subst hx
    cases hv with
    | vs _ _ B off cap sz vals hlen hcap hsz hF hh =>
      by_cases he : es.length = 0
      · have : es = [] := List.eq_nil_of_length_eq_zero he
        subst this
        exact ⟨[], ⟨by simp, fun i hi => by simp at hi, fun i hi => by simp at hi⟩, by simp [Builtin.lenOf], fun w' _ => run_firstCells (by simp) (fun k v hk => by simp at hk)⟩
      · have hss : sz = size := by
          have h0 : 0 < es.length := by omega
          rw [← hsz 0 h0]; exact (hs _ (List.getElem_mem h0)).1
        subst hss
        have hval : ∀ (i : Nat) (hi : i < es.length) (j : Nat) (hj : j < es[i].length), ((List.range (es.length * sz)).map fun k => vals (k / sz) (k % sz))[i * sz + j]? = some (vals i j) := fun i hi j hj => by
          have hj' : j < sz := by rw [← hsz i hi]; exact hj
          rw [List.getElem?_map, List.getElem?_range (index_lt hi hj')]
          have e1 : (i * sz + j) / sz = i := by rw [Nat.add_comm, Nat.add_mul_div_right _ _ hpos, Nat.div_eq_of_lt hj', Nat.zero_add]
          have e2 : (i * sz + j) % sz = j := by rw [Nat.add_comm, Nat.add_mul_mod_self_right, Nat.mod_eq_of_lt hj']
          simp [e1, e2]
        refine ⟨(List.range (es.length * sz)).map fun k => vals (k / sz) (k % sz), ⟨by simp, hsz, fun i hi j hj => ⟨vals i j, hval i hi j hj, hh i hi j hj, one_of_okc (hh i hi j hj) ?_⟩⟩, by simp [Builtin.lenOf], fun w' hw' => run_firstCells (by simp) (fun k v hk => ?_)⟩
        · exact List.all_eq_true.1 (hs _ (List.getElem_mem hi)).2 _ (List.getElem_mem hj)
        · rw [List.getElem?_map] at hk
          have hklt : k < es.length * sz := by
            rcases Nat.lt_or_ge k (es.length * sz) with h | h
            · exact h
            · rw [List.getElem?_eq_none (by simpa using h)] at hk; cases hk
          rw [List.getElem?_range hklt] at hk
          injection hk with hk; subst hk
          have hi : k / sz < es.length := Nat.div_lt_of_lt_mul (by rwa [Nat.mul_comm])
          have hj : k % sz < (es[k / sz]).length := by rw [hsz _ hi]; exact Nat.mod_lt _ hpos
          have := (hF _ hi _ hj).2
          rw [Nat.add_assoc, Nat.mul_comm (k / sz), Nat.div_add_mod] at this
          simp only [World.cell?, hw'] at this ⊢
          exact this
  · injection hx with hx; subst hx
    cases hv
    exact ⟨[], ⟨by simp, fun i hi => by simp at hi, fun i hi => by simp at hi⟩, by simp [Builtin.lenOf], fun w' _ => by simp [Builtin.firstCells]⟩
  · rename_i s
    injection hx with hx; subst hx
    cases hv
    have h1 : size = 1 := hstr ⟨s, rfl⟩
    subst h1
    refine ⟨s.map fun c => .int .u8 c.toNat, ⟨by simp, fun i hi => by simp, fun i hi j hj => ?_⟩, by simp [Builtin.lenOf, size_bytes], fun w' _ => ?_⟩
    · have hi' : i < s.length := by simpa using hi
      have hj0 : j = 0 := by simpa using hj
      subst hj0
      exact ⟨.int .u8 s[i].toNat, by simp [hi'], by simp; exact .int _ _, rfl⟩
    · simp only [Builtin.firstCells, List.length_map]
      rw [extract_bytes]
      simp
  · rename_i b i len capo
    split at hx
    · rename_i rs g fz hb
      split at hx
      · rename_i hle
        injection hx with hx; subst hx
        obtain ⟨Ls, L, c, g1, hL, g2, g3, g4, g5, g6, rfl⟩ := ms_loc hr hv hb
        have hla := g2.all L hL
        have hwl : ((rs.drop i).take len).length = len := by simp; omega
        by_cases hz : len = 0
        · subst hz
          refine ⟨[], ⟨by simp, fun i hi => by simp at hi, fun i hi => by simp at hi⟩, by simp [Builtin.lenOf], fun w' _ => ?_⟩
          exact run_firstCells (by simp) (fun k v hk => by simp at hk)
        · have hLs : L.sz = size := by
            have hi0 : i < rs.length := by have := hla.len; omega
            rw [← hla.sz i hi0]
            refine (hs rs[i] ?_).1
            have : ((rs.drop i).take len)[0]'(by omega) = rs[i] := by simp
            rw [← this]; exact List.getElem_mem _
          obtain ⟨cs, f, hc⟩ := flat_window hla (by omega) hLs (i := i) (len := len)
          refine ⟨cs, f, by rw [hwl]; simp [Builtin.lenOf], fun w' hw' => run_firstCells f.len fun k v hk => ?_⟩
          have := hc k v hk
          simp only [World.cell?, hw'] at this ⊢
          exact this
      · cases hx
    · cases hx
  · cases hx

end ops
end Go.Abs
