/-
  The abstract operations are the model's: stores, new variables, literals.
  Conditions: none.
-/
import Derived.Test.YthbpdiolceabhaaGreatDoorAbsOps4
set_option linter.unusedVariables false
set_option linter.unusedSimpArgs false
set_option linter.unusedSectionVars false
namespace Go.Abs
variable [Gl]

section ops
variable {P : Program} {T : Tab} {h : Heap} {E : Env} {w : World} {K : AV → Heap → Prop}

/-- The cells of a value. -/
theorem cells_VR {x : AV} {v : Value} (hx : VR E w x v) (ho : (cellsA x).all okc = true) : v.cells.size = (cellsA x).length ∧
    ∀ (i : Nat) (hi : i < (cellsA x).length) (hj : i < v.cells.size), VR E w (cellsA x)[i] v.cells[i] ∧ one v.cells[i] = true := by
  have single : ∀ {x : AV} {v : Value}, VR E w x v → okc x = true → cellsA x = [x] ∧ v.cells = #[v] := by
    intro x v hx ho
    cases hx <;> first | (exact ⟨rfl, rfl⟩) | (simp [okc] at ho)
  cases x
  case agg cs =>
    cases hx with
    | agg _ vs hs hv =>
      refine ⟨hs.symm, fun i hi hj => ⟨hv i hi hj, one_of_okc (hv i hi hj) ?_⟩⟩
      have := List.all_eq_true.1 ho cs[i] (List.getElem_mem hi)
      exact this
  all_goals
    first
      | (obtain ⟨e1, e2⟩ := single hx (by simpa [cellsA] using ho)
         rw [e1, e2]
         refine ⟨rfl, fun i hi hj => ?_⟩
         have hi0 : i = 0 := by simpa using hi
         subst hi0
         exact ⟨hx, one_of_okc hx (by simpa [cellsA] using ho)⟩)
      | (simp [cellsA, okc] at ho)

theorem one_mem {x : AV} {v : Value} (hx : VR E w x v) (ho : (cellsA x).all okc = true) : ∀ c ∈ v.cells.toList, one c = true := by
  intro c hc
  obtain ⟨i, hi, rfl⟩ := List.getElem_of_mem hc
  have hi' : i < v.cells.size := by simpa using hi
  obtain ⟨e, h⟩ := cells_VR hx ho
  rw [Array.getElem_toList]
  exact (h i (e ▸ hi') hi').2

omit [Gl] in
theorem cells_lt {n m : Nat} {x : AV} (hl : Lt n m x) : ∀ y ∈ cellsA x, Lt n m y := by
  intro y hy
  cases hl with
  | agg cs hl => obtain ⟨i, hi, rfl⟩ := List.getElem_of_mem hy; exact hl i hi
  | _ =>
    obtain rfl : y = _ := by simpa [cellsA] using hy
    constructor <;> assumption

/-- A STORE. -/
theorem op_store (hT : TabOK P T) (hr : HR E w h) {t : TypeId} {x v : AV} {vx vv : Value} (hx : VR E w x vx) (hv : VR E w v vv) (hlv : Lt h.blks.length h.loops.length v) {h' : Heap} (hs : storeA T h t x v = some h') :
    ∃ E' w', (Instr.storeAt t vx vv).run P w = .ok () w' ∧ HR E' w' h' ∧ Ext h.blks.length h.loops.length E w E' w' ∧ h'.blks.length = h.blks.length ∧ h'.loops.length = h.loops.length := by
  unfold storeA at hs
  split at hs
  · cases hs
  · rename_i ti ht
    split at hs
    · rename_i b i j
      split at hs
      · rename_i rs hb
        split at hs
        · rename_i row hrow
          split at hs
          · rename_i hc
            simp only [Bool.and_eq_true, beq_iff_eq, Nat.ble_eq] at hc
            obtain ⟨⟨ho, hlen⟩, hfit⟩ := hc
            injection hs with hs; subst hs
            obtain ⟨hcs, hcv⟩ := cells_VR hv ho
            obtain ⟨Ls, h1, h2⟩ := hr.rows b rs false false hb
            obtain ⟨L, rfl⟩ := h2.one rfl
            have hla := h2.all L (by simp)
            obtain ⟨arr, el, a1, a2, a3⟩ := hla.lies
            have hLlen : L.len = rs.length := by
              obtain ⟨L', hL', e⟩ := h2.now
              obtain rfl : L' = L := by simpa using hL'
              exact e
            obtain ⟨hi, rfl⟩ := List.getElem?_eq_some_iff.1 hrow
            have hsz : rs[i].length = L.sz := hla.sz i hi
            cases hx with
            | ptr _ _ _ a hx =>
              obtain ⟨L', hL', _, _, rfl⟩ := hx [L] h1
              obtain rfl : L' = L := by simpa using hL'
              have hB : L'.blk < w.heap.size := foot_lt hr (.inl ⟨b, [L'], L', h1, by simp, rfl⟩)
              have hmul : (i + 1) * L'.sz ≤ rs.length * L'.sz := Nat.mul_le_mul_right _ hi
              have hend : L'.off + i * L'.sz + L'.sz ≤ arr.size := by
                have := hla.fits
                rw [hLlen] at this
                rw [Nat.add_mul] at hmul
                omega
              obtain ⟨w', r1, r2, r3, r4, r5⟩ := run_storeCells (P := P) (B := L'.blk) (off := L'.off + i * L'.sz + j) (el := el) vv.cells.toList 0 arr w a1 (one_mem hv ho) (by simp [hcs, hlen]; omega)
              rw [Nat.add_zero] at r2
              have hheap : ∀ B, B ≠ L'.blk → w'.heap[B]? = w.heap[B]? := fun B hB => by rw [r2, Array.getElem?_setIfInBounds_ne (Ne.symm hB)]
              have hat : w'.heap[L'.blk]? = some (.cells (setMany arr (L'.off + i * L'.sz + j) vv.cells.toList) el (0, 0)) := by rw [r2, Array.getElem?_setIfInBounds_self_of_lt hB]
              have hsize : w'.heap.size = w.heap.size := by rw [r2]; simp
              have hch := hr_change (E := E) (w := w) (w' := w') hr (b := b) (rs := rs) (rs' := rs.set i (rs[i].take j ++ cellsA v ++ rs[i].drop (j + ti.size))) (g := false) (g' := false) (Ls := [L']) (Ls' := [L'])
                hb h1 r3 r4 r5 (by omega) (fun B _ hne => hheap B (fun e => hne L' (by simp) e.symm))
                (fun L2 hL2 => by
                  obtain rfl : L2 = L' := (by simpa using hL2)
                  exact ⟨by omega, .inl ⟨L2, by simp, rfl⟩⟩)
                (fun L2 hL2 => ⟨L2, hL2, rfl, rfl, rfl, rfl, Nat.le_refl _⟩)
                (fun keeps => by
                  refine ⟨fun _ => ⟨L', rfl⟩, ⟨L', by simp, by simpa using hLlen⟩, fun L2 hL2 => ?_, by simp⟩
                  obtain rfl : L2 = L' := by simpa using hL2
                  have hnl : (rs[i].take j ++ cellsA v ++ rs[i].drop (j + ti.size)).length = L2.sz := by
                    simp only [List.length_append, List.length_take, List.length_drop, hlen]; omega
                  refine ⟨⟨_, el, hat, by rw [setMany_size]; exact a2, fun i' hi' hl' j' hj' => ?_⟩, by simpa using hla.len, hla.fits, fun i' hi' => ?_, fun _ => .inl (hla.own rfl), fun h => by cases h⟩
                  · have hi2 : i' < rs.length := by simpa using hi'
                    have hvl : vv.cells.toList.length = ti.size := by simp [hcs, hlen]
                    rw [setMany_get _ _ _ _ (by rw [hvl]; omega), hvl]
                    by_cases hii : i' = i
                    · subst hii
                      have e0 : (rs.set i' (rs[i'].take j ++ cellsA v ++ rs[i'].drop (j + ti.size)))[i'] = rs[i'].take j ++ cellsA v ++ rs[i'].drop (j + ti.size) := by simp
                      have hj2 : j' < L2.sz := by rw [← hnl, ← e0]; exact hj'
                      by_cases hin : j ≤ j' ∧ j' < j + ti.size
                      · rw [if_pos (by omega)]
                        have hk : j' - j < (cellsA v).length := by omega
                        have hk' : j' - j < vv.cells.size := by omega
                        obtain ⟨c1, c2⟩ := hcv (j' - j) hk hk'
                        refine ⟨vv.cells[j' - j], ?_, ?_, c2⟩
                        · rw [show L2.off + i' * L2.sz + j' - (L2.off + i' * L2.sz + j) = j' - j from by omega]
                          simp [hk']
                        · have e : (rs.set i' (rs[i'].take j ++ cellsA v ++ rs[i'].drop (j + ti.size)))[i'][j'] = (cellsA v)[j' - j] := by
                            simp only [e0]
                            have hmin : min j rs[i'].length = j := by omega
                            rw [List.getElem_append_left (by simp only [List.length_append, List.length_take]; omega), List.getElem_append_right (by simp only [List.length_take]; omega)]
                            simp only [List.length_take, hmin]
                          rw [e]
                          exact c1.keep keeps (cells_lt hlv _ (List.getElem_mem hk))
                      · rw [if_neg (by omega)]
                        obtain ⟨u, u1, u2, u3⟩ := a3 i' hi2 (by omega) j' (by omega)
                        refine ⟨u, u1, ?_, u3⟩
                        have e : (rs.set i' (rs[i'].take j ++ cellsA v ++ rs[i'].drop (j + ti.size)))[i'][j'] = rs[i'][j'] := by
                          simp only [e0]
                          by_cases hlo : j' < j
                          · rw [List.getElem_append_left (by simp only [List.length_append, List.length_take]; omega), List.getElem_append_left (by simp only [List.length_take]; omega)]
                            simp
                          · rw [List.getElem_append_right (by simp only [List.length_append, List.length_take]; omega)]
                            simp only [List.getElem_drop]
                            congr 1
                            simp only [List.length_append, List.length_take, hlen]; omega
                        rw [e]
                        exact u2.keep keeps (hr.lt.blks b _ hb _ (List.getElem_mem hi2) _ (List.getElem_mem _))
                    · have e0 : (rs.set i (rs[i].take j ++ cellsA v ++ rs[i].drop (j + ti.size)))[i'] = rs[i'] := by simp [Ne.symm hii]
                      have hj2 : j' < rs[i'].length := by rw [← e0]; exact hj'
                      have hs2 := hla.sz i' hi2
                      have hout : ¬ (L2.off + i * L2.sz + j ≤ L2.off + i' * L2.sz + j' ∧ L2.off + i' * L2.sz + j' < L2.off + i * L2.sz + j + ti.size) := by
                        rcases Nat.lt_or_gt_of_ne hii with hlt | hgt
                        · have := Nat.mul_le_mul_right L2.sz (show i' + 1 ≤ i from hlt)
                          rw [Nat.add_mul] at this
                          omega
                        · have := Nat.mul_le_mul_right L2.sz (show i + 1 ≤ i' from hgt)
                          rw [Nat.add_mul] at this
                          omega
                      rw [if_neg hout]
                      obtain ⟨u, u1, u2, u3⟩ := a3 i' hi2 (by omega) j' hj2
                      refine ⟨u, u1, ?_, u3⟩
                      have e : (rs.set i (rs[i].take j ++ cellsA v ++ rs[i].drop (j + ti.size)))[i'][j'] = rs[i'][j'] := by simp only [e0]
                      rw [e]
                      exact u2.keep keeps (hr.lt.blks b _ hb _ (List.getElem_mem hi2) _ (List.getElem_mem _))
                  · have hi2 : i' < rs.length := by simpa using hi'
                    rw [List.getElem_set]
                    split
                    · exact hnl
                    · exact hla.sz i' hi2)
                (fun r hr' y hy => by
                  rcases List.mem_or_eq_of_mem_set hr' with hm | rfl
                  · exact hr.lt.blks b _ hb r hm y hy
                  · simp only [List.mem_append] at hy
                    rcases hy with (hy | hy) | hy
                    · exact hr.lt.blks b _ hb _ (List.getElem_mem hi) y (List.mem_of_mem_take hy)
                    · exact cells_lt hlv y hy
                    · exact hr.lt.blks b _ hb _ (List.getElem_mem hi) y (List.mem_of_mem_drop hy))
              refine ⟨_, w', ?_, hch.1, hch.2, by simp [Heap.put], rfl⟩
              simp only [Instr.storeAt, Instr.sureAddr, Sem.run_bind, Sem.run_pure, Result.andThen_ok, storeVar, run_sizeOf hT ht, hcs, hlen, ne_eq, not_true, if_false]
              exact r1
          · cases hs
        · cases hs
      · cases hs
    · cases hs

/-- A NEW VARIABLE that holds these cells. -/
theorem new_var (hr : HR E w h) {e : TypeId} {cs : List AV} {arr : Array Value} (hs : arr.size = cs.length) (hpos : 0 < cs.length)
    (hv : ∀ (i : Nat) (hi : i < cs.length) (hj : i < arr.size), VR E w cs[i] arr[i] ∧ one arr[i] = true) (hl : ∀ x ∈ cs, Lt h.blks.length h.loops.length x)
    (hk : K (.ptr h.blks.length 0 0) (h.push (.rows [cs] false false))) {s : Sem Value} (hrun : s.run P w = .ok (.pointer (some ⟨w.heap.size, 0, none⟩)) { w with heap := w.heap.push (.cells arr e) }) : VOK P h E w s K := by
  obtain ⟨p1, p2⟩ := hr_push (E := E) (w := w) (w' := { w with heap := w.heap.push (.cells arr e) }) hr (arr := arr) (el := e) (rs := [cs]) (g := false) (sz := cs.length) rfl rfl rfl rfl
    (fun i hi => by
      have : i = 0 := by simpa using hi
      subst this; rfl) (by simp; omega)
    (fun i hi j hj => by
      have : i = 0 := by simpa using hi
      subst this
      have hj' : j < cs.length := hj
      obtain ⟨a, b⟩ := hv j hj' (by omega)
      exact ⟨arr[j]'(by omega), by simp [show j < arr.size from by omega], a, b⟩)
    (fun r hr' x hx => by
      obtain rfl : r = cs := by simpa using hr'
      exact hl x hx)
  refine ⟨_, _, _, _, _, hrun, hk, .ptr _ _ _ _ fun Ls hLs => ?_, p1, .ptr _ _ _ (by simp [Heap.push]), by simp [Heap.push], Nat.le_refl _, p2⟩
  have e0 : (E.with h.blks.length [⟨w.heap.size, 0, cs.length, arr.size, 1⟩]).ρ h.blks.length = some [⟨w.heap.size, 0, cs.length, arr.size, 1⟩] := by
    show (if _ then _ else _) = _; rw [if_pos rfl]
  have e1 : some Ls = some [⟨w.heap.size, 0, cs.length, arr.size, 1⟩] := hLs.symm.trans e0
  injection e1 with e1; subst e1
  exact ⟨⟨w.heap.size, 0, cs.length, arr.size, 1⟩, List.mem_singleton.2 rfl, Nat.zero_lt_one, hpos, by simp⟩

theorem op_box (hr : HR E w h) {e : TypeId} {x : AV} {v : Value} (hv : VR E w x v) (hl : Lt h.blks.length h.loops.length x) (hb : boxW T h e x K) : VOK P h E w (Instr.box e v) K := by
  unfold boxW at hb
  split at hb
  · exact hb.elim
  · rename_i ei hei
    obtain ⟨⟨h1, h2, h3⟩, hk⟩ := hb
    obtain ⟨hs, hc⟩ := cells_VR hv h3
    exact new_var hr (e := e) (arr := v.cells) hs (by omega) hc (cells_lt hl) hk (by simp [Instr.box, newVar, newRow])

theorem zero_VR {z : Value} {l : List AV} (h1 : z.cells.toList.map ofV = l) : ∀ (i : Nat) (hi : i < l.length) (hj : i < z.cells.size), VR E w l[i] z.cells[i] := by
  intro i hi hj
  subst h1
  simp only [List.getElem_map, Array.getElem_toList]
  exact ofV_VR _ _ _

theorem zero_Lt {n m : Nat} {z : Value} {l : List AV} (h1 : z.cells.toList.map ofV = l) : ∀ x ∈ l, Lt n m x := by
  subst h1
  intro x hx
  obtain ⟨v, _, rfl⟩ := List.mem_map.1 hx
  exact ofV_Lt _ _ _

theorem op_alloc (hT : TabOK P T) (hr : HR E w h) {e : TypeId} (hb : allocW T h e K) : VOK P h E w (Instr.alloc e true (.tuple #[])) K := by
  unfold allocW at hb
  split at hb
  · exact hb.elim
  · rename_i ei hei
    obtain ⟨⟨h1, h2⟩, hk⟩ := hb
    obtain ⟨z, z1, z2, z3, z4⟩ := run_zero (w := w) hT hei
    have hlen : ei.zero.length = z.cells.size := by rw [← z2]; simp
    exact new_var hr (e := e) (arr := z.cells) hlen.symm (by omega) (fun i hi hj => ⟨zero_VR z2 i hi hj, z4 _ (by simp)⟩) (zero_Lt z2) hk (by simp [Instr.alloc, newVar, newRow, z1])

end ops
end Go.Abs
