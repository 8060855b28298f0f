/-
  Steps to a law of this program: SIns2.
  Conditions: none.
-/
import Derived.Test.YtcgnfpojjjkakaaGreatDoorB26
import Derived.Test.YtcgnfpojjjkakaaGreatDoorB22
set_option linter.unusedVariables false
set_option linter.unusedSimpArgs false
set_option linter.unusedSectionVars false
namespace Go.Abs
noncomputable section
open Go.Proofs

theorem setCells_heap : ∀ (vs : List Value) (w : World) (B o : Nat) (arr : Array Value) (el : TypeId), w.heap[B]? = some (.cells arr el (0, 0)) →
    (w.setCells B o vs).heap = w.heap.setIfInBounds B (.cells (setMany arr o vs) el (0, 0)) ∧ (w.setCells B o vs).os = w.os ∧ (w.setCells B o vs).output = w.output ∧ (w.setCells B o vs).tape = w.tape
  | [], w, B, o, arr, el, h => by
    refine ⟨?_, rfl, rfl, rfl⟩
    show w.heap = w.heap.setIfInBounds B (.cells arr el (0, 0))
    apply Array.ext_getElem?
    intro j
    by_cases hj : j = B
    · subst hj
      have hlt : j < w.heap.size := by
        rcases Nat.lt_or_ge j w.heap.size with h' | h'
        · exact h'
        · rw [Array.getElem?_eq_none h'] at h; cases h
      rw [Array.getElem?_setIfInBounds_self_of_lt hlt, h]
    · rw [Array.getElem?_setIfInBounds_ne (Ne.symm hj)]
  | v :: r, w, B, o, arr, el, h => by
    have hlt : B < w.heap.size := by
      rcases Nat.lt_or_ge B w.heap.size with h' | h'
      · exact h'
      · rw [Array.getElem?_eq_none h'] at h; cases h
    have h1 := setCell_heap w B o v arr el h
    have h2 : (w.setCell ⟨B, o, none⟩ v).heap[B]? = some (.cells (arr.setIfInBounds o v) el (0, 0)) := by rw [h1, Array.getElem?_setIfInBounds_self_of_lt hlt]
    obtain ⟨k1, k2, k3, k4⟩ := setCells_heap r (w.setCell ⟨B, o, none⟩ v) B (o + 1) (arr.setIfInBounds o v) el h2
    refine ⟨?_, k2, k3, k4⟩
    show ((w.setCell ⟨B, o, none⟩ v).setCells B (o + 1) r).heap = _
    rw [k1, h1]
    apply Array.ext_getElem?
    intro j
    by_cases hj : j = B
    · subst hj
      rw [Array.getElem?_setIfInBounds_self_of_lt (by simpa using hlt), Array.getElem?_setIfInBounds_self_of_lt hlt]
      rfl
    · rw [Array.getElem?_setIfInBounds_ne (Ne.symm hj), Array.getElem?_setIfInBounds_ne (Ne.symm hj), Array.getElem?_setIfInBounds_ne (Ne.symm hj)]

variable {E : Env} {w : World}
theorem Flat.take {size : Nat} {rs : List (List AV)} {cs : List Value} (f : Flat E w size rs cs) (i : Nat) (hi : i ≤ rs.length) : Flat E w size (rs.take i) (cs.take (i * size)) := by
  have hm : i * size ≤ rs.length * size := Nat.mul_le_mul_right _ hi
  have hl := f.len
  refine ⟨by rw [List.length_take, List.length_take, Nat.min_eq_left hi, Nat.min_eq_left (by omega)], fun k hk => ?_, fun k hk j hj => ?_⟩
  · rw [List.getElem_take]; exact f.sz k (by rw [List.length_take] at hk; omega)
  · have hk' : k < rs.length := by rw [List.length_take] at hk; omega
    have hki : k < i := by rw [List.length_take] at hk; omega
    have e : (rs.take i)[k] = rs[k] := List.getElem_take
    have hj' : j < rs[k].length := by rw [← e]; exact hj
    obtain ⟨v, v1, v2, v3⟩ := f.val k hk' j hj'
    refine ⟨v, ?_, by simp only [e]; exact v2, v3⟩
    have hjs : j < size := by rw [← f.sz k hk']; exact hj'
    rw [List.getElem?_take_of_lt (index_lt hki hjs)]; exact v1

theorem Flat.drop {size : Nat} {rs : List (List AV)} {cs : List Value} (f : Flat E w size rs cs) (i : Nat) : Flat E w size (rs.drop i) (cs.drop (i * size)) := by
  have hl := f.len
  refine ⟨by rw [List.length_drop, List.length_drop, hl, Nat.sub_mul], fun k hk => ?_, fun k hk j hj => ?_⟩
  · rw [List.getElem_drop]; exact f.sz _ _
  · have hk' : i + k < rs.length := by rw [List.length_drop] at hk; omega
    have e : (rs.drop i)[k] = rs[i + k] := List.getElem_drop
    have hj' : j < rs[i + k].length := by rw [← e]; exact hj
    obtain ⟨v, v1, v2, v3⟩ := f.val (i + k) hk' j hj'
    refine ⟨v, ?_, by simp only [e]; exact v2, v3⟩
    rw [List.getElem?_drop, ← v1]
    congr 1
    rw [Nat.add_mul]; omega

theorem one_cell' {v : Value} (h : one v = true) : v.oneCell' = true := by
  cases v <;> first | rfl | (simp [one] at h)

theorem path_info : ∃ (z : Value) (i0 : TypeInfo), Tryz.prog.info? 123 = some i0 ∧ i0.zero = some z ∧ i0.size = 10 ∧ i0.bytes = 160 ∧ z.cells.size = 10 := by
  have h : (Tryz.prog.info? 123).map (fun i => (i.size, i.bytes, i.zero.map (·.cells.size))) = some (10, 160, some 10) := by kernel_rfl
  cases hq : Tryz.prog.info? 123 with
  | none => rw [hq] at h; cases h
  | some i0 =>
    rw [hq] at h
    simp only [Option.map_some, Option.some.injEq, Prod.mk.injEq] at h
    obtain ⟨h1, h2, h3⟩ := h
    cases hz : i0.zero with
    | none => rw [hz] at h3; cases h3
    | some z => rw [hz] at h3; exact ⟨z, i0, rfl, hz, h1, h2, by simpa using h3⟩

set_option maxRecDepth 10000 in
theorem ins_sem [Gl] : InsSem Tryz.prog 151 10 160 where
  ok := ⟨Tryz.f151, Tryz.func151, by decide +kernel, by decide +kernel⟩
  run := fun h K b i0 n rs g i b' j c' rs' g' row hb hb' hne hi hin hrs hrow hrl hrok hbig hk => ⟨⟨Tryz.f151, Tryz.func151, by decide +kernel, by decide +kernel⟩, fun E w vs hr ht hl cs => by
    obtain ⟨v1, r1, rfl, k1, ht⟩ := tr_cons ht
    obtain ⟨v2, r2, rfl, k2, ht⟩ := tr_cons ht
    obtain ⟨v3, r3, rfl, k3, ht⟩ := tr_cons ht
    obtain rfl := tr_nil ht
    obtain ⟨Ls, L, c, g1, hL, g2, g3, g4, g5, _, rfl⟩ := ms_pos hr k1 hb (by omega)
    cases k2
    obtain ⟨Lvs, Lv, vc, p1, hLv, p2, p3, p4, p5, _, rfl⟩ := ms_pos hr k3 hb' (by omega)
    have hla := g2.all L hL
    have hlv := p2.all Lv hLv
    obtain ⟨hj, rfl⟩ := List.getElem?_eq_some_iff.1 hrow
    have h0 : 0 < rs.length := by omega
    have hLs : L.sz = 10 := by rw [← hla.sz 0 h0]; exact (hrs _ (List.getElem_mem h0)).1
    have hLvs : Lv.sz = 10 := by rw [← hlv.sz j hj]; exact hrl
    have hown : E.F L.blk := hla.own rfl
    have hvb : Lv.blk ≠ L.blk := fun e => hr.apart b b' Ls Lvs L Lv hne g1 p1 hL hLv hown e.symm
    obtain ⟨arr, el, a1, a2, a3⟩ := hla.lies
    obtain ⟨varr, vel, b1, b2, b3⟩ := hlv.lies
    obtain ⟨wcs, wf, wc⟩ := flat_window (i := i0) (len := n) hla g3 hLs
    obtain ⟨vcs, vf, vc2⟩ := flat_window (i := j) (len := 1) hlv p3 hLvs
    have hwl : ((rs.drop i0).take n).length = n := by simp; omega
    have hvl : ((rs'.drop j).take 1) = [rs'[j]] := by rw [List.drop_eq_getElem_cons hj]; rfl
    rw [hvl] at vf
    have hcl : wcs.length = n * 10 := by rw [wf.len, hwl]
    have hvcl : vcs.length = 1 * 10 := by rw [vf.len]; rfl
    rw [hLs] at wc g5
    rw [hLvs] at vc2
    have h1c : ∀ v ∈ wcs, v.oneCell' = true := fun v hv => one_cell' (wf.one_mem v hv)
    have h1v : ∀ v ∈ vcs, v.oneCell' = true := fun v hv => one_cell' (vf.one_mem v hv)
    have hBlt : L.blk < w.heap.size := hr.inside _ hown
    have fz : ∀ o, w.frozen? ⟨L.blk, o, none⟩ = false := fun o => by simp [World.frozen?, a1]
    have vfz : ∀ o, w.frozen? ⟨Lv.blk, o, none⟩ = false := fun o => by simp [World.frozen?, b1]
    have nf : Flat E w 10 (((rs.drop i0).take n).take i ++ rs'[j] :: ((rs.drop i0).take n).drop i) (wcs.take (i * 10) ++ (vcs ++ wcs.drop (i * 10))) :=
      (wf.take i (by omega)).append (vf.append (wf.drop i))
    have hnl : (((rs.drop i0).take n).take i ++ rs'[j] :: ((rs.drop i0).take n).drop i).length = n + 1 := by
      simp only [List.length_append, List.length_cons, List.length_take, List.length_drop]; omega
    have hnlt : ∀ r ∈ (((rs.drop i0).take n).take i ++ rs'[j] :: ((rs.drop i0).take n).drop i), ∀ x ∈ r, Lt h.blks.length h.loops.length x := fun r hr' x hx => by
      rcases List.mem_append.1 hr' with hm | hm
      · exact hr.lt.blks _ _ hb r (List.mem_of_mem_drop (List.mem_of_mem_take (List.mem_of_mem_take hm))) x hx
      · rcases List.mem_cons.1 hm with rfl | hm
        · exact hr.lt.blks _ _ hb' _ (List.getElem_mem hj) x hx
        · exact hr.lt.blks _ _ hb r (List.mem_of_mem_drop (List.mem_of_mem_take (List.mem_of_mem_drop hm))) x hx
    have hkl : (h.kill b).blks.length = h.blks.length := by simp [Heap.kill]
    have hsum : (n + 1) * 10 = i * 10 + (1 * 10 + (n - i) * 10) := by omega
    have hdl : (wcs.drop (i * 10)).length = (n - i) * 10 := by rw [List.length_drop, hcl]; omega
    have htl : (wcs.take (i * 10)).length = i * 10 := by rw [List.length_take, hcl]; omega
    by_cases hroom : n + 1 ≤ c
    · -- in place
      have hfit : L.off + i0 * 10 + (n + 1) * 10 ≤ arr.size := by rw [← a2]; omega
      have hC := ins_shift L.blk (L.off + i0 * 10) n c i Lv.blk (Lv.off + j * 10) 1 vc wcs vcs w hi (by omega) hroom (by omega) hvb hcl hvcl wc
        (fun k hk => by simp only [World.cell?, a1]; rw [Array.getElem?_eq_getElem (by omega)]; rfl) (fun k hk => fz _) vc2 h1c h1v vel el varr.size arr.size
        (by simp [World.shape?, b1]) (by simp [World.shape?, a1]) (by omega) (vfz _) (vfz _)
      rw [hLs, hLvs]
      obtain ⟨e, w', fr, ⟨rfl, rfl⟩, s1, s2, s3⟩ := hC cs
      obtain ⟨q1, q2, q3, q4⟩ := setCells_heap (wcs.drop (i * 10)) w.drew L.blk (L.off + i0 * 10 + (i + 1) * 10) arr el a1
      have q5 : (w.drew.setCells L.blk (L.off + i0 * 10 + (i + 1) * 10) (wcs.drop (i * 10))).heap[L.blk]? = some (.cells (setMany arr (L.off + i0 * 10 + (i + 1) * 10) (wcs.drop (i * 10))) el (0, 0)) := by
        rw [q1]; exact Array.getElem?_setIfInBounds_self_of_lt hBlt
      obtain ⟨m1, m2, m3, m4⟩ := setCells_heap vcs _ L.blk (L.off + i0 * 10 + i * 10) _ el q5
      let L' : Loc := ⟨L.blk, L.off + i0 * 10, 10, L.n, n + 1⟩
      have hat : ((w.drew.setCells L.blk (L.off + i0 * 10 + (i + 1) * 10) (wcs.drop (i * 10))).setCells L.blk (L.off + i0 * 10 + i * 10) vcs).heap[L.blk]? =
          some (.cells (setMany (setMany arr (L.off + i0 * 10 + (i + 1) * 10) (wcs.drop (i * 10))) (L.off + i0 * 10 + i * 10) vcs) el (0, 0)) := by
        rw [m1]; exact Array.getElem?_setIfInBounds_self_of_lt (by rw [q1]; simpa using hBlt)
      obtain ⟨x1, x2⟩ := hr_take hr (L' := L') hb g1 hL (m2.trans q2) (m3.trans q3) (m4.trans q4) (by rw [m1, q1]; simp)
        (fun B hB => by rw [m1, Array.getElem?_setIfInBounds_ne (Ne.symm hB), q1, Array.getElem?_setIfInBounds_ne (Ne.symm hB)]; rfl) hat (by rw [setMany_size, setMany_size]; exact a2) rfl hnl.symm
        (by show L.off + i0 * 10 + (n + 1) * 10 ≤ L.n; omega) nf.sz
        (fun k hk jj hjj => by
          obtain ⟨v, v1, v2, v3⟩ := nf.val k hk jj hjj
          refine ⟨v, ?_, v2, v3⟩
          have hlt : k * 10 + jj < (n + 1) * 10 := index_lt (by omega) (by rw [← nf.sz k hk]; exact hjj)
          show (setMany (setMany arr (L.off + i0 * 10 + (i + 1) * 10) (wcs.drop (i * 10))) (L.off + i0 * 10 + i * 10) vcs)[L.off + i0 * 10 + k * 10 + jj]? = some v
          rw [setMany_get _ _ _ _ (by rw [setMany_size, hvcl]; omega), hvcl]
          by_cases c1 : i * 10 ≤ k * 10 + jj ∧ k * 10 + jj < i * 10 + 10
          · rw [if_pos (by omega)]
            rw [List.getElem?_append_right (by omega), htl, List.getElem?_append_left (by omega)] at v1
            rw [← v1]; congr 1; omega
          · rw [if_neg (by omega), setMany_get _ _ _ _ (by rw [hdl]; omega), hdl]
            by_cases c2 : k * 10 + jj < i * 10
            · rw [if_neg (by omega)]
              rw [List.getElem?_append_left (by omega), List.getElem?_take_of_lt c2] at v1
              have := wc _ _ v1
              simp only [World.cell?, a1] at this
              rw [← this]; congr 1; omega
            · rw [if_pos (by omega)]
              rw [List.getElem?_append_right (by omega), htl, List.getElem?_append_right (by omega), hvcl] at v1
              rw [← v1]; congr 1; omega) hnlt
      have hBn : (E.move b h.blks.length L').ρ h.blks.length = some [L'] := by simp [Env.move]
      refine ⟨_, _, _, _, _, fr, hk, .ms _ _ _ _ _ _ _ fun Ls2 h2 => ?_, x1, .ms _ _ _ _ (by simp [Heap.push, hkl]), by simp [Heap.push, hkl], Nat.le_refl _, x2, s1, s2, s3⟩
      rw [hBn] at h2; injection h2 with h2; subst h2
      refine ⟨L', by simp, by simp [L'], by omega, ?_, (fun k hk => by cases hk), ⟨0, .inr rfl, by simp [L']⟩, rfl⟩
      show L.off + i0 * 10 + (0 + c) * 10 ≤ L.n
      omega
    · -- new memory
      obtain ⟨z, ti, hi0, hz0, hzs, hzb, hzc⟩ := path_info
      have hC := ins_grow z ti 160 hi0 hz0 hzs hzb hzc L.blk (L.off + i0 * 10) n c i Lv.blk (Lv.off + j * 10) 1 vc wcs vcs w hi (by omega) g4 (by omega) (by omega) hbig hcl hvcl wc vc2 h1c h1v
      rw [hLs, hLvs]
      obtain ⟨e, w', fr, ⟨rfl, rfl⟩, s1, s2, s3⟩ := hC cs
      have hGn := grownCap_ge w (n + 1) c 123
      obtain ⟨G, hG⟩ : ∃ G, G = grownCap w (n + 1) c 123 := ⟨_, rfl⟩
      rw [← hG] at s1 s3 hGn
      obtain ⟨ROW, hROW⟩ : ∃ ROW : Array Value, ROW = (wcs.take (i * 10)).toArray ++ Builtin.zeroCells z.cells (n + 1 - i) ++ Builtin.zeroCells z.cells (G - (n + 1)) := ⟨_, rfl⟩
      rw [← hROW] at s1 s3
      have hRs : ROW.size = G * 10 := by
        rw [hROW]
        simp only [Array.size_append, List.size_toArray, htl, Builtin.zeroCells, Array.size_map, Array.size_range, hzc]
        omega
      have hal : ((w.alloc (.cells ROW 123)).drew).heap = w.heap.push (.cells ROW 123 (0, 0)) := rfl
      have q0 : ((w.alloc (.cells ROW 123)).drew).heap[w.heap.size]? = some (.cells ROW 123 (0, 0)) := by rw [hal]; simp
      obtain ⟨q1, q2, q3, q4⟩ := setCells_heap vcs ((w.alloc (.cells ROW 123)).drew) w.heap.size (i * 10) ROW 123 q0
      have q5 : ((((w.alloc (.cells ROW 123)).drew).setCells w.heap.size (i * 10) vcs).drew).heap[w.heap.size]? = some (.cells (setMany ROW (i * 10) vcs) 123 (0, 0)) := by
        show (((w.alloc (.cells ROW 123)).drew).setCells w.heap.size (i * 10) vcs).heap[w.heap.size]? = _
        rw [q1]; exact Array.getElem?_setIfInBounds_self_of_lt (by rw [hal]; simp)
      obtain ⟨m1, m2, m3, m4⟩ := setCells_heap (wcs.drop (i * 10)) _ w.heap.size ((i + 1) * 10) _ 123 q5
      obtain ⟨arr2, harr2⟩ : ∃ arr2, arr2 = setMany (setMany ROW (i * 10) vcs) ((i + 1) * 10) (wcs.drop (i * 10)) := ⟨_, rfl⟩
      rw [← harr2] at m1
      have hw : (((((w.alloc (.cells ROW 123)).drew).setCells w.heap.size (i * 10) vcs).drew).setCells w.heap.size ((i + 1) * 10) (wcs.drop (i * 10))).heap = w.heap.push (.cells arr2 123 (0, 0)) := by
        rw [m1]
        show (((w.alloc (.cells ROW 123)).drew).setCells w.heap.size (i * 10) vcs).heap.setIfInBounds _ _ = _
        rw [q1, hal]
        apply Array.ext_getElem?
        intro k
        by_cases hkk : k = w.heap.size
        · subst hkk
          rw [Array.getElem?_setIfInBounds_self_of_lt (by simp)]; simp
        · rw [Array.getElem?_setIfInBounds_ne (Ne.symm hkk), Array.getElem?_setIfInBounds_ne (Ne.symm hkk), Array.getElem?_push, Array.getElem?_push, if_neg hkk, if_neg hkk]
      have has : arr2.size = G * 10 := by rw [harr2, setMany_size, setMany_size, hRs]
      obtain ⟨y1, y2⟩ := hr_kill hr b h.blks.length h.loops.length
      obtain ⟨x1, x2⟩ := hr_push y1 (sz := 10) (g := true) hw (m2.trans q2) (m3.trans q3) (m4.trans q4) nf.sz (by rw [hnl, has]; omega)
        (fun k hk jj hjj => by
          obtain ⟨v, v1, v2, v3⟩ := nf.val k hk jj hjj
          refine ⟨v, ?_, v2.keep y2.keeps (hnlt _ (List.getElem_mem hk) _ (List.getElem_mem hjj)), v3⟩
          have hlt : k * 10 + jj < (n + 1) * 10 := index_lt (by omega) (by rw [← nf.sz k hk]; exact hjj)
          rw [harr2, setMany_get _ _ _ _ (by rw [setMany_size, hdl, hRs]; omega), hdl]
          by_cases c1 : (i + 1) * 10 ≤ k * 10 + jj
          · rw [if_pos (by omega)]
            rw [List.getElem?_append_right (by omega), htl, List.getElem?_append_right (by omega), hvcl] at v1
            rw [← v1]; congr 1; omega
          · rw [if_neg (by omega), setMany_get _ _ _ _ (by rw [hRs, hvcl]; omega), hvcl]
            by_cases c2 : i * 10 ≤ k * 10 + jj
            · rw [if_pos (by omega)]
              rw [List.getElem?_append_right (by omega), htl, List.getElem?_append_left (by omega)] at v1
              exact v1
            · rw [if_neg (by omega)]
              rw [List.getElem?_append_left (by omega)] at v1
              rw [hROW, Array.append_assoc, Array.getElem?_append_left (by simp only [List.size_toArray]; omega)]
              simpa using v1) (fun r hr' x hx => by rw [hkl]; exact hnlt r hr' x hx)
      rw [hkl] at x1 x2
      refine ⟨_, _, _, _, _, fr, hk, .ms _ _ _ _ _ _ _ fun Ls2 h2 => ?_, x1, .ms _ _ _ _ (by simp [Heap.push, hkl]), by simp [Heap.push, hkl], Nat.le_refl _, y2.trans (Nat.le_refl _) (Nat.le_refl _) x2, s1, s2, s3⟩
      have e0 : (Env.with { E with ρ := fun c => if c = b then none else E.ρ c } h.blks.length [⟨w.heap.size, 0, 10, arr2.size, (((rs.drop i0).take n).take i ++ rs'[j] :: ((rs.drop i0).take n).drop i).length⟩]).ρ h.blks.length =
          some [⟨w.heap.size, 0, 10, arr2.size, (((rs.drop i0).take n).take i ++ rs'[j] :: ((rs.drop i0).take n).drop i).length⟩] := by
        show (if _ then _ else _) = _; rw [if_pos rfl]
      have e1 := h2.symm.trans e0
      injection e1 with e1; subst e1
      refine ⟨_, List.mem_singleton.2 rfl, by rw [hnl]; simp, hGn, ?_, (fun k hk => by cases hk), ⟨0, .inr rfl, by simp⟩, rfl⟩
      show 0 + (0 + G) * 10 ≤ arr2.size
      rw [has]; omega⟩
end
end Go.Abs
