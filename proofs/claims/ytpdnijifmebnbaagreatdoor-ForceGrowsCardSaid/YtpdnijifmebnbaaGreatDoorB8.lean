/-
  Steps to a law of this program: AbsOps8.
  Conditions: none.
-/
import Derived.Test.YtpdnijifmebnbaaGreatDoorB7
set_option linter.unusedVariables false
set_option linter.unusedSimpArgs false
set_option linter.unusedSectionVars false
namespace Go.Abs
noncomputable section
variable [Gl]

section ops
variable {P : Program} {T : Tab} {h : Heap} {E : Env} {w : World} {K : AV → Heap → Prop}

inductive PVR (E : Env) (w : World) : List (Nat × AV) → List (Nat × Value) → Prop where
  | nil : PVR E w [] []
  | cons (i : Nat) (x : AV) (v : Value) (xs : List (Nat × AV)) (vs : List (Nat × Value)) (h : VR E w x v) (r : PVR E w xs vs) : PVR E w ((i, x) :: xs) ((i, v) :: vs)

omit [Gl] in
theorem foldl_setMany (vs : List Value) : ∀ (k : Nat) (cells : Array Value) (off : Nat), (vs.zipIdx k).foldl (fun cs (x : Value × Nat) => cs.setIfInBounds (off + x.2) x.1) cells = setMany cells (off + k) vs := by
  induction vs with
  | nil => intros; rfl
  | cons v vs ih =>
    intro k cells off
    rw [List.zipIdx_cons, List.foldl_cons, setMany, ih (k + 1)]
    rfl

theorem fold_cells (v : Value) (cells : Array Value) (off : Nat) : v.cells.zipIdx.foldl (fun cs (c, j) => cs.setIfInBounds (off + j) c) cells = setMany cells off v.cells.toList := by
  rw [← Array.foldl_toList, Array.toList_zipIdx]
  exact foldl_setMany v.cells.toList 0 cells off

theorem Flat.set {size : Nat} {rs : List (List AV)} {arr : Array Value} (f : Flat E w size rs arr.toList) {i : Nat} {x : AV} {v : Value} (hi : i < rs.length) (hx : VR E w x v) (ho : (cellsA x).all okc = true)
    (hl : (cellsA x).length = size) : Flat E w size (rs.set i (cellsA x)) (setMany arr (i * size) v.cells.toList).toList := by
  obtain ⟨hs, hc⟩ := cells_VR hx ho
  have hvl : v.cells.toList.length = size := by simp [hs, hl]
  have hal : arr.size = rs.length * size := by rw [← Array.length_toList, f.len]
  have hfit : i * size + size ≤ arr.size := by
    rw [hal]
    have := Nat.mul_le_mul_right size (show i + 1 ≤ rs.length from hi)
    rw [Nat.add_mul] at this; omega
  have hsz : ∀ (k : Nat) (hk : k < (rs.set i (cellsA x)).length), (rs.set i (cellsA x))[k].length = size := fun k hk => by
    rw [List.getElem_set]
    split
    · exact hl
    · exact f.sz k (by simpa using hk)
  refine ⟨by simp [setMany_size, hal], hsz, fun k hk j hj => ?_⟩
  have hk' : k < rs.length := by simpa using hk
  have hjs : j < size := by rw [← hsz k hk]; exact hj
  rw [Array.getElem?_toList, setMany_get _ _ _ _ (by rw [hvl]; exact hfit), hvl]
  by_cases hki : k = i
  · subst hki
    have e : (rs.set k (cellsA x))[k][j] = (cellsA x)[j]'(by rw [hl]; exact hjs) := by simp
    rw [if_pos (by omega)]
    have hjv : j < v.cells.size := by rw [hs, hl]; exact hjs
    obtain ⟨c1, c2⟩ := hc j (by rw [hl]; exact hjs) hjv
    refine ⟨v.cells[j], ?_, by rw [e]; exact c1, c2⟩
    rw [show k * size + j - k * size = j from by omega]
    simp [hjv]
  · have e : (rs.set i (cellsA x))[k][j] = rs[k][j]'(by rw [f.sz k hk']; exact hjs) := by simp [Ne.symm hki]
    have hout : ¬ (i * size ≤ k * size + j ∧ k * size + j < i * size + size) := by
      rcases Nat.lt_or_gt_of_ne hki with hlt | hgt
      · have := Nat.mul_le_mul_right size (show k + 1 ≤ i from hlt)
        rw [Nat.add_mul] at this
        omega
      · have := Nat.mul_le_mul_right size (show i + 1 ≤ k from hgt)
        rw [Nat.add_mul] at this
        omega
    rw [if_neg hout]
    obtain ⟨u, u1, u2, u3⟩ := f.val k hk' j (by rw [f.sz k hk']; exact hjs)
    rw [Array.getElem?_toList] at u1
    exact ⟨u, u1, by rw [e]; exact u2, u3⟩

theorem fill_rows {size : Nat} : ∀ {ps : List (Nat × AV)} {vs : List (Nat × Value)} (_ : PVR E w ps vs) {rs rs' : List (List AV)} {arr : Array Value} (_ : Flat E w size rs arr.toList)
    (_ : fillRows size rs ps = some rs'), ∃ arr', Instr.fill (fun i => some (i * size, size)) arr vs = some arr' ∧ Flat E w size rs' arr'.toList
  | _, _, .nil, rs, rs', arr, f, hf => by
    simp only [fillRows, Option.some.injEq] at hf
    exact ⟨arr, rfl, hf ▸ f⟩
  | _, _, .cons i x v xs vs hx hr, rs, rs', arr, f, hf => by
    simp only [fillRows] at hf
    split at hf
    · rename_i hc
      simp only [Bool.and_eq_true, beq_iff_eq, Nat.blt_eq] at hc
      obtain ⟨⟨hl, ho⟩, hi⟩ := hc
      have f' := f.set hi hx ho hl
      obtain ⟨arr', h1, h2⟩ := fill_rows hr f' hf
      refine ⟨arr', ?_, h2⟩
      obtain ⟨hs, _⟩ := cells_VR hx ho
      have hal : arr.size = rs.length * size := by rw [← Array.length_toList, f.len]
      have hfit : i * size + size ≤ arr.size := by
        rw [hal]
        have := Nat.mul_le_mul_right size (show i + 1 ≤ rs.length from hi)
        rw [Nat.add_mul] at this; omega
      have hcond : (v.cells.size ≠ size || i * size + v.cells.size > arr.size : Bool) = false := by
        rw [hs, hl]; simp; omega
      simp only [Instr.fill]
      rw [if_neg (by rw [hcond]; simp), fold_cells]
      exact h1
    · cases hf

theorem fillRows_Lt {n m size : Nat} : ∀ {ps : List (Nat × AV)} {rs rs' : List (List AV)} (_ : ∀ p ∈ ps, Lt n m p.2) (_ : ∀ r ∈ rs, ∀ x ∈ r, Lt n m x) (_ : fillRows size rs ps = some rs'), ∀ r ∈ rs', ∀ x ∈ r, Lt n m x
  | [], rs, rs', _, hr, hf => by simp only [fillRows, Option.some.injEq] at hf; exact hf ▸ hr
  | (i, x) :: ps, rs, rs', hp, hr, hf => by
    simp only [fillRows] at hf
    split at hf
    · refine fillRows_Lt (fun p hp' => hp p (List.mem_cons_of_mem _ hp')) (fun r hr' y hy => ?_) hf
      rcases List.mem_or_eq_of_mem_set hr' with h | rfl
      · exact hr r h y hy
      · exact cells_lt (hp _ (List.mem_cons_self ..)) y hy
    · cases hf

theorem zero_flat {size : Nat} {z : Array Value} {l : List AV} (n : Nat) (hz1 : z.toList.map ofV = l) (hzs : z.size = size) (hone : ∀ c ∈ z.toList, one c = true) :
    Flat E w size (List.replicate n l) ((Array.range (n * size)).map (z[· % z.size]!)).toList := by
  have hzl : l.length = size := by rw [← hz1, ← hzs]; simp
  refine ⟨by simp, fun i hi => by simp [hzl], fun i hi j hj => ?_⟩
  have hi' : i < n := by simpa using hi
  have hj' : j < size := by simpa [hzl] using hj
  have hjz : j < z.size := by omega
  refine ⟨z[j], ?_, ?_, hone _ (by simp)⟩
  · have hlt := index_lt hi' hj'
    rw [Array.getElem?_toList, Array.getElem?_map, Array.getElem?_range, if_pos hlt]
    have e2 : (i * size + j) % z.size = j := by rw [hzs, Nat.add_comm, Nat.add_mul_mod_self_right, Nat.mod_eq_of_lt hj']
    simp [e2, hjz]
  · have e : (List.replicate n l)[i][j] = l[j]'(by omega) := by simp
    rw [e]
    subst hz1
    simp only [List.getElem_map, Array.getElem_toList]
    exact ofV_VR _ _ _

theorem op_buildSlice (hT : TabOK P T) (hr : HR E w h) {t : TypeId} {len : Nat} {ps : List (Nat × AV)} {vs : Array (Nat × Value)} (hp : PVR E w ps vs.toList) (hlt : ∀ p ∈ ps, Lt h.blks.length h.loops.length p.2)
    (hb : buildSliceW T h t len ps K) : VOK P h E w (Instr.buildSlice t len vs) K := by
  unfold buildSliceW at hb
  split at hb
  · rename_i e _ _ _ _ ht
    split at hb
    · exact hb.elim
    · rename_i ei hei
      obtain ⟨hlen, hpos, hzo, hb⟩ := hb
      split at hb
      · exact hb.elim
      · rename_i rows hrows
        obtain ⟨z, z1, z2, z3, z4⟩ := run_zero (w := w) hT hei
        have hlim : ¬ (16777216 < len * ei.size) := by omega
        have zlt : ∀ r ∈ List.replicate len ei.zero, ∀ x ∈ r, Lt h.blks.length h.loops.length x := fun r hr' x hx => by
          obtain rfl := (List.mem_replicate.1 hr').2
          exact zero_Lt z2 x hx
        have go : ∀ (zc : Array Value), (len * ei.size = 0 ∧ zc = #[] ∨ len * ei.size ≠ 0 ∧ zc = z.cells) →
            Flat E w ei.size (List.replicate len ei.zero) ((Array.range (len * ei.size)).map (zc[· % zc.size]!)).toList → VOK P h E w (Instr.buildSlice t len vs) K := by
          intro zc hzc hflat
          obtain ⟨arr', f1, f2⟩ := fill_rows hp hflat hrows
          have hrl : rows.length * ei.size = arr'.size := by rw [← Array.length_toList, f2.len]
          have hrowlen : rows.length = len := by
            have : ∀ {ps : List (Nat × AV)} {rs rs' : List (List AV)}, fillRows ei.size rs ps = some rs' → rs'.length = rs.length := by
              intro ps
              induction ps with
              | nil => intro rs rs' hf; simp only [fillRows, Option.some.injEq] at hf; rw [hf]
              | cons p ps ih =>
                intro rs rs' hf
                obtain ⟨i, x⟩ := p
                simp only [fillRows] at hf
                split at hf
                · rw [ih hf]; simp
                · cases hf
            rw [this hrows]; simp
          have hrun : (Instr.buildSlice t len vs).run P w = .ok (.slice (some ⟨w.heap.size, 0, none⟩) len len) (w.alloc (.cells arr' e)) := by
            rcases hzc with ⟨hz, rfl⟩ | ⟨hz, rfl⟩
            · simp [Instr.buildSlice, run_und hT ht, run_sizeOf hT hei, hz, newRow]
              simp [hz] at f1
              simp [f1]
            · simp [Instr.buildSlice, run_und hT ht, run_sizeOf hT hei, hlim, hz, z1, f1, newRow]
          rcases hb with hb | hb
          · refine new_rows (e := e) (w' := w.alloc (.cells arr' e)) (cs := arr'.toList) (more := #[]) (cap := len) hr f2 (fillRows_Lt hlt zlt hrows) ?_ rfl rfl rfl ?_ (len := len) (by omega) (Nat.le_refl _) (fun k hk => by injection hk) hrun hb
            · show w.heap.push (.cells arr' e (0, 0)) = _
              rw [Array.toArray_toList, Array.append_empty]
            · rw [Array.length_toList, ← hrl, hrowlen]; rfl
          · subst hrowlen
            exact new_frozen (e := e) (w' := w.alloc (.cells arr' e)) (cs := arr'.toList) hr f2 (fillRows_Lt hlt zlt hrows) (by show w.heap.push (.cells arr' e (0, 0)) = _; rw [Array.toArray_toList]) rfl rfl rfl hrun hb
        by_cases hz : len * ei.size = 0
        · have hl0 : len = 0 := by
            rcases Nat.eq_zero_or_pos len with h | h
            · exact h
            · have := Nat.mul_pos h hpos; omega
          subst hl0
          refine go #[] (.inl ⟨hz, rfl⟩) ?_
          exact ⟨by simp, fun i hi => by simp at hi, fun i hi => by simp at hi⟩
        · exact go z.cells (.inr ⟨hz, rfl⟩) (zero_flat len z2 z3 z4)
  · exact hb.elim

theorem fill_cells {place : Nat → Option (Nat × Nat)} {placeA : Nat → Option (Nat × Nat)} (hpl : ∀ i x, placeA i = some x → place i = some x) :
    ∀ {ps : List (Nat × AV)} {vs : List (Nat × Value)} (_ : PVR E w ps vs) {cs cs' : List AV} {arr : Array Value} (_ : cs.length = arr.size) (_ : ∀ (i : Nat) (hi : i < cs.length) (hj : i < arr.size), VR E w cs[i] arr[i])
      (_ : fillA placeA cs ps = some cs'), ∃ arr', Instr.fill place arr vs = some arr' ∧ cs'.length = arr'.size ∧ ∀ (i : Nat) (hi : i < cs'.length) (hj : i < arr'.size), VR E w cs'[i] arr'[i]
  | _, _, .nil, cs, cs', arr, hl, hv, hf => by
    simp only [fillA, Option.some.injEq] at hf
    subst hf
    exact ⟨arr, rfl, hl, hv⟩
  | _, _, .cons i x v xs vs hx hr, cs, cs', arr, hl, hv, hf => by
    simp only [fillA] at hf
    split at hf
    · cases hf
    · rename_i off size hp
      split at hf
      · rename_i hc
        simp only [Bool.and_eq_true, beq_iff_eq, Nat.ble_eq] at hc
        obtain ⟨⟨hcl, hfit⟩, ho⟩ := hc
        obtain ⟨hs, hcv⟩ := cells_VR hx ho
        have hvl : v.cells.toList.length = size := by simp [hs, hcl]
        have hlen' : (cs.take off ++ cellsA x ++ cs.drop (off + size)).length = (setMany arr off v.cells.toList).size := by
          rw [setMany_size]; simp only [List.length_append, List.length_take, List.length_drop, hcl]; omega
        obtain ⟨arr', h1, h2, h3⟩ := fill_cells hpl hr hlen' (fun k hk hj => by
          have hk2 : k < arr.size := by rw [setMany_size] at hj; exact hj
          have hg := setMany_get v.cells.toList arr off k (by rw [hvl]; omega)
          rw [Array.getElem?_eq_getElem hj, hvl] at hg
          have hm : min off cs.length = off := by omega
          rcases Nat.lt_or_ge k off with c1 | c1
          · rw [if_neg (by omega), Array.getElem?_eq_getElem hk2] at hg
            injection hg with hg
            rw [hg, List.getElem_append_left (by simp only [List.length_append, List.length_take]; omega), List.getElem_append_left (by simp only [List.length_take]; omega)]
            simp only [List.getElem_take]
            exact hv k (by omega) hk2
          · rcases Nat.lt_or_ge k (off + size) with c2 | c2
            · have hkv : k - off < v.cells.size := by omega
              rw [if_pos (by omega), Array.getElem?_toList, Array.getElem?_eq_getElem hkv] at hg
              injection hg with hg
              rw [hg, List.getElem_append_left (by simp only [List.length_append, List.length_take]; omega), List.getElem_append_right (by simp only [List.length_take]; omega)]
              simp only [List.length_take, hm]
              exact (hcv (k - off) (by omega) hkv).1
            · rw [if_neg (by omega), Array.getElem?_eq_getElem hk2] at hg
              injection hg with hg
              rw [hg, List.getElem_append_right (by simp only [List.length_append, List.length_take]; omega)]
              simp only [List.getElem_drop, List.length_append, List.length_take, hm]
              have e : off + size + (k - (off + (cellsA x).length)) = k := by omega
              simp only [e]
              exact hv k (by omega) hk2) hf
        refine ⟨arr', ?_, h2, h3⟩
        have hcond : (v.cells.size ≠ size || off + v.cells.size > arr.size : Bool) = false := by
          rw [hs, hcl]; simp; omega
        simp only [Instr.fill, hpl i _ hp]
        rw [if_neg (by rw [hcond]; simp), fold_cells]
        exact h1
      · cases hf

theorem fillA_Lt {n m : Nat} {place : Nat → Option (Nat × Nat)} : ∀ {ps : List (Nat × AV)} {cs cs' : List AV} (_ : ∀ p ∈ ps, Lt n m p.2) (_ : ∀ x ∈ cs, Lt n m x) (_ : fillA place cs ps = some cs'), ∀ x ∈ cs', Lt n m x
  | [], cs, cs', _, hr, hf => by simp only [fillA, Option.some.injEq] at hf; exact hf ▸ hr
  | (i, x) :: ps, cs, cs', hp, hr, hf => by
    simp only [fillA] at hf
    split at hf
    · cases hf
    · split at hf
      · refine fillA_Lt (fun p hp' => hp p (List.mem_cons_of_mem _ hp')) (fun y hy => ?_) hf
        simp only [List.mem_append] at hy
        rcases hy with (h | h) | h
        · exact hr y (List.mem_of_mem_take h)
        · exact cells_lt (hp _ (List.mem_cons_self ..)) y h
        · exact hr y (List.mem_of_mem_drop h)
      · cases hf

omit [Gl] in
theorem run_mapM_list {α β : Type} (f : α → Sem β) (g : α → β) : ∀ (l : List α), (∀ a ∈ l, (f a).run P w = .ok (g a) w) → (l.mapM f).run P w = .ok (l.map g) w
  | [], _ => by simp
  | a :: l, h => by
    have h1 := h a (List.mem_cons_self ..)
    have h2 := run_mapM_list f g l (fun x hx => h x (List.mem_cons_of_mem _ hx))
    simp [List.mapM_cons, h1, h2]

theorem op_build (hT : TabOK P T) (hr : HR E w h) {t : TypeId} {ps : List (Nat × AV)} {vs : Array (Nat × Value)} {r : AV} (hp : PVR E w ps vs.toList) (hlt : ∀ p ∈ ps, Lt h.blks.length h.loops.length p.2)
    (hb : buildA T t ps = some r) (hk : K r h) : VOK P h E w (Instr.build t vs) K := by
  unfold buildA at hb
  split at hb
  · cases hb
  · rename_i ti ht
    split at hb
    · rename_i hagg
      obtain ⟨cs', hf, rfl⟩ := Option.map_eq_some_iff.1 hb
      obtain ⟨z, z1, z2, z3, z4⟩ := run_zero (w := w) hT ht
      have hzl : ti.zero.length = z.cells.size := by rw [← z2]; simp
      have hlt' : Lt h.blks.length h.loops.length (.agg cs') := .agg _ fun i hi => fillA_Lt hlt (zero_Lt z2) hf _ (List.getElem_mem hi)
      cases hd : ti.desc <;> rw [hd] at hagg hf <;> simp only [knowsParts, Bool.false_eq_true] at hagg
      case array n e =>
        simp only [placesA] at hf
        obtain ⟨ei, hei⟩ := Option.isSome_iff_exists.1 hagg
        have hpl : ∀ i x, (match T e with | none => none | some ei => some (i * ei.size, ei.size)) = some x → (some (i * ei.size, ei.size) : Option (Nat × Nat)) = some x := by
          intro i x hx; rw [hei] at hx; exact hx
        obtain ⟨arr', f1, f2, f3⟩ := fill_cells (place := fun i => some (i * ei.size, ei.size)) hpl hp hzl (zero_VR z2) hf
        refine .val hr (v := .agg arr') ?_ (.agg _ _ f2 f3) hlt' hk
        simp only [Instr.build, Sem.run_bind, z1, Result.andThen_ok, run_und hT ht, hd, run_sizeOf hT hei, f1]
        rfl
      case struct fs =>
        simp only [placesA] at hf
        have hsz : ∀ f ∈ fs.toList, (do pure (f.offset, ← sizeOf f.type) : Sem (Nat × Nat)).run P w = .ok (f.offset, P.cellsOf f.type) w := fun f hf => by
          obtain ⟨fi, hfi⟩ := Option.isSome_iff_exists.1 (List.all_eq_true.1 hagg f hf)
          obtain ⟨_, info, hinfo, hsize, _⟩ := hT.ok _ _ hfi
          simp [run_sizeOf hT hfi, Program.cellsOf, hinfo, hsize]
        have hmap : (fs.mapM fun f => (do pure (f.offset, ← sizeOf f.type) : Sem (Nat × Nat))).run P w = .ok (fs.toList.map fun f => (f.offset, P.cellsOf f.type)).toArray w := by
          rw [Array.mapM_eq_mapM_toList]
          simp only [Sem.run_map]
          rw [run_mapM_list _ (fun f : Field => (f.offset, P.cellsOf f.type)) fs.toList hsz]
          rfl
        have hpl : ∀ (i : Nat) (x : Nat × Nat), (match fs[i]? with | none => none | some (fd : Field) => match T fd.type with | none => none | some fi => some (fd.offset, fi.size)) = some x →
            ((fs.toList.map fun f => (f.offset, P.cellsOf f.type)).toArray[i]?) = some x := by
          intro i x hx
          split at hx
          · cases hx
          · rename_i fd hfd
            split at hx
            · cases hx
            · rename_i fi hfi
              injection hx with hx; subst hx
              obtain ⟨_, info, hinfo, hsize, _⟩ := hT.ok _ _ hfi
              simp [hfd, Program.cellsOf, hinfo, hsize]
        obtain ⟨arr', f1, f2, f3⟩ := fill_cells hpl hp hzl (zero_VR z2) hf
        refine .val hr (v := .agg arr') ?_ (.agg _ _ f2 f3) hlt' hk
        simp only [Instr.build, Sem.run_bind, z1, Result.andThen_ok, run_und hT ht, hd, hmap, f1]
        rfl
    · cases hb

end ops
end
end Go.Abs
