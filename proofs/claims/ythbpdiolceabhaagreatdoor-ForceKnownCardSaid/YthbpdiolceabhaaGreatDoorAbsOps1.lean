/-
  The abstract operations are the model's: reading, computing.
  Conditions: none.
-/
import Derived.Test.YthbpdiolceabhaaGreatDoorAbsMem
set_option linter.unusedVariables false
set_option linter.unusedSimpArgs false
set_option linter.unusedSectionVars false
namespace Go.Abs
variable [Gl]

/-- A term of the model's gives a value of an abstract one. -/
def VOK (P : Program) (h : Heap) (E : Env) (w : World) (s : Sem Value) (K : AV → Heap → Prop) : Prop :=
  ∃ r h' E' w' v, s.run P w = .ok v w' ∧ K r h' ∧ VR E' w' r v ∧ HR E' w' h' ∧ Lt h'.blks.length h'.loops.length r ∧ h.blks.length ≤ h'.blks.length ∧ h.loops.length ≤ h'.loops.length ∧
    Ext h.blks.length h.loops.length E w E' w'

theorem VOK.val {P : Program} {h : Heap} {E : Env} {w : World} {s : Sem Value} {K : AV → Heap → Prop} {r : AV} {v : Value} (hr : HR E w h) (hs : s.run P w = .ok v w) (hv : VR E w r v)
    (hl : Lt h.blks.length h.loops.length r) (hk : K r h) : VOK P h E w s K :=
  ⟨r, h, E, w, v, hs, hk, hv, hr, hl, Nat.le_refl _, Nat.le_refl _, .refl ..⟩

section runs
variable {P : Program} {w : World} {T : Tab}
omit [Gl] in
theorem run_underlying {t : TypeId} {d : TypeDesc} (h : P.underlying t = some d) : (underlying t).run P w = .ok d w := by
  simp [underlying, h]
omit [Gl] in
theorem run_typeInfo {t : TypeId} {i : TypeInfo} (h : P.info? t = some i) : (typeInfo t).run P w = .ok i w := by
  simp [typeInfo, h]
theorem run_sizeOf (hT : TabOK P T) {t : TypeId} {i : TI} (h : T t = some i) : (sizeOf t).run P w = .ok i.size w := by
  obtain ⟨_, info, h1, h2, _⟩ := hT.ok t i h
  simp [sizeOf, run_typeInfo h1, h2]
theorem run_und (hT : TabOK P T) {t : TypeId} {i : TI} (h : T t = some i) : (underlying t).run P w = .ok i.desc w := run_underlying (hT.ok t i h).1
theorem run_isAgg (hT : TabOK P T) {t : TypeId} {i : TI} (h : T t = some i) : (isAgg t).run P w = .ok (isAggD i.desc) w := by
  simp only [isAgg, Sem.run_bind, run_und hT h, Result.andThen_ok]
  cases i.desc <;> rfl
theorem run_zero (hT : TabOK P T) {t : TypeId} {i : TI} (h : T t = some i) : ∃ z, (zeroValue t).run P w = .ok z w ∧ z.cells.toList.map ofV = i.zero ∧ z.cells.size = i.size ∧ (∀ c ∈ z.cells.toList, one c = true) := by
  obtain ⟨_, info, h1, h2, _, z, h3, h4, h5, h6, _⟩ := hT.ok t i h
  exact ⟨z, by simp [zeroValue, run_typeInfo h1, h3], h4, h5, h6⟩
end runs

/-- The cells of a row lie from a place on. -/
structure RowCells (E : Env) (w : World) (B o : Nat) (row : List AV) : Prop where
  ok : ∃ f : Nat → Value, ∀ (t : Nat) (ht : t < row.length), w.cell? ⟨B, o + t, none⟩ = some (f t) ∧ VR E w row[t] (f t)

theorem ptr_row {E : Env} {w : World} {h : Heap} (hr : HR E w h) {b i j : Nat} {v : Value} (hv : VR E w (.ptr b i j) v) {rs : List (List AV)} {g fz : Bool} (hb : h.blk? b = some (.rows rs g fz))
    {row : List AV} (hrow : rs[i]? = some row) : ∃ B o, v = .pointer (some ⟨B, o + j, none⟩) ∧ RowCells E w B o row := by
  cases hv with
  | ptr _ _ _ a hv =>
    obtain ⟨Ls, h1, h2⟩ := hr.rows b rs g fz hb
    obtain ⟨L, hL, h3, h4, rfl⟩ := hv Ls h1
    obtain ⟨arr, el, a1, a2, a3⟩ := (h2.all L hL).lies
    obtain ⟨hi, rfl⟩ := List.getElem?_eq_some_iff.1 hrow
    refine ⟨L.blk, L.off + i * L.sz, rfl, ⟨fun t => (arr[L.off + i * L.sz + t]?).getD undef, fun t ht => ?_⟩⟩
    obtain ⟨v, b1, b2, _⟩ := a3 i hi h3 t ht
    simp only [World.cell?, a1, b1, Option.getD_some]
    exact ⟨rfl, b2⟩

omit [Gl] in
theorem vp_row {E : Env} {w : World} {row : List AV} {j : Nat} {v : Value} (hv : VR E w (.vp row j) v) : ∃ B o, v = .pointer (some ⟨B, o + j, none⟩) ∧ RowCells E w B o row := by
  cases hv with
  | vp _ _ B off vals hF h => exact ⟨B, off, rfl, ⟨vals, fun t ht => ⟨(hF t ht).2, h t ht⟩⟩⟩

theorem gp_row {E : Env} {w : World} {h : Heap} (hr : HR E w h) {g j : Nat} {v : Value} (hv : VR E w (.gp g j) v) {row : List AV} (hg : Gl.gl g = some row) :
    v = .pointer (some ⟨g, 0 + j, none⟩) ∧ RowCells E w g 0 row ∧ ∀ n m, ∀ x ∈ row, Lt n m x := by
  cases hv
  refine ⟨by rw [Nat.zero_add], ⟨⟨fun t => (w.cell? ⟨g, 0 + t, none⟩).getD undef, fun t ht => ?_⟩⟩, fun n m x hx => ?_⟩
  · obtain ⟨-, -, -, h1, arr, el, fr, h2, -, h3⟩ := hr.globs.ok g row hg
    obtain ⟨v, h3, h4⟩ := h3 t ht
    have e : w.cell? ⟨g, 0 + t, none⟩ = some v := by rw [Nat.zero_add]; simp only [World.cell?, h2]; exact h3
    simp only [e, Option.getD_some]
    have k : Keeps 0 0 (penv E.F) w E w := ⟨fun B o v a b => ⟨a, b⟩, fun b hb => by omega, fun l hl => by omega⟩
    exact ⟨trivial, VR.keep k h4 (h1 _ (List.getElem_mem ht))⟩
  · obtain ⟨-, -, -, h1, -⟩ := hr.globs.ok g row hg
    exact (h1 x hx).lt n m

section ops
variable {P : Program} {T : Tab} {h : Heap} {E : Env} {w : World} {K : AV → Heap → Prop}

omit [Gl] in
theorem lt_of_partA {n m : Nat} {ti : TI} {row : List AV} {j : Nat} {r : AV} (hp : partA ti row j = some r) (hl : ∀ x ∈ row, Lt n m x) : Lt n m r := by
  unfold partA at hp
  split at hp
  · split at hp
    · injection hp with hp; subst hp
      exact .agg _ fun i hi => hl _ (List.mem_of_mem_drop (List.mem_of_mem_take (List.getElem_mem hi)))
    · cases hp
  · exact hl r (List.mem_of_getElem? hp)

/-- A part of a row, loaded. -/
theorem part_load (hT : TabOK P T) {t : TypeId} {ti : TI} (ht : T t = some ti) {B o j : Nat} {row : List AV} (hc : RowCells E w B o row) {r : AV} (hp : partA ti row j = some r) :
    ∃ v, (loadVar t ⟨B, o + j, none⟩).run P w = .ok v w ∧ VR E w r v := by
  obtain ⟨f, hf⟩ := hc.ok
  unfold partA at hp
  simp only [loadVar, Sem.run_bind, run_isAgg hT ht, Result.andThen_ok]
  by_cases hd : isAggD ti.desc = true
  · rw [if_pos hd] at hp
    split at hp
    · rename_i hle
      injection hp with hp; subst hp
      have hld := run_loadCells (P := P) (w := w) (B := B) (off := o + j) (n := ti.size) (fun k => f (j + k)) (fun k hk => by
        rw [Nat.add_assoc]; exact (hf (j + k) (by omega)).1)
      refine ⟨.agg ((List.range ti.size).map fun k => f (j + k)).toArray, ?_, .agg _ _ (by simp; omega) fun i hi hj => ?_⟩
      · simp [hd, run_sizeOf hT ht, hld]
      · simp only [List.length_take, List.length_drop] at hi
        simp only [List.getElem_take, List.getElem_drop, List.getElem_toArray, List.getElem_map, List.getElem_range]
        exact (hf (j + i) (by omega)).2
    · cases hp
  · rw [if_neg hd] at hp
    obtain ⟨hj, rfl⟩ := List.getElem?_eq_some_iff.1 hp
    refine ⟨f j, ?_, (hf j hj).2⟩
    simp only [Bool.not_eq_true] at hd
    simp [hd, run_load1 (hf j hj).1]

theorem op_load (hT : TabOK P T) (hr : HR E w h) {t : TypeId} {x r : AV} {v : Value} (hv : VR E w x v) (hl : Lt h.blks.length h.loops.length x) (hx : loadA T h t x = some r) (hk : K r h) :
    VOK P h E w (Instr.loadAt t v) K := by
  unfold loadA at hx
  split at hx
  · cases hx
  · rename_i ti ht
    split at hx
    · rename_i b i j
      split at hx
      · rename_i rs g fz hb
        obtain ⟨row, hrow, hp⟩ := Option.bind_eq_some_iff.1 hx
        obtain ⟨B, o, rfl, hc⟩ := ptr_row hr hv hb hrow
        obtain ⟨v', hv1, hv2⟩ := part_load hT ht hc hp
        refine .val hr (v := v') (r := r) ?_ hv2 (lt_of_partA hp fun y hy => hr.lt.blks b _ hb row (List.mem_of_getElem? hrow) y hy) hk
        simp [Instr.loadAt, Instr.sureAddr, hv1]
      · cases hx
    · rename_i row j
      obtain ⟨B, o, rfl, hc⟩ := vp_row hv
      obtain ⟨v', hv1, hv2⟩ := part_load hT ht hc hx
      refine .val hr (v := v') (r := r) ?_ hv2 (lt_of_partA hx fun y hy => ?_) hk
      · simp [Instr.loadAt, Instr.sureAddr, hv1]
      · cases hl with | vp _ _ hl => obtain ⟨i, hi, rfl⟩ := List.getElem_of_mem hy; exact hl i hi
    · rename_i g j
      obtain ⟨row, hg, hp⟩ := Option.bind_eq_some_iff.1 hx
      obtain ⟨rfl, hc, hlt⟩ := gp_row hr hv hg
      obtain ⟨v', hv1, hv2⟩ := part_load hT ht hc hp
      refine .val hr (v := v') (r := r) ?_ hv2 (lt_of_partA hp (hlt _ _)) hk
      simp only [Instr.loadAt, Instr.sureAddr, Sem.run_bind, Sem.run_pure, Result.andThen_ok]
      exact hv1
    · cases hx

/-- A part of an aggregate. -/
theorem part_agg (hT : TabOK P T) {t : TypeId} {ti : TI} (ht : T t = some ti) {cs : List AV} {vs : Array Value} (hs : cs.length = vs.size)
    (hv : ∀ (i : Nat) (hi : i < cs.length) (hj : i < vs.size), VR E w cs[i] vs[i]) {j : Nat} {r : AV} (hp : partA ti cs j = some r) :
    ∃ v, (part t vs j).run P w = .ok v w ∧ VR E w r v := by
  unfold partA at hp
  simp only [part, Sem.run_bind, run_isAgg hT ht, Result.andThen_ok]
  by_cases hd : isAggD ti.desc = true
  · rw [if_pos hd] at hp
    split at hp
    · rename_i hle
      injection hp with hp; subst hp
      refine ⟨.agg (vs.extract j (j + ti.size)), ?_, .agg _ _ (by simp; omega) fun i hi hj => ?_⟩
      · simp [hd, run_sizeOf hT ht]
      · simp only [List.length_take, List.length_drop] at hi
        simp only [List.getElem_take, List.getElem_drop, Array.getElem_extract]
        exact hv (j + i) (by omega) (by omega)
    · cases hp
  · rw [if_neg hd] at hp
    obtain ⟨hj, rfl⟩ := List.getElem?_eq_some_iff.1 hp
    refine ⟨vs[j]'(hs ▸ hj), ?_, hv j hj (hs ▸ hj)⟩
    simp only [Bool.not_eq_true] at hd
    simp [hd, Array.getElem?_eq_getElem (hs ▸ hj)]

theorem op_field (hT : TabOK P T) (hr : HR E w h) {t : TypeId} {x r : AV} {v : Value} {f : Nat} (hv : VR E w x v) (hl : Lt h.blks.length h.loops.length x) (hx : fieldA T t x f = some r) (hk : K r h) :
    VOK P h E w (Instr.field t v f) K := by
  unfold fieldA at hx
  split at hx
  · rename_i fs _ _ _ cs ht
    cases hv with
    | agg _ vs hs hv =>
      split at hx
      · cases hx
      · rename_i fd hfd
        split at hx
        · cases hx
        · rename_i fi hfi
          obtain ⟨v', h1, h2⟩ := part_agg hT hfi hs hv hx
          refine .val hr (v := v') (r := r) ?_ h2 (lt_of_partA hx fun y hy => ?_) hk
          · simp [Instr.field, run_und hT ht, hfd, asAgg, h1]
          · cases hl with | agg _ hl => obtain ⟨i, hi, rfl⟩ := List.getElem_of_mem hy; exact hl i hi
  · cases hx

theorem op_fieldAddr (hT : TabOK P T) (hr : HR E w h) {t : TypeId} {x r : AV} {v : Value} {f : Nat} (hv : VR E w x v) (hl : Lt h.blks.length h.loops.length x) (hx : fieldAddrA T h t x f = some r) (hk : K r h) :
    VOK P h E w (Instr.fieldAt t v f) K := by
  unfold fieldAddrA at hx
  split at hx
  · rename_i fs _ _ _ ht
    split at hx
    · cases hx
    · rename_i fd hfd
      split at hx
      · cases hx
      · rename_i fi hfi
        split at hx
        · cases hx
        · rename_i hz
          have hz' : fi.size ≠ 0 := by simpa using hz
          have run : ∀ B o, (Instr.fieldAt t (.pointer (some ⟨B, o, none⟩)) f).run P w = .ok (.pointer (some ⟨B, o + fd.offset, none⟩)) w := fun B o => by
            simp [Instr.fieldAt, run_und hT ht, hfd, Instr.sureAddr, fieldPlace, run_sizeOf hT hfi, hz', Addr.add_none]
          split at hx
          · rename_i b i j
            split at hx
            · rename_i rs g fz hb
              split at hx
              · rename_i row hrow
                split at hx
                · rename_i hlt
                  injection hx with hx; subst hx
                  have hlt' : j + fd.offset < row.length := by simpa [Nat.blt_eq] using hlt
                  cases hv with
                  | ptr _ _ _ a hv =>
                    obtain ⟨Ls, h1, h2⟩ := hr.rows b rs g fz hb
                    obtain ⟨L, hL, h3, h4, rfl⟩ := hv Ls h1
                    refine .val hr (run _ _) (.ptr _ _ _ _ fun Ls' hLs' => ?_) (by cases hl with | ptr _ _ _ hl => exact .ptr _ _ _ hl) hk
                    rw [h1] at hLs'; injection hLs' with hLs'; subst hLs'
                    obtain ⟨hi, rfl⟩ := List.getElem?_eq_some_iff.1 hrow
                    exact ⟨L, hL, h3, by rw [← (h2.all L hL).sz i hi]; exact hlt', by rw [Nat.add_assoc]⟩
                · cases hx
              · cases hx
            · cases hx
          · rename_i row j
            injection hx with hx; subst hx
            cases hv with
            | vp _ _ B off vals hF hh =>
              refine .val hr (run _ _) ?_ (by cases hl with | vp _ _ hl => exact .vp _ _ hl) hk
              rw [Nat.add_assoc]
              exact .vp row (j + fd.offset) B off vals hF hh
          · rename_i g j
            injection hx with hx; subst hx
            cases hv
            exact .val hr (run _ _) (.gp _ _) (.gp _ _) hk
          · cases hx
  · cases hx

/-- A value that a nil check lets pass. -/
def notNil : Value → Prop
  | .pointer none | .nilIface | .nilFunc => False
  | .func (.method _) _ _ => False
  | _ => True

theorem op_nilCheck {x : AV} {v : Value} {K1 : AV → Prop} (hr : HR E w h) (hv : VR E w x v) (hl : Lt h.blks.length h.loops.length x) (hx : nilCheckW h x K1) :
    ∃ r, K1 r ∧ VR E w r v ∧ Lt h.blks.length h.loops.length r ∧ notNil v := by
  unfold nilCheckW at hx
  split at hx
  · rename_i b i j
    split at hx
    · rename_i rs g fz hb
      refine ⟨_, hx, hv, hl, ?_⟩
      cases hv with
      | ptr _ _ _ a hv =>
        obtain ⟨Ls, h1, _⟩ := hr.rows b rs g fz hb
        obtain ⟨L, _, _, _, rfl⟩ := hv Ls h1
        trivial
    · exact hx.elim
  · refine ⟨_, hx, hv, hl, ?_⟩; cases hv; trivial
  · refine ⟨_, hx, hv, hl, ?_⟩; cases hv; trivial
  · refine ⟨_, hx, hv, hl, ?_⟩; cases hv; trivial
  · rename_i l
    split at hx
    · rename_i r hlr
      refine ⟨_, hx, hv, hl, ?_⟩
      cases hv with
      | yld _ f va vc hv =>
        obtain ⟨o, h1, _⟩ := hr.loops l r hlr
        obtain ⟨rfl, rfl, rfl⟩ := hv o h1
        trivial
    · exact hx.elim
  · exact hx.elim

end ops
end Go.Abs
