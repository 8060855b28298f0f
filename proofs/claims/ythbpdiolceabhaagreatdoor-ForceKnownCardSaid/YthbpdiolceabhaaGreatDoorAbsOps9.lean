/-
  Conversions between texts and bytes, at an abstract heap.
  Conditions: none.
-/
import Derived.Test.YthbpdiolceabhaaGreatDoorAbsOps8
import Derived.Laws.IdiomStrings
set_option linter.unusedVariables false
set_option linter.unusedSimpArgs false
set_option linter.unusedSectionVars false
namespace Go.Abs
variable [Gl]

/-- The text of rows of bytes. -/
def bytesA : List (List AV) → Option (List UInt8)
  | [] => some []
  | row :: r => match row with
    | [.int .u8 (.ofNat m)] => (match Nat.blt m 256 with
      | true => (match bytesA r with | some s => some (UInt8.ofNat m :: s) | none => none)
      | false => none)
    | _ => none

omit [Gl] in
theorem bytesA_eq : ∀ {rows : List (List AV)} {s : List UInt8}, bytesA rows = some s → rows = s.map fun c => [.int .u8 c.toNat]
  | [], s, h => by injection h with h; subst h; rfl
  | row :: r, s, h => by
    unfold bytesA at h
    split at h
    · rename_i m
      split at h
      · rename_i hm
        rw [Nat.blt_eq] at hm
        split at h
        · rename_i s' hs
          injection h with h; subst h
          rw [bytesA_eq hs, List.map_cons]
          have : (UInt8.ofNat m).toNat = m := by simp; omega
          rw [this]
          rfl
        · cases h
      · cases h
    · cases h

/-- A value without a text of its own: a slice. -/
def sliceB : AV → Bool
  | .vs _ _ | .nils | .ms _ _ _ _ => true
  | _ => false

def convBytesW (T : Tab) (h : Heap) (src dst : TypeId) (x : AV) (K : AV → Heap → Prop) : Prop :=
  match T src, T dst with
  | some si, some di =>
    match si.desc, di.desc with
    | .string, .slice e =>
      match T e, x with
      | some ei, .str s => ei.desc = .int .u8 ∧ K (.vs (s.map fun c => [.int .u8 c.toNat]) none) h
      | _, _ => False
    | .slice e, .string =>
      match T e, rowsOf h x with
      | some ei, some rows => ei.desc = .int .u8 ∧ sliceB x = true ∧ ∃ s, bytesA rows = some s ∧ K (.str s) h
      | _, _ => False
    | _, _ => False
  | _, _ => False

omit [Gl] in
theorem grows_alloc (w : World) (X : Obj) : Grows w (w.drew.alloc X) := by
  have hh : (w.drew.alloc X).heap = w.heap.push X := rfl
  refine ⟨by rw [hh, Array.size_push]; omega, rfl, rfl, rfl, fun B hB => ?_⟩
  rw [hh, Array.getElem?_push_lt hB, Array.getElem?_eq_getElem hB]
omit [Gl] in
theorem alloc_new (w : World) (X : Obj) : (w.drew.alloc X).heap[w.heap.size]? = some X := by
  have hh : (w.drew.alloc X).heap = w.heap.push X := rfl
  rw [hh, Array.getElem?_push_size]

section ops
variable {P : Program} {T : Tab} {h : Heap} {E : Env} {w : World} {K : AV → Heap → Prop}

theorem op_convBytes (hT : TabOK P T) (hr : HR E w h) {src dst : TypeId} {x : AV} {v : Value} (hx : VR E w x v) (hb : convBytesW T h src dst x K) : VOK P h E w (convert src dst v) K := by
  unfold convBytesW at hb
  split at hb
  · rename_i si di hs hd
    have us := (hT.ok _ _ hs).1
    have ud := (hT.ok _ _ hd).1
    split at hb
    · rename_i e hsd hdd
      split at hb
      · rename_i ei s hei
        obtain ⟨he, hk⟩ := hb
        have ue := (hT.ok _ _ hei).1
        rw [hsd] at us; rw [hdd] at ud; rw [he] at ue
        cases hx
        have hrun := run_bytes_of_string w src dst e ⟨s.toArray⟩ us ud ue
        have g := grows_alloc w (.cells (bytesRow ⟨s.toArray⟩ (grownCap w (⟨s.toArray⟩ : ByteArray).size 0 e)) e ((bytesRow ⟨s.toArray⟩ (grownCap w (⟨s.toArray⟩ : ByteArray).size 0 e)).size, (bytesRow ⟨s.toArray⟩ (grownCap w (⟨s.toArray⟩ : ByteArray).size 0 e)).size + 1))
        obtain ⟨x1, x2⟩ := g.ext hr h.blks.length h.loops.length
        have hsz : (⟨s.toArray⟩ : ByteArray).size = s.length := size_bytes s
        have hcap := grownCap_ge w s.length 0 e
        refine ⟨_, h, E, _, _, hrun, hk, ?_, x2, .vs _ _ fun i hi j hj => by simp only [List.getElem_map] at hj ⊢; simp only [List.getElem_singleton]; exact .int _ _, Nat.le_refl _, Nat.le_refl _, x1⟩
        rw [hsz]
        have hl : s.length = (s.map fun c => [AV.int .u8 c.toNat]).length := by simp
        rw [hl]
        refine .vs _ none w.heap.size 0 _ 1 (fun i _ => .int .u8 (s.getD i 0).toNat) (by rw [← hl]; exact hcap) (fun k hk => by cases hk) (fun i hi => by simp) (fun i hi j hj => ?_) (fun i hi j hj => ?_)
        · have hi' : i < s.length := by simpa using hi
          have hj0 : j = 0 := by simpa using hj
          subst hj0
          refine ⟨fun hF => absurd (hr.inside _ hF) (Nat.lt_irrefl _), ?_⟩
          have hnew := fun X => alloc_new w X
          rw [← hl]
          simp only [World.cell?, hnew]
          have hi2 : i < ((s.map fun b => Value.int .u8 (b.toNat : Int)).toArray).size := by simpa using hi'
          simp [bytesRow, hi']
          rw [Array.getElem?_append_left hi2]
          simp [hi']
        · have hi' : i < s.length := by simpa using hi
          simp only [List.getElem_map] at hj ⊢
          have hj0 : j = 0 := by simpa using hj
          subst hj0
          simp [hi']
          exact .int _ _
      · exact hb.elim
    · rename_i e hsd hdd
      split at hb
      · rename_i ei rows hei hrows
        obtain ⟨he, hsl, s, hby, hk⟩ := hb
        have ue := (hT.ok _ _ hei).1
        rw [hsd] at us; rw [hdd] at ud; rw [he] at ue
        have hrs := bytesA_eq hby
        refine .val hr (v := .string ⟨s.toArray⟩) ?_ (.str _) (.str _) hk
        cases x <;> simp only [sliceB, Bool.false_eq_true] at hsl
        · -- nil
          cases hx
          simp only [rowsOf, Option.some.injEq] at hrows
          subst hrows
          simp only [bytesA, Option.some.injEq] at hby
          subst hby
          rw [run_convert_bytes_string w src dst e none 0 0 us ue ud]
          simp [Conv.bytesToString]
          rfl
        · rename_i es capo
          simp only [rowsOf, Option.some.injEq] at hrows
          subst hrows
          cases hx with
          | vs _ _ B off cap sz vals hlen hcap hsz hF hh =>
            have hl : es.length = s.length := by rw [hrs]; simp
            rw [hl]
            refine run_convert_bytes_back w src dst e ⟨B, off, none⟩ cap s us ue ud fun j hj => ?_
            have hj' : j < es.length := by omega
            have hrow : es[j] = [.int .u8 s[j].toNat] := by simp only [hrs, List.getElem_map]
            have h0 : 0 < es[j].length := by rw [hrow]; simp
            have hs1 : sz = 1 := by rw [← hsz j hj', hrow]; rfl
            have h1 := (hF j hj' 0 h0).2
            have h2 := hh j hj' 0 h0
            have h3 : es[j][0] = .int .u8 s[j].toNat := by simp only [hrow, List.getElem_cons_zero]
            rw [h3] at h2
            rw [Addr.add_none]
            rw [hs1, Nat.mul_one, Nat.add_zero] at h1
            rw [h1]
            generalize vals j 0 = v at h2
            cases h2; rfl
        · rename_i b i len capo
          simp only [rowsOf] at hrows
          split at hrows
          · rename_i rs g fz hbl
            split at hrows
            · rename_i hle
              injection hrows with hrows
              obtain ⟨Ls, L, c, g1, hL, g2, g3, g4, g5, g6, rfl⟩ := ms_loc hr hx hbl
              have hla := g2.all L hL
              obtain ⟨arr, el, a1, a2, a3⟩ := hla.lies
              have hl : len = s.length := by
                have := congrArg List.length hrs
                rw [← hrows] at this
                simp at this; omega
              rw [hl]
              refine run_convert_bytes_back w src dst e ⟨L.blk, L.off + i * L.sz, none⟩ c s us ue ud fun j hj => ?_
              have hj' : i + j < rs.length := by omega
              have hrow : rs[i + j] = [.int .u8 s[j].toNat] := by
                have e1 : ((rs.drop i).take len)[j]'(by simp; omega) = rs[i + j] := by simp
                rw [← e1]
                have e2 : ((rs.drop i).take len) = s.map fun c => [AV.int .u8 c.toNat] := hrows.trans hrs
                simp only [e2, List.getElem_map]
              have h0 : 0 < rs[i + j].length := by rw [hrow]; simp
              have hs1 : L.sz = 1 := by rw [← hla.sz _ hj', hrow]; rfl
              obtain ⟨v, b1, b2, _⟩ := a3 (i + j) hj' (by omega) 0 h0
              have h3 : rs[i + j][0] = .int .u8 s[j].toNat := by simp only [hrow, List.getElem_cons_zero]
              rw [h3] at b2
              rw [Addr.add_none]
              rw [hs1, Nat.mul_one, Nat.add_zero] at b1
              rw [hs1, Nat.mul_one, Nat.add_assoc]
              simp only [World.cell?, a1]
              rw [b1]
              cases b2; rfl
            · cases hrows
          · cases hrows
      · exact hb.elim
    · exact hb.elim
  · exact hb.elim

end ops
end Go.Abs
