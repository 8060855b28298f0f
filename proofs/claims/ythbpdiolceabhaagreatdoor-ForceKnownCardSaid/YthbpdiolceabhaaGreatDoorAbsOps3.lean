/-
  The abstract operations are the model's: slices, comparisons, conversions.
  Conditions: none.
-/
import Derived.Test.YthbpdiolceabhaaGreatDoorAbsOps2
import Derived.Laws.StructEq
import Derived.ChangeKeysEq
set_option linter.unusedVariables false
set_option linter.unusedSimpArgs false
set_option linter.unusedSectionVars false
namespace Go.Abs
variable [Gl]

section ops
variable {P : Program} {T : Tab} {h : Heap} {E : Env} {w : World} {K : AV → Heap → Prop}

/-- The values of optional operands. -/
inductive OVR (E : Env) (w : World) : Option AV → Option Value → Prop where
  | none : OVR E w none none
  | some (x : AV) (v : Value) (h : VR E w x v) : OVR E w (some x) (some v)

omit [Gl] in
theorem run_bound {x : Int} {k : IntKind} {y : Nat} {code : BoundsCode} (h0 : 0 ≤ x) (h1 : x ≤ y) : (Instr.sliceBound (.int k x) y code).run P w = .ok x.toNat w := by
  simp [Instr.sliceBound, asIntOf, h0, h1]

theorem run_bounds {isSlice : Bool} {len cap : Nat} {lo hi : Option AV} {vlo vhi : Option Value} {l u : Int} (hlo : OVR E w lo vlo) (hhi : OVR E w hi vhi) (hl : lowA lo = some l) (hu : highA len hi = some u)
    (h0 : 0 ≤ l) (h1 : l ≤ u) (h2 : u ≤ cap) : (Instr.sliceBounds isSlice len cap vlo vhi none).run P w = .ok (l.toNat, u.toNat, cap) w := by
  cases hhi with
  | none =>
    simp only [highA, Option.some.injEq] at hu
    subst hu
    cases hlo with
    | none => simp only [lowA, Option.some.injEq] at hl; subst hl; simp [Instr.sliceBounds]
    | some x v hv =>
      cases x <;> simp only [lowA] at hl <;> first | (cases hl; done) | skip
      injection hl with hl; subst hl
      cases hv
      simp [Instr.sliceBounds, run_bound h0 h1]
  | some y vy hy =>
    cases y <;> simp only [highA] at hu <;> first | (cases hu; done) | skip
    injection hu with hu; subst hu
    cases hy
    rename_i k n
    have e : ((n.toNat : Nat) : Int) = n := by omega
    cases hlo with
    | none => simp only [lowA, Option.some.injEq] at hl; subst hl; simp [Instr.sliceBounds, run_bound (Int.le_trans h0 h1) h2]
    | some x v hv =>
      cases x <;> simp only [lowA] at hl <;> first | (cases hl; done) | skip
      injection hl with hl; subst hl
      cases hv
      simp [Instr.sliceBounds, run_bound (Int.le_trans h0 h1) h2, run_bound h0 (e ▸ h1 : _ ≤ ((n.toNat : Nat) : Int))]

theorem run_bounds3 {isSlice : Bool} {len cap : Nat} {lo hi : Option AV} {vlo vhi : Option Value} {l u m : Int} {km : IntKind} (hlo : OVR E w lo vlo) (hhi : OVR E w hi vhi) (his : hi.isSome = true) (hl : lowA lo = some l) (hu : highA len hi = some u)
    (h0 : 0 ≤ l) (h1 : l ≤ u) (h2 : u ≤ m) (h3 : m ≤ cap) : (Instr.sliceBounds isSlice len cap vlo vhi (some (.int km m))).run P w = .ok (l.toNat, u.toNat, m.toNat) w := by
  have em : ((m.toNat : Nat) : Int) = m := by omega
  cases hhi with
  | none => cases his
  | some y vy hy =>
    cases y <;> simp only [highA] at hu <;> first | (cases hu; done) | skip
    injection hu with hu; subst hu
    cases hy
    rename_i k n
    have e : ((n.toNat : Nat) : Int) = n := by omega
    have b1 : ∀ code, (Instr.sliceBound (.int k n) m.toNat code).run P w = .ok n.toNat w := fun code => run_bound (Int.le_trans h0 h1) (em ▸ h2)
    have b2 : ∀ code, (Instr.sliceBound (.int km m) cap code).run P w = .ok m.toNat w := fun code => run_bound (Int.le_trans (Int.le_trans h0 h1) h2) h3
    cases hlo with
    | none => simp only [lowA, Option.some.injEq] at hl; subst hl; simp [Instr.sliceBounds, b1, b2]
    | some x v hv =>
      cases x <;> simp only [lowA] at hl <;> first | (cases hl; done) | skip
      injection hl with hl; subst hl
      cases hv
      simp [Instr.sliceBounds, b1, b2, run_bound h0 (e ▸ h1 : _ ≤ ((n.toNat : Nat) : Int))]

omit [Gl] in
theorem extract_bytes (s : List UInt8) (l u : Nat) : (⟨s.toArray⟩ : ByteArray).extract l u = ⟨((s.take u).drop l).toArray⟩ := by
  have : ((⟨s.toArray⟩ : ByteArray).extract l u).data = ((s.take u).drop l).toArray := by
    rw [ByteArray.data_extract]
    simp [List.drop_take]
  exact congrArg ByteArray.mk this

omit [Gl] in
theorem VR.str' {s : List UInt8} {v : ByteArray} (h : v = ⟨s.toArray⟩) : VR E w (.str s) (.string v) := h ▸ .str s

omit [Gl] in
theorem drop_take_get {α : Type} (es : List α) (l u t : Nat) (ht : t < ((es.take u).drop l).length) : ∃ h : l + t < es.length, ((es.take u).drop l)[t] = es[l + t] := by
  simp only [List.length_drop, List.length_take] at ht
  exact ⟨by omega, by simp⟩

theorem lt_window {n m l u : Nat} {es : List (List AV)} {capo capo' : Option Nat} (hl : Lt n m (.vs es capo)) : Lt n m (.vs ((es.take u).drop l) capo') := by
  cases hl with
  | vs _ _ hl =>
    refine .vs _ _ fun i hi j hj => ?_
    obtain ⟨h1, h2⟩ := drop_take_get es l u i hi
    have := hl (l + i) h1 j (by rw [← h2]; exact hj)
    have e : ((es.take u).drop l)[i][j] = es[l + i][j]'(by rw [← h2]; exact hj) := by simp
    rw [e]; exact this

omit [Gl] in
/-- An empty slice of no known place. -/
theorem vs_empty {capo : Option Nat} {a : Addr} {cap : Nat} (ha : a.spot = none) (hk : ∀ k, capo = some k → cap = k) : VR E w (.vs [] capo) (.slice (some a) 0 cap) := by
  obtain ⟨B, o, sp⟩ := a
  obtain rfl : sp = none := ha
  exact VR.vs [] capo B o cap 0 (fun _ _ => undef) (Nat.zero_le _) hk (fun i hi => by simp at hi) (fun i hi => by simp at hi) (fun i hi => by simp at hi)

/-- Where a slice expression leads. -/
def cut (a : Option Addr) (l m size : Nat) : Option Addr := if m = l then a else a.map (·.add (l * size))

theorem run_slice (hT : TabOK P T) {t e : TypeId} {ti ei : TI} (ht : T t = some ti) (hd : ti.desc = .slice e) (hei : T e = some ei) {a : Option Addr} {len cap l u m : Nat} {vlo vhi vmx : Option Value}
    (hb : (Instr.sliceBounds true len cap vlo vhi vmx).run P w = .ok (l, u, m) w) :
    (Instr.slice t (.slice a len cap) vlo vhi vmx).run P w = .ok (.slice (cut a l m ei.size) (u - l) (m - l)) w := by
  simp only [Instr.slice, Sem.run_bind, run_und hT ht, Result.andThen_ok, hd, hb, run_sizeOf hT hei, cut]
  rfl

theorem vs_window {es : List (List AV)} {capo' : Option Nat} {B off sz size l u m : Nat} {vals : Nat → Nat → Value} (hu : u ≤ es.length) (hlu : l ≤ u) (hum : u ≤ m)
    (hsz : ∀ (i : Nat) (hi : i < es.length), es[i].length = sz) (hsize : ∀ row ∈ es, row.length = size)
    (hF : ∀ (i : Nat) (hi : i < es.length) (j : Nat) (hj : j < es[i].length), ¬ E.F B ∧ w.cell? ⟨B, off + i * sz + j, none⟩ = some (vals i j))
    (hh : ∀ (i : Nat) (hi : i < es.length) (j : Nat) (hj : j < es[i].length), VR E w es[i][j] (vals i j)) (hk : ∀ k, capo' = some k → m - l = k) :
    VR E w (.vs ((es.take u).drop l) capo') (.slice (cut (some ⟨B, off, none⟩) l m size) (u - l) (m - l)) := by
  by_cases hul : u = l
  · have e : (es.take u).drop l = [] := by apply List.eq_nil_of_length_eq_zero; simp; omega
    rw [e, hul, Nat.sub_self]
    unfold cut
    split
    · exact vs_empty rfl hk
    · simp only [Option.map_some, Addr.add_none]; exact vs_empty rfl hk
  · have hml : ¬ m = l := by omega
    have hlen : ((es.take u).drop l).length = u - l := by simp; omega
    have hss : size = sz := by
      have h0 : l < es.length := by omega
      rw [← hsize _ (List.getElem_mem h0), hsz l h0]
    simp only [cut, if_neg hml, Option.map_some, Addr.add_none]
    have key := VR.vs (E := E) (w := w) ((es.take u).drop l) capo' B (off + l * size) (m - l) sz (fun i j => vals (l + i) j) (by rw [hlen]; omega) hk
      (fun i hi => by obtain ⟨h1, h2⟩ := drop_take_get es l u i hi; rw [h2]; exact hsz _ h1)
      (fun i hi j hj => by
        obtain ⟨h1, h2⟩ := drop_take_get es l u i hi
        have := hF (l + i) h1 j (by rw [← h2]; exact hj)
        rw [hss, show off + l * sz + i * sz + j = off + (l + i) * sz + j from by rw [Nat.add_mul]; omega]; exact this)
      (fun i hi j hj => by
        obtain ⟨h1, h2⟩ := drop_take_get es l u i hi
        have := hh (l + i) h1 j (by rw [← h2]; exact hj)
        have e : ((es.take u).drop l)[i][j] = es[l + i][j]'(by rw [← h2]; exact hj) := by simp
        rw [e]; exact this)
    rw [hlen] at key
    exact key

theorem ms_window {b s len c l u m : Nat} {capo' : Option Nat} {Ls : List Loc} {L : Loc} (h1 : E.ρ b = some Ls) (hL : L ∈ Ls) (h3 : s + len ≤ L.len) (h5 : L.off + (s + c) * L.sz ≤ L.n)
    (hlu : l ≤ u) (hum : u ≤ m) (hul : u ≤ len) (hmc : m ≤ c) (hk : ∀ k, capo' = some k → m - l = k) (hpos : l = 0 ∨ l < m) :
    VR E w (.ms b (s + l) (u - l) capo') (.slice (cut (some ⟨L.blk, L.off + s * L.sz, none⟩) l m L.sz) (u - l) (m - l)) := by
  refine .ms _ _ _ _ _ _ _ fun Ls' hLs' => ?_
  rw [h1] at hLs'; injection hLs' with hLs'; subst hLs'
  refine ⟨L, hL, by omega, by omega, ?_, hk, ?_, rfl⟩
  · have : (s + l + (m - l)) * L.sz ≤ (s + c) * L.sz := Nat.mul_le_mul_right _ (by omega)
    omega
  · unfold cut
    rcases hpos with rfl | hlm
    · split
      · simp
      · simp [Addr.add_none]
    · rw [if_neg (by omega)]
      simp only [Option.map_some, Addr.add_none]
      rw [show L.off + s * L.sz + l * L.sz = L.off + (s + l) * L.sz from by rw [Nat.add_mul]; omega]

theorem op_slice (hT : TabOK P T) (hr : HR E w h) {t : TypeId} {x : AV} {v : Value} {lo hi mx : Option AV} {vlo vhi vmx : Option Value} (hv : VR E w x v) (hlo : OVR E w lo vlo) (hhi : OVR E w hi vhi) (hmx : OVR E w mx vmx)
    (hl : Lt h.blks.length h.loops.length x) (hx : sliceW T h t x lo hi mx (fun r => K r h)) : VOK P h E w (Instr.slice t v vlo vhi vmx) K := by
  unfold sliceW at hx
  split at hx
  · exact hx.elim
  · rename_i ti ht
    split at hx
    · rename_i s hd
      split at hx
      · rename_i l u hl1 hu1
        obtain ⟨⟨h0, h1, h2⟩, hk⟩ := hx
        cases hmx
        cases hv
        have hb := run_bounds (P := P) (isSlice := false) (cap := s.length) hlo hhi hl1 hu1 h0 h1 h2
        refine .val hr (v := .string ((⟨s.toArray⟩ : ByteArray).extract l.toNat u.toNat)) ?_ (VR.str' (extract_bytes s _ _)) (.str _) hk
        simp [Instr.slice, run_und hT ht, hd, size_bytes, hb]
      · exact hx.elim
    · rename_i e es capo hd
      cases hv with
      | vs _ _ B off cap sz vals hlen hcap hsz hF hh =>
        split at hx
        · rename_i ei l u hei hl1 hu1
          obtain ⟨⟨h0, h1, h2⟩, hrow, hk⟩ := hx
          cases hmx
          have hb := run_bounds (P := P) (isSlice := true) (cap := cap) hlo hhi hl1 hu1 h0 h1 (by omega)
          refine .val hr (run_slice hT ht hd hei hb) (vs_window (by omega) (by omega) (by omega) hsz hrow hF hh (fun k hk => ?_)) (lt_window hl) hk
          cases capo with
          | none => cases hk
          | some k' => simp only [Option.map_some, Option.some.injEq] at hk; rw [hcap k' rfl]; exact hk
        · rename_i ei l u km m hei hl1 hu1
          obtain ⟨his, ⟨h0, h1, h2, h3⟩, hrow, hk⟩ := hx
          cases hmx with
          | some _ _ hm =>
            cases hm
            have hb := run_bounds3 (P := P) (isSlice := true) (cap := cap) (km := km) hlo hhi his hl1 hu1 h0 h1 h2 (by omega)
            exact .val hr (run_slice hT ht hd hei hb) (vs_window (by omega) (by omega) (by omega) hsz hrow hF hh (fun k hk => by injection hk)) (lt_window hl) hk
        · exact hx.elim
    · rename_i e hd
      cases hv
      split at hx
      · rename_i ei l u hei hl1 hu1
        obtain ⟨⟨rfl, rfl⟩, hk⟩ := hx
        cases hmx
        have hb := run_bounds (P := P) (w := w) (isSlice := true) (cap := 0) hlo hhi hl1 hu1 (by omega) (by omega) (by omega)
        exact .val hr (run_slice hT ht hd hei (a := none) hb) .nils .nils hk
      · rename_i ei l u km m hei hl1 hu1
        obtain ⟨his, ⟨rfl, rfl, rfl⟩, hk⟩ := hx
        cases hmx with
        | some _ _ hm =>
          cases hm
          have hb := run_bounds3 (P := P) (w := w) (isSlice := true) (cap := 0) (km := km) (m := 0) hlo hhi his hl1 hu1 (by omega) (by omega) (by omega) (by omega)
          exact .val hr (run_slice hT ht hd hei (a := none) hb) .nils .nils hk
      · exact hx.elim
    · rename_i e b s len capo hd
      split at hx
      · rename_i ei l u hei hl1 hu1
        have size : ∀ (rs : List (List AV)) (g fz : Bool) (Ls : List Loc) (L : Loc) (m : Nat) (a : Option Addr), h.blk? b = some (.rows rs g fz) → L ∈ Ls → RowsAt E w Ls rs g fz → s + len ≤ L.len → (∀ row ∈ rs, row.length = ei.size) → l.toNat ≤ len →
            (∃ B o, a = some ⟨B, o, none⟩) → cut a l.toNat m ei.size = cut a l.toNat m L.sz := by
          intro rs g fz Ls L m a hb hL g2 g3 hrow hll ⟨B, o, ha⟩
          by_cases hrs : rs.length = 0
          · have := (g2.all L hL).len
            have hl0 : l.toNat = 0 := by omega
            subst ha
            simp [cut, hl0, Addr.add]
          · have h0 : 0 < rs.length := by omega
            have : L.sz = ei.size := by rw [← (g2.all L hL).sz 0 h0]; exact hrow _ (List.getElem_mem h0)
            rw [this]
        split at hx
        · obtain ⟨⟨h0, h1, h2⟩, hblk, hk⟩ := hx
          split at hblk
          · rename_i rs g fz hb
            obtain ⟨Ls, L, c, g1, hL, g2, g3, g4, g5, g6, rfl⟩ := ms_loc hr hv hb
            cases hmx
            have hbd := run_bounds (P := P) (w := w) (isSlice := true) (cap := c) hlo hhi hl1 hu1 h0 h1 (by omega)
            have hsl := run_slice hT ht hd hei (a := some ⟨L.blk, L.off + s * L.sz, none⟩) hbd
            rcases hk with ⟨hpos, hk⟩ | ⟨rfl, hk⟩
            · rw [size rs g fz Ls L c _ hb hL g2 g3 hblk (by omega) ⟨_, _, rfl⟩] at hsl
              refine .val hr hsl (ms_window g1 hL g3 g5 (by omega) (by omega) (by omega) (by omega) (fun k hk => ?_) (by omega)) (by cases hl with | ms _ _ _ _ hl => exact .ms _ _ _ _ hl) hk
              cases capo with
              | none => cases hk
              | some k' => simp only [Option.map_some, Option.some.injEq] at hk; rw [g6 k' rfl]; exact hk
            · refine .val hr hsl ?_ (.vs _ _ fun i hi => by simp at hi) hk
              rw [Nat.sub_self]
              unfold cut
              split
              · exact vs_empty rfl (fun _ h => by cases h)
              · simp only [Option.map_some, Addr.add_none]; exact vs_empty rfl (fun _ h => by cases h)
          · exact hblk.elim
        · rename_i km m
          obtain ⟨his, ⟨h0, h1, h2, h3⟩, hblk, hk⟩ := hx
          split at hblk
          · rename_i rs g fz hb
            obtain ⟨Ls, L, c, g1, hL, g2, g3, g4, g5, g6, rfl⟩ := ms_loc hr hv hb
            cases hmx with
            | some _ _ hm =>
              cases hm
              have hbd := run_bounds3 (P := P) (w := w) (isSlice := true) (cap := c) (km := km) hlo hhi his hl1 hu1 h0 h1 h2 (by omega)
              have hsl := run_slice hT ht hd hei (a := some ⟨L.blk, L.off + s * L.sz, none⟩) hbd
              rcases hk with ⟨hpos, hk⟩ | ⟨rfl, hk⟩
              · rw [size rs g fz Ls L _ _ hb hL g2 g3 hblk (by omega) ⟨_, _, rfl⟩] at hsl
                exact .val hr hsl (ms_window g1 hL g3 g5 (by omega) (by omega) (by omega) (by omega) (fun k hk => by injection hk) (by omega)) (by cases hl with | ms _ _ _ _ hl => exact .ms _ _ _ _ hl) hk
              · refine .val hr hsl ?_ (.vs _ _ fun i hi => by simp at hi) hk
                rw [Nat.sub_self, show u.toNat - l.toNat = 0 from by omega]
                unfold cut
                rw [if_pos rfl]
                exact vs_empty rfl (fun k h => by injection h)
          · exact hblk.elim
        · exact hx.elim
      · exact hx.elim
    · exact hx.elim

/-- Equal values of a type whose values have no memory. -/
theorem run_eqA (hT : TabOK P T) : ∀ (n d : Nat) (t : TypeId) (b : Bool) (x y : AV) (vx vy : Value), VR E w x vx → VR E w y vy → eqA T n t x y = some b → n ≤ d + 1 →
    (Op.equalIn (d + 1) t vx vy).run P w = .ok b w
  | 0, _, _, _, _, _, _, _, _, _, h, _ => by cases h
  | n + 1, d, t, b, x, y, vx, vy, hx, hy, h, hn => by
    simp only [eqA] at h
    split at h
    · cases h
    · rename_i ti ht
      split at h
      · rename_i a c hd
        injection h with h; subst h
        cases hx; cases hy
        simp [Op.equalIn, run_und hT ht, hd]
      · rename_i k k1 a k2 c hd
        split at h
        · rename_i hk
          injection h with h; subst h
          cases hx; cases hy
          simp [Op.equalIn, run_und hT ht, hd, hk]
        · cases h
      · rename_i a c hd
        injection h with h; subst h
        cases hx; cases hy
        have e : ((⟨a.toArray⟩ : ByteArray) == ⟨c.toArray⟩) = (a == c) := by
          rw [beq_toListBytes, toList_bytes, toList_bytes]
        simp [Op.equalIn, run_und hT ht, hd, e]
      · rename_i fs xs ys hd
        split at h
        · rename_i hc
          cases hx with
          | agg _ vxs hsx hx =>
          cases hy with
          | agg _ vys hsy hy =>
            have hu : P.underlying t = some (.struct (P.fieldsOf t)) := by
              have := (hT.ok t ti ht).1
              rw [hd] at this
              simp [Program.fieldsOf, this]
            have hfs : P.fieldsOf t = fs := by
              have := (hT.ok t ti ht).1
              rw [hd] at this
              simp [Program.fieldsOf, this]
            rw [run_equalIn_struct w d t vxs vys hu (hT.cmp t ti ht hc).1, hfs]
            cases d with
            | zero =>
              -- no field can be compared at depth 0
              have hn0 : n = 0 := by omega
              subst hn0
              revert h b
              cases fs.toList with
              | nil => intro b h; injection h with h; subst h; simp [Op.eqFields]
              | cons f r =>
                intro b h
                simp only [eqFieldsA] at h
                split at h
                · cases h
                · split at h
                  · cases h
                  · split at h
                    · split at h
                      · rename_i h1 _; simp [eqA] at h1
                      · cases h
                    · cases h
            | succ d =>
              have ih := fun t b x y vx vy hx hy h => run_eqA hT n d t b x y vx vy hx hy h (by omega)
              revert h b
              generalize fs.toList = l
              induction l with
              | nil => intro b h; injection h with h; subst h; simp [Op.eqFields]
              | cons f r ihr =>
                intro b h
                simp only [eqFieldsA] at h
                split at h
                · cases h
                · rename_i hname
                  split at h
                  · cases h
                  · rename_i fi hfi
                    split at h
                    · rename_i a c ha hcc
                      split at h
                      · rename_i p q hp hq
                        injection h with h; subst h
                        obtain ⟨va, ra, vra⟩ := part_agg hT hfi hsx hx ha
                        obtain ⟨vc, rc, vrc⟩ := part_agg hT hfi hsy hy hcc
                        have e1 := ih f.type p a c va vc vra vrc hp
                        have e2 := ihr q hq
                        cases p
                        · simp [Op.eqFields, hname, ra, rc, e1]
                        · simp [Op.eqFields, hname, ra, rc, e1, e2]
                      · cases h
                    · cases h
        · cases h
      · rename_i len e xs ys hd
        split at h
        · rename_i hc
          split at h
          · cases h
          · rename_i ei hei
            cases hx with
            | agg _ vxs hsx hx =>
            cases hy with
            | agg _ vys hsy hy =>
              have hu : P.underlying t = some (.array len e) := by
                have := (hT.ok t ti ht).1
                rw [hd] at this; exact this
              obtain ⟨_, info, hinfo, hsize, _⟩ := hT.ok e ei hei
              have hce : P.cellsOf e = ei.size := by simp [Program.cellsOf, hinfo, hsize]
              rw [run_equalIn_array w d vxs vys hu hinfo, hce]
              cases d with
              | zero =>
                have hn0 : n = 0 := by omega
                subst hn0
                revert h b
                cases List.range len with
                | nil => intro b h; injection h with h; subst h; simp [Op.eqItems]
                | cons f r =>
                  intro b h
                  simp only [eqElemsA] at h
                  split at h
                  · split at h
                    · rename_i h1 _; simp [eqA] at h1
                    · cases h
                  · cases h
              | succ d =>
                have ih := fun t b x y vx vy hx hy h => run_eqA hT n d t b x y vx vy hx hy h (by omega)
                revert h b
                generalize List.range len = l
                induction l with
                | nil => intro b h; injection h with h; subst h; simp [Op.eqItems]
                | cons f r ihr =>
                  intro b h
                  simp only [eqElemsA] at h
                  split at h
                  · rename_i a c ha hcc
                    split at h
                    · rename_i p q hp hq
                      injection h with h; subst h
                      obtain ⟨va, ra, vra⟩ := part_agg hT hei hsx hx ha
                      obtain ⟨vc, rc, vrc⟩ := part_agg hT hei hsy hy hcc
                      have e1 := ih e p a c va vc vra vrc hp
                      have e2 := ihr q hq
                      cases p
                      · simp [Op.eqItems, ra, rc, e1]
                      · simp [Op.eqItems, ra, rc, e1, e2]
                    · cases h
                  · cases h
        · cases h
      · cases h

theorem run_equal_nil {d : TypeDesc} {t : TypeId} {x y : AV} {vx vy : Value} {b : Bool} (hr : HR E w h) (hd : P.underlying t = some d) (hx : VR E w x vx) (hy : VR E w y vy) (hn : isNil d x = true) (hb : nilA h d y = some b) :
    (Op.equal t vx vy).run P w = .ok b w ∧ (Op.equal t vy vx).run P w = .ok b w := by
  have hu := run_underlying (w := w) hd
  obtain ⟨d', hd'⟩ : ∃ d', Op.maxDepth = d' + 1 := ⟨9999, rfl⟩
  have heq : ∀ a b, Op.equal t a b = Op.equalIn (d' + 1) t a b := fun a b => by unfold Op.equal; rw [hd']
  have live : ∀ c, (match h.blk? c with | some _ => some false | none => none) = some b → b = false ∧ ∃ k, h.blk? c = some k := fun c hc => by
    split at hc
    · rename_i k hk; injection hc with hc; exact ⟨hc.symm, k, hk⟩
    · cases hc
  have loc : ∀ c k, h.blk? c = some k → ∃ Ls, E.ρ c = some Ls := fun c k hk => by
    cases k with
    | rows rs g fz => obtain ⟨Ls, h1, _⟩ := hr.rows c rs g fz hk; exact ⟨Ls, h1⟩
    | mapb es => obtain ⟨Ls, h1, _⟩ := hr.maps c es hk; exact ⟨Ls, h1⟩
  cases d <;> cases x <;> simp only [isNil, Bool.false_eq_true] at hn
  all_goals cases y <;> simp only [nilA] at hb <;> first | (cases hb; done) | skip
  all_goals cases hx
  case pointer.nilp.nilp => cases hy; injection hb with hb; subst hb; simp [heq, Op.equalIn, hu]
  case pointer.nilp.vp => cases hy; injection hb with hb; subst hb; simp [heq, Op.equalIn, hu]
  case pointer.nilp.gp => cases hy; injection hb with hb; subst hb; simp [heq, Op.equalIn, hu]
  case pointer.nilp.ptr =>
    obtain ⟨rfl, k, hk⟩ := live _ hb
    obtain ⟨Ls, h1⟩ := loc _ _ hk
    cases hy with
    | ptr _ _ _ a hv => obtain ⟨L, _, _, _, rfl⟩ := hv Ls h1; simp [heq, Op.equalIn, hu]
  case slice.nils.nils => cases hy; injection hb with hb; subst hb; simp [heq, Op.equalIn, hu]
  case slice.nils.vs => cases hy; injection hb with hb; subst hb; simp [heq, Op.equalIn, hu]
  case slice.nils.ms =>
    obtain ⟨rfl, k, hk⟩ := live _ hb
    obtain ⟨Ls, h1⟩ := loc _ _ hk
    cases hy with
    | ms _ _ _ _ a l c hv => obtain ⟨L, _, _, _, _, _, rfl, _⟩ := hv Ls h1; simp [heq, Op.equalIn, hu]
  case func.nilf.nilf => cases hy; injection hb with hb; subst hb; simp [heq, Op.equalIn, hu]
  case func.nilf.fn => cases hy; injection hb with hb; subst hb; simp [heq, Op.equalIn, hu]
  case map.nilm.nilm => cases hy; injection hb with hb; subst hb; simp [heq, Op.equalIn, hu]
  case map.nilm.mp =>
    obtain ⟨rfl, k, hk⟩ := live _ hb
    obtain ⟨Ls, h1⟩ := loc _ _ hk
    cases hy with
    | mp _ r hv => obtain ⟨L, _, rfl⟩ := hv Ls h1; simp [heq, Op.equalIn, hu]
end ops
end Go.Abs
