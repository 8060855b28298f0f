/-
  The abstract operations are the model's: operations with two operands, conversions.
  Conditions: none.
-/
import Derived.Test.YthbpdiolceabhaaGreatDoorAbsOps3
set_option linter.unusedVariables false
set_option linter.unusedSimpArgs false
set_option linter.unusedSectionVars false
namespace Go.Abs
variable [Gl]

section ops
variable {P : Program} {T : Tab} {h : Heap} {E : Env} {w : World} {K : AV → Heap → Prop}

/-- The term of an operation with two operands. -/
def binT (op : BinOp) (t : TypeId) (ox oy : Operand) (vx vy : Value) : Sem Value := do eqGuard op t ox oy vx vy; binOp op t vx vy

omit [Gl] in
theorem guard_other {op : BinOp} {t : TypeId} {ox oy : Operand} {vx vy : Value} (h1 : (op == .eql || op == .neq) = false) : (eqGuard op t ox oy vx vy).run P w = .ok () w := by
  cases op <;> first | (simp at h1; done) | (simp [eqGuard])
omit [Gl] in
theorem guard_plain {op : BinOp} {t : TypeId} {ox oy : Operand} {vx vy : Value} (h1 : vx ≠ .nilIface) (h2 : ∀ xs ys, vx = .agg xs → vy = .agg ys → P.eqGuardType P.depth t = false) :
    (eqGuard op t ox oy vx vy).run P w = .ok () w := by
  cases op
  case eql =>
    simp [eqGuard]
    split
    · exact absurd rfl h1
    · rename_i xs ys
      simp [h2 xs ys rfl rfl]
    · simp
  case neq =>
    simp [eqGuard]
    split
    · exact absurd rfl h1
    · rename_i xs ys
      simp [h2 xs ys rfl rfl]
    · simp
  all_goals simp [eqGuard]

theorem VOK.bind_guard {op : BinOp} {t : TypeId} {ox oy : Operand} {vx vy : Value} (hg : (eqGuard op t ox oy vx vy).run P w = .ok () w) (hb : VOK P h E w (binOp op t vx vy) K) : VOK P h E w (binT op t ox oy vx vy) K := by
  obtain ⟨r, h', E', w', v, h1, rest⟩ := hb
  exact ⟨r, h', E', w', v, by simp [binT, hg, h1], rest⟩

theorem op_str {op : BinOp} {a b : List UInt8} {t : TypeId} {r : AV} (hr : HR E w h) (hx : strA op a b = some r) (hk : K r h) : VOK P h E w (binOp op t (.string ⟨a.toArray⟩) (.string ⟨b.toArray⟩)) K := by
  cases op <;> simp only [strA] at hx <;> first | (cases hx; done) | skip
  all_goals injection hx with hx; subst hx
  all_goals exact .bool hr (by simp [binOp, Op.stringOp, toList_bytes]) hk

omit [Gl] in
theorem append_bytes (a b : List UInt8) : (⟨a.toArray⟩ : ByteArray) ++ ⟨b.toArray⟩ = ⟨(a ++ b).toArray⟩ := by
  apply ByteArray.ext
  rw [ByteArray.data_append]
  simp

omit [Gl] in
theorem eql_run {t : TypeId} {vx vy : Value} {b : Bool} (hs : (∀ k a k' c, vx = .int k a → vy = .int k' c → False) ∧ (∀ k a k' c, vx = .float k a → vy = .float k' c → False) ∧ (∀ k a c k' d e, vx = .complex k a c → vy = .complex k' d e → False) ∧ (∀ a c, vx = .string a → vy = .string c → False))
    (he : (Op.equal t vx vy).run P w = .ok b w) : (binOp .eql t vx vy).run P w = .ok (.bool b) w ∧ (binOp .neq t vx vy).run P w = .ok (.bool !b) w := by
  obtain ⟨h1, h2, h3, h4⟩ := hs
  constructor
  · unfold binOp
    split <;> first | (rename_i h; cases h; done) | skip
    all_goals first
      | (exact (h1 _ _ _ _ rfl rfl).elim)
      | (exact (h2 _ _ _ _ rfl rfl).elim)
      | (exact (h3 _ _ _ _ _ _ rfl rfl).elim)
      | (exact (h4 _ _ rfl rfl).elim)
      | (simp [he]; done)
      | simp_all
  · unfold binOp
    split <;> first | (rename_i h; cases h; done) | skip
    all_goals first
      | (exact (h1 _ _ _ _ rfl rfl).elim)
      | (exact (h2 _ _ _ _ rfl rfl).elim)
      | (exact (h3 _ _ _ _ _ _ rfl rfl).elim)
      | (exact (h4 _ _ rfl rfl).elim)
      | (simp [he]; done)
      | simp_all

/-- Values that a comparison with nil, or cell by cell, may meet. -/
theorem eq_parts {t : TypeId} {ti : TI} {x y : AV} {vx vy : Value} {b : Bool} (hT : TabOK P T) (hr : HR E w h) (ht : T t = some ti) (hx : VR E w x vx) (hy : VR E w y vy)
    (hnot : (∀ k a k' c, x = .int k a → y = .int k' c → False) ∧ ∀ a c, x = .str a → y = .str c → False)
    (hb : (isNil ti.desc x = true ∧ nilA h ti.desc y = some b) ∨ (isNil ti.desc y = true ∧ nilA h ti.desc x = some b) ∨ eqA T 100 t x y = some b) :
    (∀ op ox oy, (eqGuard op t ox oy vx vy).run P w = .ok () w) ∧ (binOp .eql t vx vy).run P w = .ok (.bool b) w ∧ (binOp .neq t vx vy).run P w = .ok (.bool !b) w := by
  have hd := (hT.ok t ti ht).1
  rcases hb with ⟨h1, h2⟩ | ⟨h1, h2⟩ | h1
  · have hq := (run_equal_nil hr hd hx hy h1 h2).1
    have hv : vx = .slice none 0 0 ∨ vx = .pointer none ∨ vx = .nilFunc ∨ vx = .map none := by
      revert h1
      cases ti.desc <;> cases x <;> simp only [isNil, Bool.false_eq_true, false_implies] <;> intro _ <;> cases hx <;> simp
    refine ⟨fun op ox oy => guard_plain (by rcases hv with rfl | rfl | rfl | rfl <;> simp) (by rcases hv with rfl | rfl | rfl | rfl <;> simp), eql_run ?_ hq⟩
    rcases hv with rfl | rfl | rfl | rfl <;> simp
  · have hq := (run_equal_nil hr hd hy hx h1 h2).2
    have hv : vy = .slice none 0 0 ∨ vy = .pointer none ∨ vy = .nilFunc ∨ vy = .map none := by
      revert h1
      cases ti.desc <;> cases y <;> simp only [isNil, Bool.false_eq_true, false_implies] <;> intro _ <;> cases hy <;> simp
    have hvx : vx ≠ .nilIface := by
      rintro rfl
      cases hx
      · revert h2; cases ti.desc <;> simp [nilA]
      · revert h2; cases ti.desc <;> simp [nilA]
    refine ⟨fun op ox oy => guard_plain hvx (by rcases hv with rfl | rfl | rfl | rfl <;> simp), eql_run ?_ hq⟩
    rcases hv with rfl | rfl | rfl | rfl <;> simp
  · have hq : (Op.equal t vx vy).run P w = .ok b w := run_eqA hT 100 9999 t b x y vx vy hx hy h1 (by omega)
    rw [show (100 : Nat) = 99 + 1 from rfl] at h1
    generalize (99 : Nat) = m99 at h1
    have hkind : (∃ a c, vx = .bool a ∧ vy = .bool c) ∨ (∃ a c, vx = .agg a ∧ vy = .agg c ∧ ti.cmp = true) := by
      simp only [eqA, ht] at h1
      split at h1
      · cases hx; cases hy; exact .inl ⟨_, _, rfl, rfl⟩
      · exact (hnot.1 _ _ _ _ rfl rfl).elim
      · exact (hnot.2 _ _ rfl rfl).elim
      · split at h1
        · rename_i hc; cases hx; cases hy; exact .inr ⟨_, _, rfl, rfl, hc⟩
        · cases h1
      · split at h1
        · rename_i hc; cases hx; cases hy; exact .inr ⟨_, _, rfl, rfl, hc⟩
        · cases h1
      · cases h1
    rcases hkind with ⟨a, c, rfl, rfl⟩ | ⟨a, c, rfl, rfl, hc⟩
    · exact ⟨fun op ox oy => guard_plain (by simp) (by simp), eql_run (by simp) hq⟩
    · exact ⟨fun op ox oy => guard_plain (by simp) (fun _ _ _ _ => (hT.cmp t ti ht hc).2), eql_run (by simp) hq⟩

theorem op_bin (hT : TabOK P T) (hr : HR E w h) {op : BinOp} {t : TypeId} {ox oy : Operand} {x y : AV} {vx vy : Value} (hx : VR E w x vx) (hy : VR E w y vy) (hb : binW T h op t x y (fun r => K r h)) :
    VOK P h E w (binT op t ox oy vx vy) K := by
  unfold binW at hb
  split at hb
  · obtain ⟨h0, hk⟩ := hb
    cases hx; cases hy
    refine .bind_guard (guard_other rfl) (.int hr ?_ hk)
    simp [binOp, Op.shift, Int.not_lt.2 h0]
  · obtain ⟨h0, hk⟩ := hb
    cases hx; cases hy
    refine .bind_guard (guard_other rfl) (.int hr ?_ hk)
    simp [binOp, Op.shift, Int.not_lt.2 h0]
  · split at hb
    · rename_i hkk
      obtain ⟨h0, hk⟩ := hb
      cases hx; cases hy; subst hkk
      refine .bind_guard (guard_other rfl) (.int hr ?_ hk)
      simp [binOp, Op.intDiv, h0]
    · exact hb.elim
  · split at hb
    · rename_i hkk
      obtain ⟨h0, hk⟩ := hb
      cases hx; cases hy; subst hkk
      refine .bind_guard (guard_other rfl) (.int hr ?_ hk)
      simp [binOp, Op.intDiv, h0]
    · exact hb.elim
  · split at hb
    · rename_i hkk
      split at hb
      · rename_i r hi
        cases hx; cases hy; subst hkk
        exact .bind_guard (guard_plain (by simp) (by simp)) (op_int hr hi hb)
      · exact hb.elim
    · exact hb.elim
  · obtain ⟨h0, hk⟩ := hb
    cases hx; cases hy
    rename_i a b
    refine .bind_guard (guard_other rfl) (.val hr (v := .string ⟨(a ++ b).toArray⟩) ?_ (.str _) (.str _) hk)
    have hm : IntKind.i64.max = 9223372036854775807 := by decide
    have : ¬ (((a.length + b.length : Nat) : Int) > IntKind.i64.max) := by rw [hm]; omega
    simp only [binOp, Op.stringOp, size_bytes, this, if_false, append_bytes]
    rfl
  · split at hb
    · rename_i r hi
      cases hx; cases hy
      exact .bind_guard (guard_plain (by simp) (by simp)) (op_str hr hi hb)
    · exact hb.elim
  · rename_i n1 n2
    split at hb
    · exact hb.elim
    · rename_i ti ht
      have hnot : (∀ k a k' c, x = .int k a → y = .int k' c → False) ∧ ∀ a c, x = .str a → y = .str c → False := ⟨fun k a k' c e1 e2 => by first | exact n1 k a k' c e1 e2 | exact n2 k a k' c e1 e2, fun a c e1 e2 => by first | exact n1 a c e1 e2 | exact n2 a c e1 e2⟩
      split at hb
      · rename_i hn
        split at hb
        · rename_i b hnb
          obtain ⟨g, r1, _⟩ := eq_parts hT hr ht hx hy hnot (.inl ⟨hn, hnb⟩)
          exact .bind_guard (g _ _ _) (.bool hr r1 hb)
        · exact hb.elim
      · split at hb
        · rename_i hn
          split at hb
          · rename_i b hnb
            obtain ⟨g, r1, _⟩ := eq_parts hT hr ht hx hy hnot (.inr (.inl ⟨hn, hnb⟩))
            exact .bind_guard (g _ _ _) (.bool hr r1 hb)
          · exact hb.elim
        · split at hb
          · rename_i b hnb
            obtain ⟨g, r1, _⟩ := eq_parts hT hr ht hx hy hnot (.inr (.inr hnb))
            exact .bind_guard (g _ _ _) (.bool hr r1 hb)
          · exact hb.elim
  · rename_i n1 n2
    split at hb
    · exact hb.elim
    · rename_i ti ht
      have hnot : (∀ k a k' c, x = .int k a → y = .int k' c → False) ∧ ∀ a c, x = .str a → y = .str c → False := ⟨fun k a k' c e1 e2 => by first | exact n1 k a k' c e1 e2 | exact n2 k a k' c e1 e2, fun a c e1 e2 => by first | exact n1 a c e1 e2 | exact n2 a c e1 e2⟩
      split at hb
      · rename_i hn
        split at hb
        · rename_i b hnb
          obtain ⟨g, _, r1⟩ := eq_parts hT hr ht hx hy hnot (.inl ⟨hn, hnb⟩)
          exact .bind_guard (g _ _ _) (.bool hr r1 hb)
        · exact hb.elim
      · split at hb
        · rename_i hn
          split at hb
          · rename_i b hnb
            obtain ⟨g, _, r1⟩ := eq_parts hT hr ht hx hy hnot (.inr (.inl ⟨hn, hnb⟩))
            exact .bind_guard (g _ _ _) (.bool hr r1 hb)
          · exact hb.elim
        · split at hb
          · rename_i b hnb
            obtain ⟨g, _, r1⟩ := eq_parts hT hr ht hx hy hnot (.inr (.inr hnb))
            exact .bind_guard (g _ _ _) (.bool hr r1 hb)
          · exact hb.elim
  · exact hb.elim

theorem op_conv (hT : TabOK P T) (hr : HR E w h) {src dst : TypeId} {x : AV} {v : Value} (hx : VR E w x v) (hb : convW T h src dst x K) : VOK P h E w (convert src dst v) K := by
  unfold convW at hb
  split at hb
  · rename_i si di hs hd
    split at hb
    · rename_i k k' n hdd
      cases hx
      refine .int hr ?_ hb
      simp only [convert, Sem.run_bind, run_und hT hs, run_und hT hd, Result.andThen_ok, hdd]
      cases si.desc <;> simp [Conv.intToInt]
    · rename_i s hdd
      cases hx
      refine .val hr (v := .string ⟨s.toArray⟩) ?_ (.str _) (.str _) hb
      simp only [convert, Sem.run_bind, run_und hT hs, run_und hT hd, Result.andThen_ok, hdd]
      cases si.desc <;> simp
    · exact hb.elim
  · exact hb.elim

end ops
end Go.Abs
