/-
  Steps to a law of this program: SEx4, SEx5, SEx6, SEx7, SEx8, SEx9.
  Conditions: none.
-/
import Derived.Test.YtcgnfpojjjkakaaGreatDoorB29
import Derived.Test.YtcgnfpojjjkakaaGreatDoorB19
set_option linter.unusedVariables false
set_option linter.unusedSimpArgs false
set_option linter.unusedSectionVars false
namespace Go.Abs
noncomputable section
open Go.Proofs

theorem plus_nils (o : List Nat) (y : AV) (hy : MagV o y) (h0 : o = []) : PureSem Tryz.prog 178 [.nils, y] (.vs (limbsV []) (some 1)) := by
  subst h0
  refine pure_of_call (pure2 .nils hy.pure) (pure_limbs _ _) (call_x exactT_ok mixed Tryz.func178 rfl (by decide +kernel) ?_)
  cases hy <;> conv => whnf
  all_goals
    repeat ((first | refine lenX_eq (limbsV_length _) ?_ | refine condX_true ?_ | refine condX_false ?_ | refine condX_f rfl ?_ | refine And.intro rfl ?_ | refine wrapX_i64 (by omega) ?_); conv => whnf)
    refine mkX_eq (n := 0) (m := 1) rfl rfl ⟨by omega, (show 4 * 1 ≤ 140737488355328 by omega), by omega⟩ ⟨by decide, rfl⟩ (limbsV_replicate _) ?_
    conv => whnf
    repeat ((first | refine And.intro rfl ?_ | refine wrapX_i64 (by omega) ?_); conv => whnf)
    refine t_inLoop (wpx_ok exactT_ok mixed _ _ _ ?_)
    conv => whnf
    repeat ((first | refine condX_true ?_ | refine condX_false ?_ | refine condX_f rfl ?_); conv => whnf)
    exact frz_limbs (L := [0]) rfl (by simp) rfl

theorem plus_x {m o : List Nat} {x y : AV} (hx : MagV m x) (hy : MagV o y) (om : okL m) (oo : okL o) (hm : m.length < 1000000000000) (ho : o.length < 1000000000000) :
    ∃ s c, okL s ∧ val s = val m + val o ∧ s.length ≤ m.length + o.length + 1 ∧ PureSem Tryz.prog 178 [x, y] (.vs (limbsV s) c) := by
  have len : ∀ a b : List Nat, (plusL a b).length ≤ a.length + b.length + 1 := fun a b => by unfold plusL; rw [List.length_append, outS_length]; split <;> simp <;> omega
  by_cases hlt : m.length < o.length
  · cases hy with
    | nils h0 => subst h0; simp at hlt
    | vs cy =>
      cases hx with
      | nils h0 => subst h0; exact ⟨_, _, plusL_ok oo okL_nil, by rw [plusL_val (by simp), Nat.add_comm], by have := len o []; omega, plus_lt_nils o cy oo ho (by simpa using hlt)⟩
      | vs cx => exact ⟨_, _, plusL_ok oo om, by rw [plusL_val (by omega), Nat.add_comm], by have := len o m; omega, plus_lt_vs o m cy cx oo om ho hlt⟩
  · cases hx with
    | nils h0 =>
      subst h0
      have h0 : o = [] := List.eq_nil_of_length_eq_zero (by simpa using hlt)
      exact ⟨[], _, okL_nil, by subst h0; rfl, by simp, plus_nils o y hy h0⟩
    | vs cx =>
      cases hy with
      | nils h0 => subst h0; exact ⟨_, _, plusL_ok om okL_nil, plusL_val (by simp), len m [], plus_ge_nils m cx om hm (by omega)⟩
      | vs cy => exact ⟨_, _, plusL_ok om oo, plusL_val (by omega), len m o, plus_ge_vs m o cx cy om oo hm (by omega)⟩

theorem minus_x {m o : List Nat} {x y : AV} (hx : MagV m x) (hy : MagV o y) (om : okL m) (oo : okL o) (hm : m.length < 1000000000000) (h0 : m ≠ []) (hl : o.length ≤ m.length) (hv : val o ≤ val m) :
    ∃ s c, okL s ∧ val s = val m - val o ∧ s.length = m.length ∧ PureSem Tryz.prog 179 [x, y] (.vs (limbsV s) c) := by
  cases hx with
  | nils h => exact absurd h h0
  | vs cx =>
    cases hy with
    | nils h => subst h; exact ⟨_, _, minusL_ok om, minusL_val om okL_nil (by simp) (by simp [val]), minusL_length _ _, minus_nils m cx om hm⟩
    | vs cy => exact ⟨_, _, minusL_ok om, minusL_val om oo hl hv, minusL_length _ _, minus_vs m o cx cy om oo hm⟩

theorem add_same {m o : List Nat} {X Y R : AV} {s : List Nat} {c c' : Option Nat} {b : Bool} {t : List Nat} (sg : Bool) (hX : MagV m X) (hY : MagV o Y) (hp : PureSem Tryz.prog 178 [X, Y] (.vs (limbsV s) c))
    (hR : R = .agg [.bool b, .vs (limbsV t) c']) (hw : PureSem Tryz.prog 115 [.bool sg, .vs (limbsV s) c] R) :
    PureSem Tryz.prog 131 [.agg [.bool sg, X], .agg [.bool sg, Y]] R := by
  subst hR
  have pX := hX.pure
  have pY := hY.pure
  refine pure_of_call (pure2 (pure_agg2 (.bool _) pX) (pure_agg2 (.bool _) pY)) (pure_agg2 (.bool _) (pure_limbs _ _)) (call_x exactT_ok mixed Tryz.func131 rfl (by decide +kernel) ?_)
  cases sg <;> cases hX <;> cases hY
  all_goals
    conv => whnf
    refine ⟨⟨rfl, by decide, rfl⟩, ?_⟩
    conv => whnf
    refine ⟨⟨rfl, by decide, rfl⟩, ?_⟩
    conv => whnf
    refine ⟨⟨by decide, rfl⟩, ?_⟩
    conv => whnf
    repeat ((first | refine ldX_eq rfl ?_ | refine Or.inl ?_); conv => whnf)
    refine condX_t rfl ?_
    conv => whnf
    refine Or.inl ⟨by decide +kernel, ?_⟩
    conv => whnf
    repeat ((first | refine ⟨_, _, fun K hK => (by (conv => whnf); first | exact hK | exact ldX_eq rfl hK | exact callX_pure hp (pure2 pX pY) hK | exact callX_pure hw (pure2 (.bool _) (pure_limbs _ _)) hK | (refine stX_box rfl ?_; (conv => whnf); exact hK)), Or.inl ⟨rfl, (by repeat' (first | exact True.intro | refine And.intro ?_ ?_ | exact Or.inl (by decide +kernel) | decide +kernel | exact Or.inr (fun K hK => (by (conv => whnf); first | exact hK | exact ldX_eq rfl hK | exact callX_pure hp (pure2 pX pY) hK | exact callX_pure hw (pure2 (.bool _) (pure_limbs _ _)) hK | (refine stX_box rfl ?_; (conv => whnf); exact hK))))), ?_⟩⟩ | refine ⟨_, _, fun K hK => (by (conv => whnf); first | exact hK | exact ldX_eq rfl hK | exact callX_pure hp (pure2 pX pY) hK | exact callX_pure hw (pure2 (.bool _) (pure_limbs _ _)) hK | (refine stX_box rfl ?_; (conv => whnf); exact hK)), Or.inr ⟨(by repeat' (first | exact True.intro | refine And.intro ?_ ?_ | exact Or.inl (by decide +kernel) | decide +kernel | exact Or.inr (fun K hK => (by (conv => whnf); first | exact hK | exact ldX_eq rfl hK | exact callX_pure hp (pure2 pX pY) hK | exact callX_pure hw (pure2 (.bool _) (pure_limbs _ _)) hK | (refine stX_box rfl ?_; (conv => whnf); exact hK))))), (by repeat' (first | exact True.intro | refine And.intro ?_ ?_ | exact Or.inl (by decide +kernel) | decide +kernel | exact Or.inr (fun K hK => (by (conv => whnf); first | exact hK | exact ldX_eq rfl hK | exact callX_pure hp (pure2 pX pY) hK | exact callX_pure hw (pure2 (.bool _) (pure_limbs _ _)) hK | (refine stX_box rfl ?_; (conv => whnf); exact hK))))), ?_⟩⟩); conv => whnf)
    exact .pure _ (pure_agg2 (.bool _) (pure_limbs _ _))

theorem add_lt {m o : List Nat} {X Y R : AV} {s : List Nat} {c c' : Option Nat} {b : Bool} {t : List Nat} (sg : Bool) (hX : MagV m X) (hY : MagV o Y) (hm : m.length < 4611686018427387904) (hc : cmpMag m o < 0)
    (hp : PureSem Tryz.prog 179 [Y, X] (.vs (limbsV s) c)) (hR : R = .agg [.bool b, .vs (limbsV t) c']) (hw : PureSem Tryz.prog 115 [.bool (!sg), .vs (limbsV s) c] R) :
    PureSem Tryz.prog 131 [.agg [.bool sg, X], .agg [.bool (!sg), Y]] R := by
  subst hR
  have pX := hX.pure
  have pY := hY.pure
  have hcmp := compare_pure m o X Y hX hY hm
  refine pure_of_call (pure2 (pure_agg2 (.bool _) pX) (pure_agg2 (.bool _) pY)) (pure_agg2 (.bool _) (pure_limbs _ _)) (call_x exactT_ok mixed Tryz.func131 rfl (by decide +kernel) ?_)
  cases sg <;> cases hX <;> cases hY
  all_goals
    conv => whnf
    refine ⟨⟨rfl, by decide, rfl⟩, ?_⟩
    conv => whnf
    refine ⟨⟨rfl, by decide, rfl⟩, ?_⟩
    conv => whnf
    refine ⟨⟨by decide, rfl⟩, ?_⟩
    conv => whnf
    repeat ((first | refine ldX_eq rfl ?_ | refine Or.inl ?_); conv => whnf)
    refine condX_f rfl ?_
    conv => whnf
    repeat ((first | refine ldX_eq rfl ?_); conv => whnf)
    refine callX_pure hcmp (pure2 pX pY) ?_
    conv => whnf
    refine condX_t (decide_eq_true hc) ?_
    conv => whnf
    refine Or.inl ⟨by decide +kernel, ?_⟩
    conv => whnf
    repeat ((first | refine ⟨_, _, fun K hK => (by (conv => whnf); first | exact hK | exact ldX_eq rfl hK | exact callX_pure hp (pure2 pY pX) hK | exact callX_pure hw (pure2 (.bool _) (pure_limbs _ _)) hK | (refine stX_box rfl ?_; (conv => whnf); exact hK)), Or.inl ⟨rfl, (by repeat' (first | exact True.intro | refine And.intro ?_ ?_ | exact Or.inl (by decide +kernel) | decide +kernel | exact Or.inr (fun K hK => (by (conv => whnf); first | exact hK | exact ldX_eq rfl hK | exact callX_pure hp (pure2 pY pX) hK | exact callX_pure hw (pure2 (.bool _) (pure_limbs _ _)) hK | (refine stX_box rfl ?_; (conv => whnf); exact hK))))), ?_⟩⟩ | refine ⟨_, _, fun K hK => (by (conv => whnf); first | exact hK | exact ldX_eq rfl hK | exact callX_pure hp (pure2 pY pX) hK | exact callX_pure hw (pure2 (.bool _) (pure_limbs _ _)) hK | (refine stX_box rfl ?_; (conv => whnf); exact hK)), Or.inr ⟨(by repeat' (first | exact True.intro | refine And.intro ?_ ?_ | exact Or.inl (by decide +kernel) | decide +kernel | exact Or.inr (fun K hK => (by (conv => whnf); first | exact hK | exact ldX_eq rfl hK | exact callX_pure hp (pure2 pY pX) hK | exact callX_pure hw (pure2 (.bool _) (pure_limbs _ _)) hK | (refine stX_box rfl ?_; (conv => whnf); exact hK))))), (by repeat' (first | exact True.intro | refine And.intro ?_ ?_ | exact Or.inl (by decide +kernel) | decide +kernel | exact Or.inr (fun K hK => (by (conv => whnf); first | exact hK | exact ldX_eq rfl hK | exact callX_pure hp (pure2 pY pX) hK | exact callX_pure hw (pure2 (.bool _) (pure_limbs _ _)) hK | (refine stX_box rfl ?_; (conv => whnf); exact hK))))), ?_⟩⟩); conv => whnf)
    exact .pure _ (pure_agg2 (.bool _) (pure_limbs _ _))

theorem add_ge {m o : List Nat} {X Y R : AV} {s : List Nat} {c c' : Option Nat} {b : Bool} {t : List Nat} (sg : Bool) (hX : MagV m X) (hY : MagV o Y) (hm : m.length < 4611686018427387904) (hc : ¬ cmpMag m o < 0)
    (hp : PureSem Tryz.prog 179 [X, Y] (.vs (limbsV s) c)) (hR : R = .agg [.bool b, .vs (limbsV t) c']) (hw : PureSem Tryz.prog 115 [.bool sg, .vs (limbsV s) c] R) :
    PureSem Tryz.prog 131 [.agg [.bool sg, X], .agg [.bool (!sg), Y]] R := by
  subst hR
  have pX := hX.pure
  have pY := hY.pure
  have hcmp := compare_pure m o X Y hX hY hm
  refine pure_of_call (pure2 (pure_agg2 (.bool _) pX) (pure_agg2 (.bool _) pY)) (pure_agg2 (.bool _) (pure_limbs _ _)) (call_x exactT_ok mixed Tryz.func131 rfl (by decide +kernel) ?_)
  cases sg <;> cases hX <;> cases hY
  all_goals
    conv => whnf
    refine ⟨⟨rfl, by decide, rfl⟩, ?_⟩
    conv => whnf
    refine ⟨⟨rfl, by decide, rfl⟩, ?_⟩
    conv => whnf
    refine ⟨⟨by decide, rfl⟩, ?_⟩
    conv => whnf
    repeat ((first | refine ldX_eq rfl ?_ | refine Or.inl ?_); conv => whnf)
    refine condX_f rfl ?_
    conv => whnf
    repeat ((first | refine ldX_eq rfl ?_); conv => whnf)
    refine callX_pure hcmp (pure2 pX pY) ?_
    conv => whnf
    refine condX_f (decide_eq_false hc) ?_
    conv => whnf
    refine Or.inl ⟨by decide +kernel, ?_⟩
    conv => whnf
    repeat ((first | refine ⟨_, _, fun K hK => (by (conv => whnf); first | exact hK | exact ldX_eq rfl hK | exact callX_pure hp (pure2 pX pY) hK | exact callX_pure hw (pure2 (.bool _) (pure_limbs _ _)) hK | (refine stX_box rfl ?_; (conv => whnf); exact hK)), Or.inl ⟨rfl, (by repeat' (first | exact True.intro | refine And.intro ?_ ?_ | exact Or.inl (by decide +kernel) | decide +kernel | exact Or.inr (fun K hK => (by (conv => whnf); first | exact hK | exact ldX_eq rfl hK | exact callX_pure hp (pure2 pX pY) hK | exact callX_pure hw (pure2 (.bool _) (pure_limbs _ _)) hK | (refine stX_box rfl ?_; (conv => whnf); exact hK))))), ?_⟩⟩ | refine ⟨_, _, fun K hK => (by (conv => whnf); first | exact hK | exact ldX_eq rfl hK | exact callX_pure hp (pure2 pX pY) hK | exact callX_pure hw (pure2 (.bool _) (pure_limbs _ _)) hK | (refine stX_box rfl ?_; (conv => whnf); exact hK)), Or.inr ⟨(by repeat' (first | exact True.intro | refine And.intro ?_ ?_ | exact Or.inl (by decide +kernel) | decide +kernel | exact Or.inr (fun K hK => (by (conv => whnf); first | exact hK | exact ldX_eq rfl hK | exact callX_pure hp (pure2 pX pY) hK | exact callX_pure hw (pure2 (.bool _) (pure_limbs _ _)) hK | (refine stX_box rfl ?_; (conv => whnf); exact hK))))), (by repeat' (first | exact True.intro | refine And.intro ?_ ?_ | exact Or.inl (by decide +kernel) | decide +kernel | exact Or.inr (fun K hK => (by (conv => whnf); first | exact hK | exact ldX_eq rfl hK | exact callX_pure hp (pure2 pX pY) hK | exact callX_pure hw (pure2 (.bool _) (pure_limbs _ _)) hK | (refine stX_box rfl ?_; (conv => whnf); exact hK))))), ?_⟩⟩); conv => whnf)
    exact .pure _ (pure_agg2 (.bool _) (pure_limbs _ _))
end
end Go.Abs

namespace Go.Abs
noncomputable section
open Go.Proofs

theorem decide_bne {p q : Prop} [Decidable p] [Decidable q] (h : ¬ decide p = decide q) : decide q = !decide p := by
  by_cases hp : p <;> by_cases hq : q <;> simp_all

theorem add_whole {a b : Int} {x y : AV} (hx : WholeV a x) (hy : WholeV b y) (la : (enc a.natAbs).length < 100000000000) (lb : (enc b.natAbs).length < 100000000000) :
    ∃ c, PureSem Tryz.prog 131 [x, y] (wholeR (a + b) c) := by
  obtain ⟨X, hX, rfl⟩ := hx
  obtain ⟨Y, hY, rfl⟩ := hy
  have oa := enc_ok a.natAbs
  have ob := enc_ok b.natAbs
  have ea := enc_val a.natAbs
  have eb := enc_val b.natAbs
  by_cases hs : decide (a < 0) = decide (b < 0)
  · obtain ⟨s, c, so, sv, sl, hp⟩ := plus_x hX hY oa ob (by omega) (by omega)
    obtain ⟨c', hw⟩ := whole_pure (decide (a < 0)) s c (by omega)
    have hs' : a < 0 ↔ b < 0 := by simpa using hs
    have hv : val s = (a + b).natAbs := by omega
    have ht : trim s = enc (a + b).natAbs := by rw [trim_enc so, hv]
    have e := wholeR_eq (z := a + b) (b := decide (a < 0) && decide (trim s ≠ [])) (l := trim s) (c := c') (by
      rw [ht]
      have hn : enc (a + b).natAbs ≠ [] ↔ a + b ≠ 0 := by rw [ne_eq, enc_nil]; omega
      rw [decide_eq_decide.2 hn, ← Bool.decide_and]
      exact decide_eq_decide.2 (by omega)) ht
    refine ⟨c', ?_⟩
    rw [← hs, ← e]
    exact add_same (decide (a < 0)) hX hY hp rfl hw
  · have hb := decide_bne hs
    have hs' : ¬ (a < 0 ↔ b < 0) := by simpa using hs
    have hcm := (cmpMag_val oa ob (enc_norm _) (enc_norm _)).1
    rw [ea, eb] at hcm
    rw [hb]
    by_cases hc : cmpMag (enc a.natAbs) (enc b.natAbs) < 0
    · have hlt := hcm.1 hc
      obtain ⟨s, c, so, sv, sl, hp⟩ := minus_x hY hX ob oa (by omega) (by rw [ne_eq, enc_nil]; omega) (enc_length_le (by omega)) (by omega)
      obtain ⟨c', hw⟩ := whole_pure (!decide (a < 0)) s c (by omega)
      have hv : val s = (a + b).natAbs := by omega
      have ht : trim s = enc (a + b).natAbs := by rw [trim_enc so, hv]
      have e := wholeR_eq (z := a + b) (b := !decide (a < 0) && decide (trim s ≠ [])) (l := trim s) (c := c') (by
        rw [ht, ← hb]
        have hn : enc (a + b).natAbs ≠ [] ↔ a + b ≠ 0 := by rw [ne_eq, enc_nil]; omega
        rw [decide_eq_decide.2 hn, ← Bool.decide_and]
        exact decide_eq_decide.2 (by omega)) ht
      refine ⟨c', ?_⟩
      rw [← e]
      exact add_lt (decide (a < 0)) hX hY (by omega) hc hp rfl hw
    · have hge : ¬ a.natAbs < b.natAbs := fun h => hc (hcm.2 h)
      obtain ⟨s, c, so, sv, sl, hp⟩ := minus_x hX hY oa ob (by omega) (by rw [ne_eq, enc_nil]; omega) (enc_length_le (by omega)) (by omega)
      obtain ⟨c', hw⟩ := whole_pure (decide (a < 0)) s c (by omega)
      have hv : val s = (a + b).natAbs := by omega
      have ht : trim s = enc (a + b).natAbs := by rw [trim_enc so, hv]
      have e := wholeR_eq (z := a + b) (b := decide (a < 0) && decide (trim s ≠ [])) (l := trim s) (c := c') (by
        rw [ht]
        have hn : enc (a + b).natAbs ≠ [] ↔ a + b ≠ 0 := by rw [ne_eq, enc_nil]; omega
        rw [decide_eq_decide.2 hn, ← Bool.decide_and]
        exact decide_eq_decide.2 (by omega)) ht
      refine ⟨c', ?_⟩
      rw [← e]
      exact add_ge (decide (a < 0)) hX hY (by omega) hc hp rfl hw
end
end Go.Abs

namespace Go.Abs
noncomputable section
open Go.Proofs

theorem whole_nils (neg : Bool) : PureSem Tryz.prog 115 [.bool neg, .nils] (.agg [.bool false, .nils]) := by
  refine pure_of_call (pure2 (.bool _) .nils) (pure_agg2 (.bool _) .nils) (call_x exactT_ok mixed Tryz.func115 rfl (by decide +kernel) ?_)
  conv => whnf
  refine ⟨⟨by decide, rfl⟩, ?_⟩
  conv => whnf
  refine t_inLoop (wpx_ok exactT_ok mixed _ _ _ ?_)
  cases neg <;> conv => whnf
  all_goals
    repeat ((first | refine condX_true ?_ | refine condX_false ?_ | refine condX_t rfl ?_ | refine condX_f rfl ?_ | refine stX_box rfl ?_); conv => whnf)
    exact .pure _ (pure_agg2 (.bool _) .nils)

theorem WholeV.zero {z : Int} {b : Bool} (h : WholeV z (.agg [.bool b, .nils])) : z = 0 ∧ b = false := by
  obtain ⟨X, hX, e⟩ := h
  injection e with e
  injection e with e1 e2
  injection e2 with e2 _
  injection e1 with e1
  subst e2
  cases hX with
  | nils h =>
    have := enc_nil.1 h
    have hz : z = 0 := by omega
    exact ⟨hz, by rw [e1, hz]; rfl⟩

theorem zero_V : WholeV 0 (.agg [.bool false, .nils]) := ⟨.nils, .nils rfl, rfl⟩

theorem neg_whole {a : Int} {x : AV} (hx : WholeV a x) (la : (enc a.natAbs).length < 100000000000) : ∃ r, WholeV (-a) r ∧ PureSem Tryz.prog 154 [x] r := by
  have hx0 := hx
  obtain ⟨X, hX, rfl⟩ := hx
  have oa := enc_ok a.natAbs
  cases hX with
  | nils h0 =>
    obtain ⟨rfl, -⟩ := hx0.zero
    refine ⟨_, zero_V, ?_⟩
    have hw := whole_nils true
    refine pure_of_call (pure1 (pure_agg2 (.bool _) .nils)) (pure_agg2 (.bool _) .nils) (call_x exactT_ok mixed Tryz.func154 rfl (by decide +kernel) ?_)
    conv => whnf
    repeat ((first | refine ⟨⟨rfl, by decide, rfl⟩, ?_⟩ | refine ⟨⟨by decide, rfl⟩, ?_⟩ | refine ldX_eq rfl ?_ | refine callX_pure hw (pure2 (.bool _) .nils) ?_ | refine stX_box rfl ?_); conv => whnf)
    exact .pure _ (pure_agg2 (.bool _) .nils)
  | vs c =>
    obtain ⟨c', hw⟩ := whole_pure (!decide (a < 0)) (enc a.natAbs) c (by omega)
    have ht : trim (enc a.natAbs) = enc (-a).natAbs := by rw [Int.natAbs_neg]; exact enc_norm _
    have e := wholeR_eq (z := -a) (b := !decide (a < 0) && decide (trim (enc a.natAbs) ≠ [])) (l := trim (enc a.natAbs)) (c := c') (by
      rw [ht]
      have hn : enc (-a).natAbs ≠ [] ↔ a ≠ 0 := by rw [ne_eq, enc_nil]; omega
      rw [decide_eq_decide.2 hn, ← decide_not, ← Bool.decide_and]
      exact decide_eq_decide.2 (by omega)) ht
    refine ⟨_, wholeR_V (-a) c', ?_⟩
    rw [← e]
    refine pure_of_call (pure1 (pure_agg2 (.bool _) (pure_limbs _ _))) (pure_agg2 (.bool _) (pure_limbs _ _)) (call_x exactT_ok mixed Tryz.func154 rfl (by decide +kernel) ?_)
    conv => whnf
    repeat ((first | refine ⟨⟨rfl, by decide, rfl⟩, ?_⟩ | refine ⟨⟨by decide, rfl⟩, ?_⟩ | refine ldX_eq rfl ?_ | refine callX_pure hw (pure2 (.bool _) (pure_limbs _ _)) ?_ | refine stX_box rfl ?_); conv => whnf)
    exact .pure _ (pure_agg2 (.bool _) (pure_limbs _ _))

theorem sub_whole {a b : Int} {x y : AV} (hx : WholeV a x) (hy : WholeV b y) (la : (enc a.natAbs).length < 100000000000) (lb : (enc b.natAbs).length < 100000000000) :
    ∃ c, PureSem Tryz.prog 193 [x, y] (wholeR (a - b) c) := by
  obtain ⟨r, hr, hn⟩ := neg_whole hy lb
  obtain ⟨c, ha⟩ := add_whole hx hr la (by rw [Int.natAbs_neg]; exact lb)
  refine ⟨c, ?_⟩
  rw [show a - b = a + -b by omega]
  have px := hx.pure
  have py := hy.pure
  have pr := hr.pure
  unfold wholeR at ha ⊢
  obtain ⟨X, hX, rfl⟩ := hx
  obtain ⟨Y, hY, rfl⟩ := hy
  obtain ⟨R, hR, rfl⟩ := hr
  refine pure_of_call (pure2 px py) (pure_agg2 (.bool _) (pure_limbs _ _)) (call_x exactT_ok mixed Tryz.func193 rfl (by decide +kernel) ?_)
  cases hX <;> cases hY <;> cases hR
  all_goals
    conv => whnf
    repeat ((first | refine ⟨⟨rfl, by decide, rfl⟩, ?_⟩ | refine ⟨⟨by decide, rfl⟩, ?_⟩); conv => whnf)
    refine Or.inl ⟨by decide +kernel, ?_⟩
    conv => whnf
    repeat ((first | refine ⟨_, _, fun K hK => (by (conv => whnf); first | exact hK | exact ldX_eq rfl hK | exact callX_pure hn (pure1 py) hK | exact callX_pure ha (pure2 px pr) hK | (refine stX_box rfl ?_; (conv => whnf); exact hK)), Or.inl ⟨rfl, (by repeat' (first | exact True.intro | refine And.intro ?_ ?_ | exact Or.inl (by decide +kernel) | decide +kernel | exact Or.inr (fun K hK => (by (conv => whnf); first | exact hK | exact ldX_eq rfl hK | exact callX_pure hn (pure1 py) hK | exact callX_pure ha (pure2 px pr) hK | (refine stX_box rfl ?_; (conv => whnf); exact hK))))), ?_⟩⟩ | refine ⟨_, _, fun K hK => (by (conv => whnf); first | exact hK | exact ldX_eq rfl hK | exact callX_pure hn (pure1 py) hK | exact callX_pure ha (pure2 px pr) hK | (refine stX_box rfl ?_; (conv => whnf); exact hK)), Or.inr ⟨(by repeat' (first | exact True.intro | refine And.intro ?_ ?_ | exact Or.inl (by decide +kernel) | decide +kernel | exact Or.inr (fun K hK => (by (conv => whnf); first | exact hK | exact ldX_eq rfl hK | exact callX_pure hn (pure1 py) hK | exact callX_pure ha (pure2 px pr) hK | (refine stX_box rfl ?_; (conv => whnf); exact hK))))), (by repeat' (first | exact True.intro | refine And.intro ?_ ?_ | exact Or.inl (by decide +kernel) | decide +kernel | exact Or.inr (fun K hK => (by (conv => whnf); first | exact hK | exact ldX_eq rfl hK | exact callX_pure hn (pure1 py) hK | exact callX_pure ha (pure2 px pr) hK | (refine stX_box rfl ?_; (conv => whnf); exact hK))))), ?_⟩⟩); conv => whnf)
    exact .pure _ (pure_agg2 (.bool _) (pure_limbs _ _))

def sgn (a : Int) : Int := if a = 0 then 0 else if a < 0 then -1 else 1

theorem enc_len0 {n : Nat} : (enc n).length = 0 ↔ n = 0 := ⟨fun h => enc_nil.1 (List.eq_nil_of_length_eq_zero h), fun h => by rw [enc_nil.2 h]; rfl⟩

theorem sign_whole {a : Int} {x : AV} (hx : WholeV a x) : PureSem Tryz.prog 105 [x] (.int .i64 (sgn a)) := by
  have px := hx.pure
  have hx0 := hx
  obtain ⟨X, hX, rfl⟩ := hx
  refine pure_of_call (pure1 px) (.int _ _) (call_x exactT_ok mixed Tryz.func105 rfl (by decide +kernel) ?_)
  cases hX with
  | nils h0 =>
    obtain ⟨rfl, -⟩ := hx0.zero
    conv => whnf
    repeat ((first | refine ⟨⟨rfl, by decide, rfl⟩, ?_⟩ | refine ldX_eq rfl ?_ | refine condX_true ?_ | refine condX_t rfl ?_); conv => whnf)
    exact .pure _ (.int _ _)
  | vs c =>
    conv => whnf
    repeat ((first | refine ⟨⟨rfl, by decide, rfl⟩, ?_⟩ | refine ldX_eq rfl ?_ | refine lenX_eq (limbsV_length _) ?_); conv => whnf)
    by_cases h0 : a = 0
    · refine condX_t (by rw [beq_iff_eq]; have := enc_len0 (n := a.natAbs); omega) ?_
      conv => whnf
      rw [sgn, if_pos h0]
      exact .pure _ (.int _ _)
    · refine condX_f (by rw [beq_eq_false_iff_ne]; have := enc_len0 (n := a.natAbs); omega) ?_
      conv => whnf
      repeat ((first | refine ldX_eq rfl ?_); conv => whnf)
      refine condX_dec (fun h1 => ?_) (fun h1 => ?_) <;> conv => whnf
      · rw [sgn, if_neg h0, if_pos h1]; exact .pure _ (.int _ _)
      · rw [sgn, if_neg h0, if_neg h1]; exact .pure _ (.int _ _)

theorem sgn_cases (a : Int) : (a = 0 ∧ sgn a = 0) ∨ (a < 0 ∧ sgn a = -1) ∨ (0 < a ∧ sgn a = 1) := by
  unfold sgn
  split
  · exact .inl ⟨‹_›, rfl⟩
  · split
    · exact .inr (.inl ⟨‹_›, rfl⟩)
    · exact .inr (.inr ⟨by omega, rfl⟩)

def cmpZ (a b : Int) : Int := if a < b then -1 else if b < a then 1 else 0

theorem cmpZ_neg {a b : Int} (ha : a < 0) (hb : b < 0) : cmpZ (b.natAbs : Int) (a.natAbs : Int) = cmpZ a b := by
  unfold cmpZ
  repeat' split
  all_goals omega
theorem cmpZ_pos {a b : Int} (ha : 0 ≤ a) (hb : 0 ≤ b) : cmpZ (a.natAbs : Int) (b.natAbs : Int) = cmpZ a b := by
  unfold cmpZ
  repeat' split
  all_goals omega

theorem cmpMag_Z {m o : List Nat} (om : okL m) (oo : okL o) (hm : Norm m) (ho : Norm o) : cmpMag m o = cmpZ (val m) (val o) := by
  obtain ⟨h1, h2⟩ := cmpMag_val om oo hm ho
  have r : ∀ k, cmpTop m o k = -1 ∨ cmpTop m o k = 0 ∨ cmpTop m o k = 1 := fun k => by
    induction k with
    | zero => exact .inr (.inl rfl)
    | succ k ih =>
      unfold cmpTop
      split
      · exact .inl rfl
      · split
        · exact .inr (.inr rfl)
        · exact ih
  have r' : cmpMag m o = -1 ∨ cmpMag m o = 0 ∨ cmpMag m o = 1 := by
    unfold cmpMag
    split
    · exact .inl rfl
    · split
      · exact .inr (.inr rfl)
      · exact r _
  unfold cmpZ
  rcases r' with h | h | h
  · rw [h]; rw [if_pos (by have := h1.1 (by omega); omega)]
  · rw [h]; have := h2.1 h; rw [if_neg (by omega), if_neg (by omega)]
  · rw [h]
    have a1 : ¬ val m < val o := fun q => by have := h1.2 q; omega
    have a2 : ¬ val m = val o := fun q => by have := h2.2 q; omega
    rw [if_neg (by omega), if_pos (by omega)]

theorem cmp_whole {a b : Int} {x y : AV} (hx : WholeV a x) (hy : WholeV b y) (la : (enc a.natAbs).length < 100000000000) (lb : (enc b.natAbs).length < 100000000000) :
    PureSem Tryz.prog 97 [x, y] (.int .i64 (cmpZ a b)) := by
  have sa := sign_whole hx
  have sb := sign_whole hy
  have px := hx.pure
  have py := hy.pure
  have hx0 := hx
  have hy0 := hy
  obtain ⟨X, hX, rfl⟩ := hx
  obtain ⟨Y, hY, rfl⟩ := hy
  have pX := hX.pure
  have pY := hY.pure
  have c1 := compare_pure _ _ X Y hX hY (by omega)
  have c2 := compare_pure _ _ Y X hY hX (by omega)
  rw [cmpMag_Z (enc_ok _) (enc_ok _) (enc_norm _) (enc_norm _), enc_val, enc_val] at c1 c2
  have hcase : sgn a < sgn b ∨ sgn a = sgn b ∨ sgn b < sgn a := by omega
  have sga := sgn_cases a
  have sgb := sgn_cases b
  refine pure_of_call (pure2 px py) (.int _ _) (call_x exactT_ok mixed Tryz.func97 rfl (by decide +kernel) ?_)
  cases hX <;> cases hY
  all_goals
    conv => whnf
    repeat ((first | refine ⟨⟨rfl, by decide, rfl⟩, ?_⟩); conv => whnf)
    refine Or.inl ⟨by decide +kernel, ?_⟩
    conv => whnf
    rcases hcase with h1 | h1 | h1
    all_goals
      repeat ((first | refine ⟨_, _, fun K hK => (by (conv => whnf); first | exact hK | exact ldX_eq rfl hK | exact callX_pure sa (pure1 px) hK | exact callX_pure sb (pure1 py) hK | exact cmpInt_x (fun _ => hK) (fun _ => by omega) (fun _ => by omega) | exact cmpInt_x (fun _ => by omega) (fun _ => hK) (fun _ => by omega) | exact cmpInt_x (fun _ => by omega) (fun _ => by omega) (fun _ => hK)), Or.inl ⟨rfl, (by repeat' (first | exact True.intro | refine And.intro ?_ ?_ | exact Or.inl (by decide +kernel) | decide +kernel | exact Or.inr (fun K hK => (by (conv => whnf); first | exact hK | exact ldX_eq rfl hK | exact callX_pure sa (pure1 px) hK | exact callX_pure sb (pure1 py) hK | exact cmpInt_x (fun _ => hK) (fun _ => by omega) (fun _ => by omega) | exact cmpInt_x (fun _ => by omega) (fun _ => hK) (fun _ => by omega) | exact cmpInt_x (fun _ => by omega) (fun _ => by omega) (fun _ => hK))))), ?_⟩⟩ | refine ⟨_, _, fun K hK => (by (conv => whnf); first | exact hK | exact ldX_eq rfl hK | exact callX_pure sa (pure1 px) hK | exact callX_pure sb (pure1 py) hK | exact cmpInt_x (fun _ => hK) (fun _ => by omega) (fun _ => by omega) | exact cmpInt_x (fun _ => by omega) (fun _ => hK) (fun _ => by omega) | exact cmpInt_x (fun _ => by omega) (fun _ => by omega) (fun _ => hK)), Or.inr ⟨(by repeat' (first | exact True.intro | refine And.intro ?_ ?_ | exact Or.inl (by decide +kernel) | decide +kernel | exact Or.inr (fun K hK => (by (conv => whnf); first | exact hK | exact ldX_eq rfl hK | exact callX_pure sa (pure1 px) hK | exact callX_pure sb (pure1 py) hK | exact cmpInt_x (fun _ => hK) (fun _ => by omega) (fun _ => by omega) | exact cmpInt_x (fun _ => by omega) (fun _ => hK) (fun _ => by omega) | exact cmpInt_x (fun _ => by omega) (fun _ => by omega) (fun _ => hK))))), (by repeat' (first | exact True.intro | refine And.intro ?_ ?_ | exact Or.inl (by decide +kernel) | decide +kernel | exact Or.inr (fun K hK => (by (conv => whnf); first | exact hK | exact ldX_eq rfl hK | exact callX_pure sa (pure1 px) hK | exact callX_pure sb (pure1 py) hK | exact cmpInt_x (fun _ => hK) (fun _ => by omega) (fun _ => by omega) | exact cmpInt_x (fun _ => by omega) (fun _ => hK) (fun _ => by omega) | exact cmpInt_x (fun _ => by omega) (fun _ => by omega) (fun _ => hK))))), ?_⟩⟩); conv => whnf)
      repeat ((first | refine condX_true ?_ | refine condX_false ?_ | refine condX_t rfl ?_ | refine condX_f rfl ?_ | refine ldX_eq rfl ?_ | refine lenX_eq (limbsV_length _) ?_); conv => whnf)
    · rw [cmpZ, if_pos (by omega)]; exact .pure _ (.int _ _)
    · first
      | (obtain ⟨rfl, -⟩ := hx0.zero
         rw [cmpZ, if_neg (by omega), if_neg (by omega)]
         exact .pure _ (.int _ _))
      | (by_cases h0 : a = 0
         · refine condX_t (by rw [beq_iff_eq]; have := enc_len0 (n := a.natAbs); omega) ?_
           conv => whnf
           rw [cmpZ, if_neg (by omega), if_neg (by omega)]
           exact .pure _ (.int _ _)
         · refine condX_f (by rw [beq_eq_false_iff_ne]; have := enc_len0 (n := a.natAbs); omega) ?_
           conv => whnf
           repeat ((first | refine ldX_eq rfl ?_); conv => whnf)
           refine condX_dec (fun h2 => ?_) (fun h2 => ?_) <;> conv => whnf
           · repeat ((first | refine ldX_eq rfl ?_ | refine callX_pure c2 (pure2 pY pX) ?_); conv => whnf)
             rw [← cmpZ_neg (a := a) (b := b) (by omega) (by omega)]
             exact .pure _ (.int _ _)
           · repeat ((first | refine ldX_eq rfl ?_ | refine callX_pure c1 (pure2 pX pY) ?_); conv => whnf)
             rw [← cmpZ_pos (a := a) (b := b) (by omega) (by omega)]
             exact .pure _ (.int _ _))
    · rw [cmpZ, if_neg (by omega), if_pos (by omega)]; exact .pure _ (.int _ _)
end
end Go.Abs

namespace Go.Abs
noncomputable section
open Go.Proofs

set_option maxHeartbeats 2000000 in
theorem mul_core {u v : List Nat} {X Y R : AV} {c' : Option Nat} {b : Bool} {t : List Nat} (sg sh : Bool) (hX : MagV u X) (hY : MagV v Y) (ou : okL u) (ov : okL v) (lu : u.length < 100000000000) (lv : v.length < 100000000000)
    (hR : R = .agg [.bool b, .vs (limbsV t) c']) (hw : PureSem Tryz.prog 115 [.bool (!(sg == sh)), .vs (limbsV (mulS u v u.length)) (some (u.length + v.length))] R) :
    PureSem Tryz.prog 96 [.agg [.bool sg, X], .agg [.bool sh, Y]] R := by
  subst hR
  have pX := hX.pure
  have pY := hY.pure
  refine pure_of_call (pure2 (pure_agg2 (.bool _) pX) (pure_agg2 (.bool _) pY)) (pure_agg2 (.bool _) (pure_limbs _ _)) (call_x exactT_ok mixed Tryz.func96 rfl (by decide +kernel) ?_)
  cases hX with
  | nils h0 =>
    subst h0
    have hl0 : (mulS [] v 0).length = v.length := by rw [mulS_length 0 (by simp)]; simp
    cases hY with
    | nils h0 =>
      subst h0
      conv => whnf
      repeat ((first | refine ⟨⟨rfl, by decide, rfl⟩, ?_⟩ | refine ⟨⟨by decide, rfl⟩, ?_⟩ | refine ldX_eq rfl ?_ | refine lenX_eq (limbsV_length _) ?_ | refine And.intro rfl ?_ | refine wrapX_i64 (by omega) ?_); conv => whnf)
      refine mkX_eq (n := 0) (m := 0) (rs := limbsV (mulS [] [] 0)) rfl rfl ⟨by omega, (show 4 * 0 ≤ 140737488355328 by omega), by omega⟩ ⟨by decide, rfl⟩ rfl ?_
      conv => whnf
      repeat ((first | refine ldX_eq rfl ?_ | refine lenX_eq (limbsV_length _) ?_); conv => whnf)
      refine t_inLoop (wpx_ok exactT_ok mixed _ _ _ ?_)
      conv => whnf
      repeat ((first | refine condX_true ?_ | refine condX_false ?_ | refine condX_f rfl ?_); conv => whnf)
      repeat ((first | refine ldX_eq rfl ?_ | refine Or.inl ?_); conv => whnf)
      refine callX_of (call_freeze 3 rfl (call_frz (.cons _ _ _ _ (.pure _ (.bool _)) (.cons _ _ _ _ (frzT_limbs (len := 0) (l := mulS [] [] 0) rfl (by simp) (by rfl)) .nil)) hw ?_))
      conv => whnf
      refine stX_box rfl ?_
      conv => whnf
      exact .pure _ (pure_agg2 (.bool _) (pure_limbs _ _))
    | vs cy =>
      conv => whnf
      repeat ((first | refine ⟨⟨rfl, by decide, rfl⟩, ?_⟩ | refine ⟨⟨by decide, rfl⟩, ?_⟩ | refine ldX_eq rfl ?_ | refine lenX_eq (limbsV_length _) ?_ | refine And.intro rfl ?_ | refine wrapX_i64 (by omega) ?_); conv => whnf)
      refine mkX_eq (n := 0 + v.length) (m := 0 + v.length) (rs := limbsV (mulS [] v 0)) (by omega) (by omega) ⟨by omega, (show 4 * (0 + v.length) ≤ 140737488355328 by omega), by omega⟩ ⟨by decide, rfl⟩ (limbsV_replicate _) ?_
      conv => whnf
      repeat ((first | refine ldX_eq rfl ?_ | refine lenX_eq (limbsV_length _) ?_); conv => whnf)
      refine t_inLoop (wpx_ok exactT_ok mixed _ _ _ ?_)
      conv => whnf
      repeat ((first | refine condX_true ?_ | refine condX_false ?_ | refine condX_f rfl ?_); conv => whnf)
      repeat ((first | refine ldX_eq rfl ?_ | refine Or.inl ?_); conv => whnf)
      refine callX_of (call_freeze 3 rfl (call_frz (.cons _ _ _ _ (.pure _ (.bool _)) (.cons _ _ _ _ (frzT_limbs (len := 0 + v.length) (l := mulS [] v 0) rfl (by omega) (by rw [List.drop_zero, List.take_of_length_le (by omega)])) .nil)) hw ?_))
      conv => whnf
      refine stX_box rfl ?_
      conv => whnf
      exact .pure _ (pure_agg2 (.bool _) (pure_limbs _ _))
  | vs cx =>
    cases hY with
    | nils h0 =>
      subst h0
      conv => whnf
      repeat ((first | refine ⟨⟨rfl, by decide, rfl⟩, ?_⟩ | refine ⟨⟨by decide, rfl⟩, ?_⟩ | refine ldX_eq rfl ?_ | refine lenX_eq (limbsV_length _) ?_ | refine And.intro rfl ?_ | refine wrapX_i64 (by omega) ?_); conv => whnf)
      refine mkX_eq (n := u.length + 0) (m := u.length + 0) (by omega) (by omega) ⟨by omega, (show 4 * (u.length + 0) ≤ 140737488355328 by omega), by omega⟩ ⟨by decide, rfl⟩ (limbsV_replicate _) ?_
      conv => whnf
      repeat ((first | refine ldX_eq rfl ?_ | refine lenX_eq (limbsV_length _) ?_); conv => whnf)
      refine loop_p exactT_ok mixed 79 (fun i : Nat => u.length - i) (fun i => i ≤ u.length)
        (fun i => [(2, .ptr 0 0 0), (3, .ptr 1 0 0), (4, .ptr 2 0 0), (5, .ms 3 0 (u.length + 0) (some (u.length + 0))), (21, .vs (limbsV u) cx), (22, .int .i64 (u.length : Int)), (23, .int .i64 ((i : Nat) : Int))])
        (fun i => ⟨[some (.rows [[.bool sg, .vs (limbsV u) cx]] false false), some (.rows [[.bool sh, .nils]] false false), some (.rows [[.bool false, .nils]] false false), some (.rows (limbsV (mulS u [] i)) false false)], []⟩)
        ?_ 0 _ (Nat.zero_le _) rfl rfl ⟨rfl, rfl, rfl, rfl, rfl, rfl, rfl, trivial⟩
      rintro i g hi
      have oL := mulS_ok ou okL_nil i
      have lL := mulS_length (u := u) (v := []) i hi
      simp only [List.length_nil, Nat.add_zero] at lL
      conv => whnf
      refine condX_dec (fun h1 => ?_) (fun h1 => ?_) <;> conv => whnf
      · have hiu : i < u.length := by omega
        have hx := okL_get ou hiu
        have eu : u.getD i 0 = u[i] := by simp [hiu]
        refine idx_limbs i rfl hiu ?_
        conv => whnf
        repeat ((first | refine ldX_eq rfl ?_ | refine lenX_eq (limbsV_length _) ?_); conv => whnf)
        refine t_inLoop (wpx_ok exactT_ok mixed _ _ _ ?_)
        conv => whnf
        repeat ((first | refine condX_true ?_ | refine condX_false ?_ | refine condX_f rfl ?_ | refine ldX_eq rfl ?_ | refine And.intro rfl ?_ | refine wrapX_i64 (by omega) ?_ | refine wrapX_u32 (by omega) ?_); conv => whnf)
        refine idm_limbs i (by omega) (by omega) (by omega) ?_
        conv => whnf
        refine st_limbs (d := 0) (by omega) rfl ?_
        conv => whnf
        repeat ((first | refine And.intro rfl ?_ | refine wrapX_i64 (by omega) ?_); conv => whnf)
        refine ⟨i + 1, by omega, by omega, ?_, rfl, rfl, rfl, rfl, rfl, rfl, rfl, rfl, trivial⟩
        show Heap.mk [_, _, _, some (.rows (limbsV (List.set _ _ _)) false false)] [] = Heap.mk [_, _, _, some (.rows (limbsV (mulS u [] (i + 1))) false false)] []
        have e := rowP_last (L := mulS u [] i) (v := []) (i := i) (x := u[i]) (by simp; omega)
        simp only [List.length_nil, rowP_zero, Nat.add_zero, carS] at e
        rw [mulS, eu, ← e, Nat.zero_add]
      · obtain rfl : i = u.length := by omega
        repeat ((first | refine ldX_eq rfl ?_ | refine Or.inl ?_); conv => whnf)
        refine callX_of (call_freeze 3 rfl (call_frz (.cons _ _ _ _ (.pure _ (.bool _)) (.cons _ _ _ _ (frzT_limbs (len := u.length + 0) (l := mulS u [] u.length) rfl (by omega) (by rw [List.drop_zero, List.take_of_length_le (by omega)])) .nil)) hw ?_))
        conv => whnf
        refine stX_box rfl ?_
        conv => whnf
        exact .pure _ (pure_agg2 (.bool _) (pure_limbs _ _))
    | vs cy =>
      conv => whnf
      repeat ((first | refine ⟨⟨rfl, by decide, rfl⟩, ?_⟩ | refine ⟨⟨by decide, rfl⟩, ?_⟩ | refine ldX_eq rfl ?_ | refine lenX_eq (limbsV_length _) ?_ | refine And.intro rfl ?_ | refine wrapX_i64 (by omega) ?_); conv => whnf)
      refine mkX_eq (n := u.length + v.length) (m := u.length + v.length) (by omega) (by omega) ⟨by omega, (show 4 * (u.length + v.length) ≤ 140737488355328 by omega), by omega⟩ ⟨by decide, rfl⟩ (limbsV_replicate _) ?_
      conv => whnf
      repeat ((first | refine ldX_eq rfl ?_ | refine lenX_eq (limbsV_length _) ?_); conv => whnf)
      refine loop_p exactT_ok mixed 79 (fun i : Nat => u.length - i) (fun i => i ≤ u.length)
        (fun i => [(2, .ptr 0 0 0), (3, .ptr 1 0 0), (4, .ptr 2 0 0), (5, .ms 3 0 (u.length + v.length) (some (u.length + v.length))), (21, .vs (limbsV u) cx), (22, .int .i64 (u.length : Int)), (23, .int .i64 ((i : Nat) : Int))])
        (fun i => ⟨[some (.rows [[.bool sg, .vs (limbsV u) cx]] false false), some (.rows [[.bool sh, .vs (limbsV v) cy]] false false), some (.rows [[.bool false, .nils]] false false), some (.rows (limbsV (mulS u v i)) false false)], []⟩)
        ?_ 0 _ (Nat.zero_le _) rfl rfl ⟨rfl, rfl, rfl, rfl, rfl, rfl, rfl, trivial⟩
      rintro i g hi
      have oL := mulS_ok ou ov i
      have lL := mulS_length (u := u) (v := v) i hi
      conv => whnf
      refine condX_dec (fun h1 => ?_) (fun h1 => ?_) <;> conv => whnf
      · have hiu : i < u.length := by omega
        have hx := okL_get ou hiu
        have eu : u.getD i 0 = u[i] := by simp [hiu]
        refine idx_limbs i rfl hiu ?_
        conv => whnf
        repeat ((first | refine ldX_eq rfl ?_ | refine lenX_eq (limbsV_length _) ?_); conv => whnf)
        refine loop_p exactT_ok mixed 79 (fun k : Nat => v.length - k) (fun k => k ≤ v.length)
          (fun k => [(2, .ptr 0 0 0), (3, .ptr 1 0 0), (4, .ptr 2 0 0), (5, .ms 3 0 (u.length + v.length) (some (u.length + v.length))), (6, .int .i64 ((i : Nat) : Int)), (7, .int .u32 ((u[i] : Nat) : Int)), (8, .int .u64 ((carS (rowT (mulS u v i) v i u[i]) k : Nat) : Int)),
            (21, .vs (limbsV u) cx), (22, .int .i64 (u.length : Int)), (23, .int .i64 ((i : Nat) : Int)), (29, .vs (limbsV v) cy), (30, .int .i64 (v.length : Int)), (31, .int .i64 ((k : Nat) : Int))])
          (fun k => ⟨[some (.rows [[.bool sg, .vs (limbsV u) cx]] false false), some (.rows [[.bool sh, .vs (limbsV v) cy]] false false), some (.rows [[.bool false, .nils]] false false), some (.rows (limbsV (rowP (mulS u v i) v i u[i] k)) false false)], []⟩)
          ?_ 0 _ (Nat.zero_le _) (by rw [rowP_zero]) rfl ⟨rfl, rfl, rfl, rfl, rfl, rfl, rfl, rfl, rfl, rfl, rfl, rfl, rfl, trivial⟩
        rintro k g2 hk
        have hc := row_car oL ov hx i k
        have hT := rowT_le oL ov hx i k
        conv => whnf
        refine condX_dec (fun h2 => ?_) (fun h2 => ?_) <;> conv => whnf
        · have hkv : k < v.length := by omega
          have hy := okL_get ov hkv
          have hlt : i + k < (mulS u v i).length := by omega
          have ev : v.getD k 0 = v[k] := by simp [hkv]
          have eL : (mulS u v i).getD (i + k) 0 = (mulS u v i)[i + k] := by simp [hlt]
          have eT : rowT (mulS u v i) v i u[i] k = u[i] * v[k] + (mulS u v i)[i + k] := by unfold rowT; rw [ev, eL]
          refine idx_limbs k rfl hkv ?_
          conv => whnf
          repeat ((first | refine ldX_eq rfl ?_ | refine And.intro rfl ?_ | refine wrapX_u64 (by omega) ?_); conv => whnf)
          repeat ((first | refine And.intro rfl ?_ | refine wrapX_i64 (by omega) ?_); conv => whnf)
          refine idm_limbs (i + k) (by omega) (by omega) (by rw [rowP_length (by omega)]; omega) ?_
          conv => whnf
          refine ld_limbs (x := (mulS u v i)[i + k]) (by rw [Nat.zero_add]; exact rowP_get hlt) rfl ?_
          conv => whnf
          repeat ((first | refine And.intro rfl ?_ | refine wrapX_u64 (by omega) ?_ | refine wrapX_i64 (by omega) ?_); conv => whnf)
          refine remX_nat (rowT (mulS u v i) v i u[i] k + carS (rowT (mulS u v i) v i u[i]) k) 1000000000 (by rw [eT]; push_cast; omega) rfl (by omega) ?_
          conv => whnf
          refine wrapX_nat (digS (rowT (mulS u v i) v i u[i]) k) rfl (IntWalk.u32_in _ (by have : digS (rowT (mulS u v i) v i u[i]) k < 1000000000 := Nat.mod_lt _ (by omega); omega)) ?_
          conv => whnf
          refine And.intro rfl (divX_nat (rowT (mulS u v i) v i u[i] k + carS (rowT (mulS u v i) v i u[i]) k) 1000000000 (by rw [eT]; push_cast; omega) rfl (by omega) (IntWalk.u64_in _ (by have := Nat.div_le_self (rowT (mulS u v i) v i u[i] k + carS (rowT (mulS u v i) v i u[i]) k) 1000000000; omega)) ?_)
          conv => whnf
          refine idm_limbs (i + k) (by omega) (by omega) (by rw [rowP_length (by omega)]; omega) ?_
          conv => whnf
          refine st_limbs (d := digS (rowT (mulS u v i) v i u[i]) k) (by rw [rowP_length (by omega)]; omega) rfl ?_
          conv => whnf
          repeat ((first | refine And.intro rfl ?_ | refine wrapX_i64 (by omega) ?_); conv => whnf)
          refine ⟨k + 1, by omega, by omega, ?_, rfl, rfl, rfl, rfl, rfl, rfl, rfl, rfl, rfl, rfl, rfl, rfl, rfl, rfl, trivial⟩
          show Heap.mk [_, _, _, some (.rows (limbsV (List.set _ _ _)) false false)] [] = Heap.mk [_, _, _, some (.rows (limbsV _) false false)] []
          rw [Nat.zero_add, rowP_set hlt]
        · obtain rfl : k = v.length := by omega
          have hlt : i + v.length < (mulS u v i).length := by omega
          repeat ((first | refine ldX_eq rfl ?_ | refine lenX_eq (limbsV_length _) ?_ | refine And.intro rfl ?_ | refine wrapX_i64 (by omega) ?_ | refine wrapX_u32 (by omega) ?_); conv => whnf)
          refine idm_limbs (i + v.length) (by omega) (by omega) (by rw [rowP_length (by omega)]; omega) ?_
          conv => whnf
          refine st_limbs (d := carS (rowT (mulS u v i) v i u[i]) v.length) (by rw [rowP_length (by omega)]; omega) rfl ?_
          conv => whnf
          repeat ((first | refine And.intro rfl ?_ | refine wrapX_i64 (by omega) ?_); conv => whnf)
          refine ⟨i + 1, by omega, by omega, ?_, rfl, rfl, rfl, rfl, rfl, rfl, rfl, rfl, trivial⟩
          show Heap.mk [_, _, _, some (.rows (limbsV (List.set _ _ _)) false false)] [] = Heap.mk [_, _, _, some (.rows (limbsV (mulS u v (i + 1))) false false)] []
          rw [Nat.zero_add, rowP_last hlt, mulS, eu]
      · obtain rfl : i = u.length := by omega
        repeat ((first | refine ldX_eq rfl ?_ | refine Or.inl ?_); conv => whnf)
        refine callX_of (call_freeze 3 rfl (call_frz (.cons _ _ _ _ (.pure _ (.bool _)) (.cons _ _ _ _ (frzT_limbs rfl (by omega) (by rw [List.drop_zero, List.take_of_length_le (by omega)])) .nil)) hw ?_))
        conv => whnf
        refine stX_box rfl ?_
        conv => whnf
        exact .pure _ (pure_agg2 (.bool _) (pure_limbs _ _))

theorem mul_whole {a b : Int} {x y : AV} (hx : WholeV a x) (hy : WholeV b y) (la : (enc a.natAbs).length < 100000000000) (lb : (enc b.natAbs).length < 100000000000) :
    ∃ c, PureSem Tryz.prog 96 [x, y] (wholeR (a * b) c) := by
  obtain ⟨X, hX, rfl⟩ := hx
  obtain ⟨Y, hY, rfl⟩ := hy
  have oa := enc_ok a.natAbs
  have ob := enc_ok b.natAbs
  have hl := mulS_length (u := enc a.natAbs) (v := enc b.natAbs) _ (Nat.le_refl _)
  obtain ⟨c', hw⟩ := whole_pure (!(decide (a < 0) == decide (b < 0))) (mulS (enc a.natAbs) (enc b.natAbs) (enc a.natAbs).length) (some ((enc a.natAbs).length + (enc b.natAbs).length)) (by omega)
  have hv : val (mulS (enc a.natAbs) (enc b.natAbs) (enc a.natAbs).length) = (a * b).natAbs := by
    rw [(mulS_val _ (Nat.le_refl _)).1, List.take_length, enc_val, enc_val, Int.natAbs_mul]
  have ht : trim (mulS (enc a.natAbs) (enc b.natAbs) (enc a.natAbs).length) = enc (a * b).natAbs := by rw [trim_enc (mulS_ok oa ob _), hv]
  have e := wholeR_eq (z := a * b) (b := !(decide (a < 0) == decide (b < 0)) && decide (trim (mulS (enc a.natAbs) (enc b.natAbs) (enc a.natAbs).length) ≠ [])) (c := c') (by
    rw [ht]
    have hn : enc (a * b).natAbs ≠ [] ↔ a * b ≠ 0 := by rw [ne_eq, enc_nil]; omega
    have hd : decide (enc (a * b).natAbs ≠ []) = decide (a * b ≠ 0) := decide_eq_decide.2 hn
    rw [hd]
    rcases Int.lt_trichotomy a 0 with h1 | h1 | h1
    · rcases Int.lt_trichotomy b 0 with h2 | h2 | h2
      · have := Int.mul_pos_of_neg_of_neg h1 h2
        simp [h1, h2]; omega
      · simp [h2]
      · have := Int.mul_neg_of_neg_of_pos h1 h2
        simp [h1, show ¬ b < 0 by omega, this]; omega
    · simp [h1]
    · rcases Int.lt_trichotomy b 0 with h2 | h2 | h2
      · have := Int.mul_neg_of_pos_of_neg h1 h2
        simp [h2, show ¬ a < 0 by omega, this]; omega
      · simp [h2]
      · have := Int.mul_pos h1 h2
        simp [show ¬ a < 0 by omega, show ¬ b < 0 by omega]; omega) ht
  refine ⟨c', ?_⟩
  rw [← e]
  exact mul_core (decide (a < 0)) (decide (b < 0)) hX hY oa ob (by omega) (by omega) rfl hw
end
end Go.Abs

namespace Go.Abs
noncomputable section
open Go.Proofs

def bwd (l : List Nat) : Nat → List (List AV)
  | 0 => []
  | k + 1 => [.int .i64 ((k : Nat) : Int), .int .u32 ((l.getD k 0 : Nat) : Int)] :: bwd l k

theorem pure_vp1 {x : AV} (h : Pure x) : Pure (.vp [x] 0) := .vp _ _ fun i hi => by
  have : i = 0 := by simpa using hi
  subst this; exact h
theorem pure_fn1 {f : Fn} {x : AV} (h : Pure x) : Pure (.fn f [] [x]) := .fn _ _ _ (fun i hi => by simp at hi) fun i hi => by
  have : i = 0 := by simpa using hi
  subst this; exact h

theorem backward_pure {l : List Nat} {X : AV} (hX : MagV l X) : PureSem Tryz.prog 198 [X] (.fn (.func 227) [] [.vp [X] 0]) := by
  have pX := hX.pure
  refine pure_of_call (pure1 pX) (pure_fn1 (pure_vp1 pX)) (call_x exactT_ok mixed Tryz.func198 rfl (by decide +kernel) ?_)
  cases hX
  all_goals
    conv => whnf
    refine ⟨⟨rfl, by decide, rfl⟩, ?_⟩
    conv => whnf
    refine .fn _ _ _ _ _ rfl rfl (fun i hi => by simp at hi) fun i hi hj => ?_
    have : i = 0 := by simpa using hi
    subst this
    refine .ptr 0 0 0 [[_]] false false _ rfl (by simp) rfl fun t h1 h2 => ?_
    have : t = 0 := by simpa using h1
    subst this
    exact .pure _ pX

theorem backward_iter {l : List Nat} {X : AV} (hX : MagV l X) (hl : l.length < 4611686018427387904) : IterSem Tryz.prog 227 [.vp [X] 0] (bwd l l.length) := ⟨fun h lp K hR => by
  letI : FH := fhHead
  refine call_x exactT_ok mixed Tryz.func227 rfl (by decide +kernel) ?_
  obtain ⟨B, L⟩ := h
  cases hX with
  | nils h0 =>
    subst h0
    conv => whnf
    repeat ((first | refine And.intro rfl ?_ | refine wrapX_i64 (by omega) ?_); conv => whnf)
    refine t_inLoop (wpx_ok exactT_ok mixed _ _ _ ?_)
    conv => whnf
    repeat ((first | refine condX_true ?_ | refine condX_false ?_ | refine condX_f rfl ?_); conv => whnf)
    exact hR
  | vs c =>
    conv => whnf
    repeat ((first | refine lenX_eq (limbsV_length _) ?_ | refine And.intro rfl ?_ | refine wrapX_i64 (by omega) ?_); conv => whnf)
    refine loop_p exactT_ok mixed 19 (fun a : Nat × Heap => a.1) (fun a => a.1 ≤ l.length ∧ Rounds Tryz.prog lp (bwd l a.1) a.2 (K (.tup [])))
      (fun (k, _) => [(0, .yld lp), (1, .vp [.vs (limbsV l) c] 0), (3, .int .i64 ((k : Int) - 1))]) (fun (_, h) => h) ?_ (l.length, ⟨B, L⟩) _ ⟨Nat.le_refl _, hR⟩ rfl rfl ⟨rfl, rfl, rfl, trivial⟩
    rintro ⟨k, ⟨B', L'⟩⟩ g ⟨hk, hI⟩
    simp only at hk hI
    conv => whnf
    refine condX_dec (fun h1 => ?_) (fun h1 => ?_) <;> conv => whnf
    · obtain ⟨j, rfl⟩ : ∃ j, k = j + 1 := ⟨k - 1, by omega⟩
      have e1 : ((j + 1 : Nat) : Int) - 1 = (j : Int) := by omega
      have hj : j < l.length := by omega
      have e2 : l.getD j 0 = l[j] := by simp [hj]
      refine idx_limbs j e1 hj ?_
      conv => whnf
      have hI' : callV Tryz.prog ⟨B', L'⟩ (.yld lp) [.int .i64 (((j + 1 : Nat) : Int) - 1), .int .u32 ((l[j] : Nat) : Int)] fun r h' => (r = .bool true ∧ Rounds Tryz.prog lp (bwd l j) h' (K (.tup []))) ∨ (r = .bool false ∧ K (.tup []) h') := by
        rw [e1, ← e2]; exact hI
      refine ⟨callV_mono (fun r h' hq => ?_) hI'⟩
      obtain ⟨B2, L2⟩ := h'
      rcases hq with ⟨rfl, hq⟩ | ⟨rfl, hq⟩
      · conv => whnf
        repeat ((first | refine condX_false ?_ | refine condX_f rfl ?_ | refine And.intro rfl ?_ | refine wrapX_i64 (by omega) ?_); conv => whnf)
        refine ⟨(j, ⟨B2, L2⟩), by simp, ⟨by omega, hq⟩, rfl, rfl, rfl, rfl, ?_, trivial⟩
        show some (AV.int .i64 _) = some (AV.int .i64 _)
        congr 2
        omega
      · conv => whnf
        repeat ((first | refine condX_true ?_ | refine condX_t rfl ?_); conv => whnf)
        exact hq
    · obtain rfl : k = 0 := by omega
      exact hI⟩

theorem val_drop {l : List Nat} {j : Nat} (hj : j < l.length) : val (l.drop j) = l[j] + 1000000000 * val (l.drop (j + 1)) := by
  rw [List.drop_eq_getElem_cons hj, val]

theorem value_pure {l : List Nat} {X : AV} (hX : MagV l X) (ol : okL l) (hl : l.length ≤ 2) : PureSem Tryz.prog 157 [X] (.int .u64 ((val l : Nat) : Int)) := by
  have pX := hX.pure
  have hb := backward_pure hX
  have hi := backward_iter hX (by omega)
  refine pure_of_call (pure1 pX) (.int _ _) (call_x exactT_ok mixed Tryz.func157 rfl (by decide +kernel) ?_)
  cases hX
  all_goals
    conv => whnf
    repeat ((first | refine ⟨⟨by decide, rfl⟩, ?_⟩ | refine stX_box rfl ?_ | refine callX_pure hb (pure1 pX) ?_); conv => whnf)
    refine range_iter hi rfl (fun _ h => by cases h) (fun vs blks => ∃ k, k ≤ l.length ∧ vs = bwd l k ∧ blks = [some (.rows [[.int .u64 ((val (l.drop k) : Nat) : Int)]] false false)]) ⟨l.length, Nat.le_refl _, rfl, by rw [List.drop_length]; rfl⟩ ?_ ?_
    · rintro v vs blks ⟨k, hk, hvs, rfl⟩
      cases k with
      | zero => cases hvs
      | succ j =>
        injection hvs with e1 e2
        subst e1 e2
        refine ⟨rfl, fun r n m => run_x exactT_ok mixed ?_⟩
        conv => whnf
        refine ⟨rfl, rfl, fun r' => run_x exactT_ok mixed ?_⟩
        conv => whnf
        have hj : j < l.length := by omega
        have hx := okL_get ol hj
        have hd := val_drop hj
        have eg : l.getD j 0 = l[j] := by simp [hj]
        have hv := val_lt (okL_drop ol (j + 1))
        rw [List.length_drop] at hv
        have hp : 1000000000 ^ (l.length - (j + 1)) ≤ 1000000000 ^ 1 := Nat.pow_le_pow_right (by omega) (by omega)
        repeat ((first | refine ldX_eq rfl ?_ | refine And.intro rfl ?_ | refine wrapX_u64 (by omega) ?_ | refine stX_box rfl ?_); conv => whnf)
        refine ⟨_, rfl, j, by omega, rfl, ?_⟩
        refine congrArg (fun z : Int => [some (Blk.rows [[AV.int .u64 z]] false false)]) ?_
        rw [hd]
        omega
    · rintro blks ⟨k, hk, hvs, rfl⟩
      cases k with
      | succ j => cases hvs
      | zero =>
        conv => whnf
        repeat ((first | refine ldX_eq rfl ?_); conv => whnf)
        rw [List.drop_zero]
        exact .pure _ (.int _ _)
end
end Go.Abs

namespace Go.Abs
noncomputable section
open Go.Proofs

theorem pure_tup2 {x y : AV} (h : Pure x) (h' : Pure y) : Pure (.tup [x, y]) := .tup _ fun i hi => by
  match i, hi with
  | 0, _ => exact h
  | 1, _ => exact h'
theorem frz_tup2 {h : Heap} {x y x' y' : AV} (h1 : Frz h x x') (h2 : Frz h y y') : Frz h (.tup [x, y]) (.tup [x', y']) := .tup _ _ rfl fun i hi hj => by
  match i, hi with
  | 0, _ => exact h1
  | 1, _ => exact h2

set_option maxHeartbeats 1000000 in
theorem short_pure {l : List Nat} {X : AV} (d : Nat) (hX : MagV l X) (ol : okL l) (hl : l.length < 1000000000000) (hd : 0 < d) (hd2 : d < 1000000000) :
    PureSem Tryz.prog 194 [X, .int .u32 (d : Int)] (.tup [.vs (limbsV (shortP l d 0)) (some l.length), .int .u32 ((val l % d : Nat) : Int)]) := by
  have pX := hX.pure
  have hb := backward_pure hX
  have hi := backward_iter hX (by omega)
  refine pure_of_call (pure2 pX (.int _ _)) (pure_tup2 (pure_limbs _ _) (.int _ _)) (call_x exactT_ok mixed Tryz.func194 rfl (by decide +kernel) ?_)
  cases hX
  all_goals
    conv => whnf
    repeat ((first | refine ⟨⟨rfl, by decide, rfl⟩, ?_⟩ | refine lenX_eq (limbsV_length _) ?_); conv => whnf)
    refine mkX_eq (n := l.length) (m := l.length) (by first | rfl | (subst_vars; rfl)) (by first | rfl | (subst_vars; rfl)) ⟨by omega, (show 4 * l.length ≤ 140737488355328 by omega), by omega⟩ ⟨by decide, rfl⟩ (limbsV_replicate _) ?_
    conv => whnf
    repeat ((first | refine ⟨⟨by decide, rfl⟩, ?_⟩ | refine stX_box rfl ?_ | refine callX_pure hb (pure1 pX) ?_); conv => whnf)
    refine range_iter hi rfl (fun _ h => by cases h) (fun vs blks => ∃ k, k ≤ l.length ∧ vs = bwd l k ∧
      blks = [some (.rows [[.int .u32 (d : Int)]] false false), some (.rows (limbsV (shortP l d k)) false false), some (.rows [[.ms 1 0 l.length (some l.length)]] false false), some (.rows [[.int .u64 ((val (l.drop k) % d : Nat) : Int)]] false false)])
      ⟨l.length, Nat.le_refl _, rfl, by rw [List.drop_length]; simp [shortP, shortT, val]; rfl⟩ ?_ ?_
    · rintro v vs blks ⟨k, hk, hvs, rfl⟩
      cases k with
      | zero => cases hvs
      | succ j =>
        injection hvs with e1 e2
        subst e1 e2
        refine ⟨rfl, fun r n m => run_x exactT_ok mixed ?_⟩
        conv => whnf
        refine ⟨rfl, rfl, fun r' => run_x exactT_ok mixed ?_⟩
        conv => whnf
        have hj : j < l.length := by omega
        have hx := okL_get ol hj
        have eg : l.getD j 0 = l[j] := by simp [hj]
        have hm := Nat.mod_lt (val (l.drop (j + 1))) hd
        repeat ((first | refine ldX_eq rfl ?_ | refine And.intro rfl ?_ | refine wrapX_u64 (by omega) ?_); conv => whnf)
        refine Or.inl ⟨by decide +kernel, ?_⟩
        conv => whnf
        repeat ((first | refine ⟨_, _, fun K hK => (by (conv => whnf); first | exact hK | exact ldX_eq rfl hK | exact wrapX_u64 (by omega) hK | exact And.intro rfl (divX_nat ((val (l.drop (j + 1)) % d) * 1000000000 + l.getD j 0) d (by omega) rfl (by omega) (IntWalk.u64_in ((shortD l d j : Nat) : Int) (by have := shortD_lt ol hd j; omega)) hK) | exact And.intro rfl (remX_nat ((val (l.drop (j + 1)) % d) * 1000000000 + l.getD j 0) d (by omega) rfl (by omega) hK) | exact wrapX_nat (shortD l d j) rfl (IntWalk.u32_in _ (by have := shortD_lt ol hd j; omega)) hK | exact idm_limbs j rfl (by omega) (by rw [shortP_length (by omega)]; omega) hK | (refine st_limbs (d := shortD l d j) (by rw [shortP_length (by omega)]; omega) rfl ?_; (conv => whnf); exact hK) | (refine stX_box rfl ?_; (conv => whnf); exact hK)), Or.inl ⟨rfl, (by repeat' (first | exact True.intro | refine And.intro ?_ ?_ | exact Or.inl (by decide +kernel) | decide +kernel | exact Or.inr (fun K hK => (by (conv => whnf); first | exact hK | exact ldX_eq rfl hK | exact wrapX_u64 (by omega) hK | exact And.intro rfl (divX_nat ((val (l.drop (j + 1)) % d) * 1000000000 + l.getD j 0) d (by omega) rfl (by omega) (IntWalk.u64_in ((shortD l d j : Nat) : Int) (by have := shortD_lt ol hd j; omega)) hK) | exact And.intro rfl (remX_nat ((val (l.drop (j + 1)) % d) * 1000000000 + l.getD j 0) d (by omega) rfl (by omega) hK) | exact wrapX_nat (shortD l d j) rfl (IntWalk.u32_in _ (by have := shortD_lt ol hd j; omega)) hK | exact idm_limbs j rfl (by omega) (by rw [shortP_length (by omega)]; omega) hK | (refine st_limbs (d := shortD l d j) (by rw [shortP_length (by omega)]; omega) rfl ?_; (conv => whnf); exact hK) | (refine stX_box rfl ?_; (conv => whnf); exact hK))))), ?_⟩⟩ | refine ⟨_, _, fun K hK => (by (conv => whnf); first | exact hK | exact ldX_eq rfl hK | exact wrapX_u64 (by omega) hK | exact And.intro rfl (divX_nat ((val (l.drop (j + 1)) % d) * 1000000000 + l.getD j 0) d (by omega) rfl (by omega) (IntWalk.u64_in ((shortD l d j : Nat) : Int) (by have := shortD_lt ol hd j; omega)) hK) | exact And.intro rfl (remX_nat ((val (l.drop (j + 1)) % d) * 1000000000 + l.getD j 0) d (by omega) rfl (by omega) hK) | exact wrapX_nat (shortD l d j) rfl (IntWalk.u32_in _ (by have := shortD_lt ol hd j; omega)) hK | exact idm_limbs j rfl (by omega) (by rw [shortP_length (by omega)]; omega) hK | (refine st_limbs (d := shortD l d j) (by rw [shortP_length (by omega)]; omega) rfl ?_; (conv => whnf); exact hK) | (refine stX_box rfl ?_; (conv => whnf); exact hK)), Or.inr ⟨(by repeat' (first | exact True.intro | refine And.intro ?_ ?_ | exact Or.inl (by decide +kernel) | decide +kernel | exact Or.inr (fun K hK => (by (conv => whnf); first | exact hK | exact ldX_eq rfl hK | exact wrapX_u64 (by omega) hK | exact And.intro rfl (divX_nat ((val (l.drop (j + 1)) % d) * 1000000000 + l.getD j 0) d (by omega) rfl (by omega) (IntWalk.u64_in ((shortD l d j : Nat) : Int) (by have := shortD_lt ol hd j; omega)) hK) | exact And.intro rfl (remX_nat ((val (l.drop (j + 1)) % d) * 1000000000 + l.getD j 0) d (by omega) rfl (by omega) hK) | exact wrapX_nat (shortD l d j) rfl (IntWalk.u32_in _ (by have := shortD_lt ol hd j; omega)) hK | exact idm_limbs j rfl (by omega) (by rw [shortP_length (by omega)]; omega) hK | (refine st_limbs (d := shortD l d j) (by rw [shortP_length (by omega)]; omega) rfl ?_; (conv => whnf); exact hK) | (refine stX_box rfl ?_; (conv => whnf); exact hK))))), (by repeat' (first | exact True.intro | refine And.intro ?_ ?_ | exact Or.inl (by decide +kernel) | decide +kernel | exact Or.inr (fun K hK => (by (conv => whnf); first | exact hK | exact ldX_eq rfl hK | exact wrapX_u64 (by omega) hK | exact And.intro rfl (divX_nat ((val (l.drop (j + 1)) % d) * 1000000000 + l.getD j 0) d (by omega) rfl (by omega) (IntWalk.u64_in ((shortD l d j : Nat) : Int) (by have := shortD_lt ol hd j; omega)) hK) | exact And.intro rfl (remX_nat ((val (l.drop (j + 1)) % d) * 1000000000 + l.getD j 0) d (by omega) rfl (by omega) hK) | exact wrapX_nat (shortD l d j) rfl (IntWalk.u32_in _ (by have := shortD_lt ol hd j; omega)) hK | exact idm_limbs j rfl (by omega) (by rw [shortP_length (by omega)]; omega) hK | (refine st_limbs (d := shortD l d j) (by rw [shortP_length (by omega)]; omega) rfl ?_; (conv => whnf); exact hK) | (refine stX_box rfl ?_; (conv => whnf); exact hK))))), ?_⟩⟩); conv => whnf)
        refine ⟨_, rfl, j, by omega, rfl, ?_⟩
        show [_, some (Blk.rows (limbsV (List.set _ _ _)) false false), _, some (Blk.rows [[AV.int .u64 _]] false false)] = [_, some (Blk.rows (limbsV _) false false), _, some (Blk.rows [[AV.int .u64 _]] false false)]
        rw [Nat.zero_add, shortP_set hj, short_mod hd hj]
    · rintro blks ⟨k, hk, hvs, rfl⟩
      cases k with
      | succ j => cases hvs
      | zero =>
        have hm := Nat.mod_lt (val (l.drop 0)) hd
        conv => whnf
        refine Or.inl ⟨by decide +kernel, ?_⟩
        conv => whnf
        repeat ((first | refine ⟨_, _, fun K hK => (by (conv => whnf); first | exact hK | exact ldX_eq rfl hK | exact wrapX_u32 (by omega) hK), Or.inl ⟨rfl, (by repeat' (first | exact True.intro | refine And.intro ?_ ?_ | exact Or.inl (by decide +kernel) | decide +kernel | exact Or.inr (fun K hK => (by (conv => whnf); first | exact hK | exact ldX_eq rfl hK | exact wrapX_u32 (by omega) hK)))), ?_⟩⟩ | refine ⟨_, _, fun K hK => (by (conv => whnf); first | exact hK | exact ldX_eq rfl hK | exact wrapX_u32 (by omega) hK), Or.inr ⟨(by repeat' (first | exact True.intro | refine And.intro ?_ ?_ | exact Or.inl (by decide +kernel) | decide +kernel | exact Or.inr (fun K hK => (by (conv => whnf); first | exact hK | exact ldX_eq rfl hK | exact wrapX_u32 (by omega) hK)))), (by repeat' (first | exact True.intro | refine And.intro ?_ ?_ | exact Or.inl (by decide +kernel) | decide +kernel | exact Or.inr (fun K hK => (by (conv => whnf); first | exact hK | exact ldX_eq rfl hK | exact wrapX_u32 (by omega) hK)))), ?_⟩⟩); conv => whnf)
        rw [List.drop_zero]
        exact frz_tup2 (frz_limbs rfl (by rw [shortP_length (by omega)]; omega) (by rw [List.drop_zero, List.take_of_length_le (by rw [shortP_length (by omega)]; omega)])) (.pure _ (.int _ _))
end
end Go.Abs
