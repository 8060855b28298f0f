/-
  Steps to a law of this program: SEx25, SKn1, SKn2.
  Conditions: none.
-/
import Derived.Test.YtcgnfpojjjkakaaGreatDoorB33
import Derived.Test.YtcgnfpojjjkakaaGreatDoorB22
import Derived.Test.YtcgnfpojjjkakaaGreatDoorB15
import Derived.Test.YtcgnfpojjjkakaaGreatDoorB21
set_option linter.unusedVariables false
set_option linter.unusedSimpArgs false
set_option linter.unusedSectionVars false
namespace Go.Abs
noncomputable section
open Go.Proofs

set_option maxHeartbeats 4000000 in
set_option maxRecDepth 100000 in
theorem signn_walk {l1 : List Nat} {X : AV} {sx : Bool} {u : List Nat} {cu : Option Nat} {s : Int} (hX : MagV l1 X)
    (h1 : PureSem Tryz.prog 105 [.agg [.bool sx, X]] (.int .i64 s)) :
    PureSem Tryz.prog 63 [.agg [.bool sx, X, .bool false, .vs (limbsV u) cu]] (.int .i64 s) := by
  have pX := hX.pure
  have pu := pure_limbs u cu
  refine pure_of_call (pure1 (pure_agg4 (.bool _) pX (.bool _) pu)) (.int _ _) (call_x exactT_ok mixed Tryz.func63 rfl (by decide +kernel) ?_)
  cases hX
  all_goals
    conv => whnf
    repeat ((first | refine ⟨⟨rfl, by decide, rfl⟩, ?_⟩ | refine ⟨⟨by decide, rfl⟩, ?_⟩ | refine ldX_eq rfl ?_ | refine callX_pure h1 (pure1 (pure_agg2 (.bool _) pX)) ?_ | refine stX_box rfl ?_); conv => whnf)
    exact .pure _ (.int _ _)

set_option maxHeartbeats 4000000 in
set_option maxRecDepth 100000 in
theorem negn_walk {l1 l2 : List Nat} {X Z : AV} {sx sz : Bool} {u : List Nat} {cu : Option Nat} (hX : MagV l1 X) (hZ : MagV l2 Z)
    (h1 : PureSem Tryz.prog 154 [.agg [.bool sx, X]] (.agg [.bool sz, Z])) :
    PureSem Tryz.prog 104 [.agg [.bool sx, X, .bool false, .vs (limbsV u) cu]] (.agg [.bool sz, Z, .bool false, .vs (limbsV u) cu]) := by
  have pX := hX.pure
  have pZ := hZ.pure
  have pu := pure_limbs u cu
  refine pure_of_call (pure1 (pure_agg4 (.bool _) pX (.bool _) pu)) (pure_agg4 (.bool _) pZ (.bool _) pu) (call_x exactT_ok mixed Tryz.func104 rfl (by decide +kernel) ?_)
  cases hX <;> cases hZ
  all_goals
    conv => whnf
    repeat ((first | refine ⟨⟨rfl, by decide, rfl⟩, ?_⟩ | refine ⟨⟨by decide, rfl⟩, ?_⟩); conv => whnf)
    refine Or.inl ⟨by decide +kernel, ?_⟩
    conv => whnf
    repeat ((first
      | refine ⟨_, _, fun K hK => (by (conv => whnf); first | exact hK | exact ldX_eq rfl hK | exact callX_pure h1 (pure1 (pure_agg2 (.bool _) pX)) hK | (refine stX_box rfl ?_; (conv => whnf); exact hK)), Or.inl ⟨rfl, (by repeat' (first | exact True.intro | refine And.intro ?_ ?_ | exact Or.inl (by decide +kernel) | decide +kernel | exact Or.inr (fun K hK => (by (conv => whnf); first | exact hK | exact ldX_eq rfl hK | exact callX_pure h1 (pure1 (pure_agg2 (.bool _) pX)) hK | (refine stX_box rfl ?_; (conv => whnf); exact hK))))), ?_⟩⟩
      | refine ⟨_, _, fun K hK => (by (conv => whnf); first | exact hK | exact ldX_eq rfl hK | exact callX_pure h1 (pure1 (pure_agg2 (.bool _) pX)) hK | (refine stX_box rfl ?_; (conv => whnf); exact hK)), Or.inr ⟨(by repeat' (first | exact True.intro | refine And.intro ?_ ?_ | exact Or.inl (by decide +kernel) | decide +kernel | exact Or.inr (fun K hK => (by (conv => whnf); first | exact hK | exact ldX_eq rfl hK | exact callX_pure h1 (pure1 (pure_agg2 (.bool _) pX)) hK | (refine stX_box rfl ?_; (conv => whnf); exact hK))))), (by repeat' (first | exact True.intro | refine And.intro ?_ ?_ | exact Or.inl (by decide +kernel) | decide +kernel | exact Or.inr (fun K hK => (by (conv => whnf); first | exact hK | exact ldX_eq rfl hK | exact callX_pure h1 (pure1 (pure_agg2 (.bool _) pX)) hK | (refine stX_box rfl ?_; (conv => whnf); exact hK))))), ?_⟩⟩); conv => whnf)
    exact .pure _ (pure_agg4 (.bool _) pZ (.bool _) pu)

set_option maxHeartbeats 4000000 in
set_option maxRecDepth 100000 in
theorem subn_walk {l1 l2 l3 l4 : List Nat} {X Y Y' Z : AV} {sx sy sy' sz : Bool} {u v v' w : List Nat} {cu cv cv' cw : Option Nat} (hX : MagV l1 X) (hY : MagV l2 Y) (hY' : MagV l3 Y') (hZ : MagV l4 Z)
    (h1 : PureSem Tryz.prog 104 [.agg [.bool sy, Y, .bool false, .vs (limbsV v) cv]] (.agg [.bool sy', Y', .bool false, .vs (limbsV v') cv']))
    (h2 : PureSem Tryz.prog 86 [.agg [.bool sx, X, .bool false, .vs (limbsV u) cu], .agg [.bool sy', Y', .bool false, .vs (limbsV v') cv']] (.agg [.bool sz, Z, .bool false, .vs (limbsV w) cw])) :
    PureSem Tryz.prog 62 [.agg [.bool sx, X, .bool false, .vs (limbsV u) cu], .agg [.bool sy, Y, .bool false, .vs (limbsV v) cv]] (.agg [.bool sz, Z, .bool false, .vs (limbsV w) cw]) := by
  have pX := hX.pure
  have pY := hY.pure
  have pY' := hY'.pure
  have pZ := hZ.pure
  have pu := pure_limbs u cu
  have pv := pure_limbs v cv
  have pv' := pure_limbs v' cv'
  refine pure_of_call (pure2 (pure_agg4 (.bool _) pX (.bool _) pu) (pure_agg4 (.bool _) pY (.bool _) pv)) (pure_agg4 (.bool _) pZ (.bool _) (pure_limbs _ _)) (call_x exactT_ok mixed Tryz.func62 rfl (by decide +kernel) ?_)
  cases hX <;> cases hY <;> cases hY' <;> cases hZ
  all_goals
    conv => whnf
    repeat ((first | refine ⟨⟨rfl, by decide, rfl⟩, ?_⟩ | refine ⟨⟨by decide, rfl⟩, ?_⟩); conv => whnf)
    refine Or.inl ⟨by decide +kernel, ?_⟩
    conv => whnf
    repeat ((first
      | refine ⟨_, _, fun K hK => (by (conv => whnf); first | exact hK | exact ldX_eq rfl hK | exact callX_pure h1 (pure1 (pure_agg4 (.bool _) pY (.bool _) pv)) hK | exact callX_pure h2 (pure2 (pure_agg4 (.bool _) pX (.bool _) pu) (pure_agg4 (.bool _) pY' (.bool _) pv')) hK | (refine stX_box rfl ?_; (conv => whnf); exact hK)), Or.inl ⟨rfl, (by repeat' (first | exact True.intro | refine And.intro ?_ ?_ | exact Or.inl (by decide +kernel) | decide +kernel | exact Or.inr (fun K hK => (by (conv => whnf); first | exact hK | exact ldX_eq rfl hK | exact callX_pure h1 (pure1 (pure_agg4 (.bool _) pY (.bool _) pv)) hK | exact callX_pure h2 (pure2 (pure_agg4 (.bool _) pX (.bool _) pu) (pure_agg4 (.bool _) pY' (.bool _) pv')) hK | (refine stX_box rfl ?_; (conv => whnf); exact hK))))), ?_⟩⟩
      | refine ⟨_, _, fun K hK => (by (conv => whnf); first | exact hK | exact ldX_eq rfl hK | exact callX_pure h1 (pure1 (pure_agg4 (.bool _) pY (.bool _) pv)) hK | exact callX_pure h2 (pure2 (pure_agg4 (.bool _) pX (.bool _) pu) (pure_agg4 (.bool _) pY' (.bool _) pv')) hK | (refine stX_box rfl ?_; (conv => whnf); exact hK)), Or.inr ⟨(by repeat' (first | exact True.intro | refine And.intro ?_ ?_ | exact Or.inl (by decide +kernel) | decide +kernel | exact Or.inr (fun K hK => (by (conv => whnf); first | exact hK | exact ldX_eq rfl hK | exact callX_pure h1 (pure1 (pure_agg4 (.bool _) pY (.bool _) pv)) hK | exact callX_pure h2 (pure2 (pure_agg4 (.bool _) pX (.bool _) pu) (pure_agg4 (.bool _) pY' (.bool _) pv')) hK | (refine stX_box rfl ?_; (conv => whnf); exact hK))))), (by repeat' (first | exact True.intro | refine And.intro ?_ ?_ | exact Or.inl (by decide +kernel) | decide +kernel | exact Or.inr (fun K hK => (by (conv => whnf); first | exact hK | exact ldX_eq rfl hK | exact callX_pure h1 (pure1 (pure_agg4 (.bool _) pY (.bool _) pv)) hK | exact callX_pure h2 (pure2 (pure_agg4 (.bool _) pX (.bool _) pu) (pure_agg4 (.bool _) pY' (.bool _) pv')) hK | (refine stX_box rfl ?_; (conv => whnf); exact hK))))), ?_⟩⟩); conv => whnf)
    exact .pure _ (pure_agg4 (.bool _) pZ (.bool _) (pure_limbs _ _))

set_option maxHeartbeats 4000000 in
set_option maxRecDepth 100000 in
theorem cmpn_walk {l1 l2 : List Nat} {X Y : AV} {sx sy s1 s2 : Bool} {u v w1 w2 : List Nat} {cu cv c1 c2 : Option Nat} {z : Int} (hX : MagV l1 X) (hY : MagV l2 Y)
    (h1 : PureSem Tryz.prog 96 [.agg [.bool sx, X], .agg [.bool false, .vs (limbsV v) cv]] (.agg [.bool s1, .vs (limbsV w1) c1]))
    (h2 : PureSem Tryz.prog 96 [.agg [.bool sy, Y], .agg [.bool false, .vs (limbsV u) cu]] (.agg [.bool s2, .vs (limbsV w2) c2]))
    (h3 : PureSem Tryz.prog 97 [.agg [.bool s1, .vs (limbsV w1) c1], .agg [.bool s2, .vs (limbsV w2) c2]] (.int .i64 z)) :
    PureSem Tryz.prog 56 [.agg [.bool sx, X, .bool false, .vs (limbsV u) cu], .agg [.bool sy, Y, .bool false, .vs (limbsV v) cv]] (.int .i64 z) := by
  have pX := hX.pure
  have pY := hY.pure
  have pu := pure_limbs u cu
  have pv := pure_limbs v cv
  refine pure_of_call (pure2 (pure_agg4 (.bool _) pX (.bool _) pu) (pure_agg4 (.bool _) pY (.bool _) pv)) (.int _ _) (call_x exactT_ok mixed Tryz.func56 rfl (by decide +kernel) ?_)
  cases hX <;> cases hY
  all_goals
    conv => whnf
    repeat ((first | refine ⟨⟨rfl, by decide, rfl⟩, ?_⟩ | refine ⟨⟨by decide, rfl⟩, ?_⟩); conv => whnf)
    refine Or.inl ⟨by decide +kernel, ?_⟩
    conv => whnf
    repeat ((first
      | refine ⟨_, _, fun K hK => (by (conv => whnf); first | exact hK | exact ldX_eq rfl hK | exact callX_pure h1 (pure2 (pure_agg2 (.bool _) pX) (pure_agg2 (.bool _) pv)) hK | exact callX_pure h2 (pure2 (pure_agg2 (.bool _) pY) (pure_agg2 (.bool _) pu)) hK | exact callX_pure h3 (pure2 (pure_agg2 (.bool _) (pure_limbs _ _)) (pure_agg2 (.bool _) (pure_limbs _ _))) hK | (refine stX_box rfl ?_; (conv => whnf); exact hK)), Or.inl ⟨rfl, (by repeat' (first | exact True.intro | refine And.intro ?_ ?_ | exact Or.inl (by decide +kernel) | decide +kernel | exact Or.inr (fun K hK => (by (conv => whnf); first | exact hK | exact ldX_eq rfl hK | exact callX_pure h1 (pure2 (pure_agg2 (.bool _) pX) (pure_agg2 (.bool _) pv)) hK | exact callX_pure h2 (pure2 (pure_agg2 (.bool _) pY) (pure_agg2 (.bool _) pu)) hK | exact callX_pure h3 (pure2 (pure_agg2 (.bool _) (pure_limbs _ _)) (pure_agg2 (.bool _) (pure_limbs _ _))) hK | (refine stX_box rfl ?_; (conv => whnf); exact hK))))), ?_⟩⟩
      | refine ⟨_, _, fun K hK => (by (conv => whnf); first | exact hK | exact ldX_eq rfl hK | exact callX_pure h1 (pure2 (pure_agg2 (.bool _) pX) (pure_agg2 (.bool _) pv)) hK | exact callX_pure h2 (pure2 (pure_agg2 (.bool _) pY) (pure_agg2 (.bool _) pu)) hK | exact callX_pure h3 (pure2 (pure_agg2 (.bool _) (pure_limbs _ _)) (pure_agg2 (.bool _) (pure_limbs _ _))) hK | (refine stX_box rfl ?_; (conv => whnf); exact hK)), Or.inr ⟨(by repeat' (first | exact True.intro | refine And.intro ?_ ?_ | exact Or.inl (by decide +kernel) | decide +kernel | exact Or.inr (fun K hK => (by (conv => whnf); first | exact hK | exact ldX_eq rfl hK | exact callX_pure h1 (pure2 (pure_agg2 (.bool _) pX) (pure_agg2 (.bool _) pv)) hK | exact callX_pure h2 (pure2 (pure_agg2 (.bool _) pY) (pure_agg2 (.bool _) pu)) hK | exact callX_pure h3 (pure2 (pure_agg2 (.bool _) (pure_limbs _ _)) (pure_agg2 (.bool _) (pure_limbs _ _))) hK | (refine stX_box rfl ?_; (conv => whnf); exact hK))))), (by repeat' (first | exact True.intro | refine And.intro ?_ ?_ | exact Or.inl (by decide +kernel) | decide +kernel | exact Or.inr (fun K hK => (by (conv => whnf); first | exact hK | exact ldX_eq rfl hK | exact callX_pure h1 (pure2 (pure_agg2 (.bool _) pX) (pure_agg2 (.bool _) pv)) hK | exact callX_pure h2 (pure2 (pure_agg2 (.bool _) pY) (pure_agg2 (.bool _) pu)) hK | exact callX_pure h3 (pure2 (pure_agg2 (.bool _) (pure_limbs _ _)) (pure_agg2 (.bool _) (pure_limbs _ _))) hK | (refine stX_box rfl ?_; (conv => whnf); exact hK))))), ?_⟩⟩); conv => whnf)
    exact .pure _ (.int _ _)

set_option maxHeartbeats 4000000 in
set_option maxRecDepth 100000 in
theorem divn_walk {l1 l2 l3 : List Nat} {X Y Z : AV} {sx sy s1 s2 sz : Bool} {u v w1 w2 w3 : List Nat} {cu cv c1 c2 c3 : Option Nat} (hX : MagV l1 X) (hY : MagV l2 Y) (hZ : MagV l3 Z)
    (h1 : PureSem Tryz.prog 96 [.agg [.bool sx, X], .agg [.bool false, .vs (limbsV v) cv]] (.agg [.bool s1, .vs (limbsV w1) c1]))
    (h2 : PureSem Tryz.prog 96 [.agg [.bool false, .vs (limbsV u) cu], .agg [.bool sy, Y]] (.agg [.bool s2, .vs (limbsV w2) c2]))
    (h3 : PureSem Tryz.prog 102 [.agg [.bool s1, .vs (limbsV w1) c1], .agg [.bool s2, .vs (limbsV w2) c2]] (.agg [.bool sz, Z, .bool false, .vs (limbsV w3) c3])) :
    PureSem Tryz.prog 72 [.agg [.bool sx, X, .bool false, .vs (limbsV u) cu], .agg [.bool sy, Y, .bool false, .vs (limbsV v) cv]] (.agg [.bool sz, Z, .bool false, .vs (limbsV w3) c3]) := by
  have pX := hX.pure
  have pY := hY.pure
  have pZ := hZ.pure
  have pu := pure_limbs u cu
  have pv := pure_limbs v cv
  refine pure_of_call (pure2 (pure_agg4 (.bool _) pX (.bool _) pu) (pure_agg4 (.bool _) pY (.bool _) pv)) (pure_agg4 (.bool _) pZ (.bool _) (pure_limbs _ _)) (call_x exactT_ok mixed Tryz.func72 rfl (by decide +kernel) ?_)
  cases hX <;> cases hY <;> cases hZ
  all_goals
    conv => whnf
    repeat ((first | refine ⟨⟨rfl, by decide, rfl⟩, ?_⟩ | refine ⟨⟨by decide, rfl⟩, ?_⟩); conv => whnf)
    refine Or.inl ⟨by decide +kernel, ?_⟩
    conv => whnf
    repeat ((first
      | refine ⟨_, _, fun K hK => (by (conv => whnf); first | exact hK | exact ldX_eq rfl hK | exact callX_pure h1 (pure2 (pure_agg2 (.bool _) pX) (pure_agg2 (.bool _) pv)) hK | exact callX_pure h2 (pure2 (pure_agg2 (.bool _) pu) (pure_agg2 (.bool _) pY)) hK | exact callX_pure h3 (pure2 (pure_agg2 (.bool _) (pure_limbs _ _)) (pure_agg2 (.bool _) (pure_limbs _ _))) hK | (refine stX_box rfl ?_; (conv => whnf); exact hK)), Or.inl ⟨rfl, (by repeat' (first | exact True.intro | refine And.intro ?_ ?_ | exact Or.inl (by decide +kernel) | decide +kernel | exact Or.inr (fun K hK => (by (conv => whnf); first | exact hK | exact ldX_eq rfl hK | exact callX_pure h1 (pure2 (pure_agg2 (.bool _) pX) (pure_agg2 (.bool _) pv)) hK | exact callX_pure h2 (pure2 (pure_agg2 (.bool _) pu) (pure_agg2 (.bool _) pY)) hK | exact callX_pure h3 (pure2 (pure_agg2 (.bool _) (pure_limbs _ _)) (pure_agg2 (.bool _) (pure_limbs _ _))) hK | (refine stX_box rfl ?_; (conv => whnf); exact hK))))), ?_⟩⟩
      | refine ⟨_, _, fun K hK => (by (conv => whnf); first | exact hK | exact ldX_eq rfl hK | exact callX_pure h1 (pure2 (pure_agg2 (.bool _) pX) (pure_agg2 (.bool _) pv)) hK | exact callX_pure h2 (pure2 (pure_agg2 (.bool _) pu) (pure_agg2 (.bool _) pY)) hK | exact callX_pure h3 (pure2 (pure_agg2 (.bool _) (pure_limbs _ _)) (pure_agg2 (.bool _) (pure_limbs _ _))) hK | (refine stX_box rfl ?_; (conv => whnf); exact hK)), Or.inr ⟨(by repeat' (first | exact True.intro | refine And.intro ?_ ?_ | exact Or.inl (by decide +kernel) | decide +kernel | exact Or.inr (fun K hK => (by (conv => whnf); first | exact hK | exact ldX_eq rfl hK | exact callX_pure h1 (pure2 (pure_agg2 (.bool _) pX) (pure_agg2 (.bool _) pv)) hK | exact callX_pure h2 (pure2 (pure_agg2 (.bool _) pu) (pure_agg2 (.bool _) pY)) hK | exact callX_pure h3 (pure2 (pure_agg2 (.bool _) (pure_limbs _ _)) (pure_agg2 (.bool _) (pure_limbs _ _))) hK | (refine stX_box rfl ?_; (conv => whnf); exact hK))))), (by repeat' (first | exact True.intro | refine And.intro ?_ ?_ | exact Or.inl (by decide +kernel) | decide +kernel | exact Or.inr (fun K hK => (by (conv => whnf); first | exact hK | exact ldX_eq rfl hK | exact callX_pure h1 (pure2 (pure_agg2 (.bool _) pX) (pure_agg2 (.bool _) pv)) hK | exact callX_pure h2 (pure2 (pure_agg2 (.bool _) pu) (pure_agg2 (.bool _) pY)) hK | exact callX_pure h3 (pure2 (pure_agg2 (.bool _) (pure_limbs _ _)) (pure_agg2 (.bool _) (pure_limbs _ _))) hK | (refine stX_box rfl ?_; (conv => whnf); exact hK))))), ?_⟩⟩); conv => whnf)
    exact .pure _ (pure_agg4 (.bool _) pZ (.bool _) (pure_limbs _ _))

theorem sign_num {q : Rat} {x : AV} (hx : NumV q x) : PureSem Tryz.prog 63 [x] (.int .i64 (sgn q.num)) := by
  obtain ⟨X, cu, hX, rfl, nX, dX⟩ := num_whole hx
  exact signn_walk hX (sign_whole nX)

theorem neg_num {q : Rat} {x : AV} {k : Nat} (hx : NumV q x) (hq : Sz k q) (hk : k < 10000000000) : ∃ r, NumV (-q) r ∧ PureSem Tryz.prog 104 [x] r := by
  obtain ⟨X, cu, hX, rfl, nX, dX⟩ := num_whole hx
  obtain ⟨q1, q2⟩ := hq
  obtain ⟨r, hr, h1⟩ := neg_whole nX (by omega)
  obtain ⟨Z, hZ, rfl⟩ := hr
  refine ⟨_, ⟨Z, cu, ?_, ?_⟩, negn_walk hX hZ h1⟩
  · rw [Rat.neg_num]; exact hZ
  · rw [Rat.neg_num, Rat.neg_den]

theorem cmp_num {p q : Rat} {x y : AV} {k l : Nat} (hx : NumV p x) (hy : NumV q y) (hp : Sz k p) (hq : Sz l q) (hk : k + l < 10000000000) :
    PureSem Tryz.prog 56 [x, y] (.int .i64 (cmpZ (p.num * (q.den : Int)) (q.num * (p.den : Int)))) := by
  obtain ⟨X, cu, hX, rfl, nX, dX⟩ := num_whole hx
  obtain ⟨Y, cv, hY, rfl, nY, dY⟩ := num_whole hy
  obtain ⟨p1, p2⟩ := hp
  obtain ⟨q1, q2⟩ := hq
  have lp : (enc (p.den : Int).natAbs).length ≤ k := p2
  have lq : (enc (q.den : Int).natAbs).length ≤ l := q2
  obtain ⟨c1, h1⟩ := mul_whole nX dY (by omega) (by omega)
  obtain ⟨c2, h2⟩ := mul_whole nY dX (by omega) (by omega)
  have e1 : (enc (p.num * (q.den : Int)).natAbs).length ≤ k + l := by rw [Int.natAbs_mul]; have := enc_mul_len p.num.natAbs (q.den : Int).natAbs; omega
  have e2 : (enc (q.num * (p.den : Int)).natAbs).length ≤ k + l := by rw [Int.natAbs_mul]; have := enc_mul_len q.num.natAbs (p.den : Int).natAbs; omega
  exact cmpn_walk hX hY h1 h2 (cmp_whole (wholeR_V (p.num * (q.den : Int)) c1) (wholeR_V (q.num * (p.den : Int)) c2) (by omega) (by omega))

theorem sub_num {p q : Rat} {x y : AV} {k l : Nat} (hx : NumV p x) (hy : NumV q y) (hp : Sz k p) (hq : Sz l q) (hk : k + l + 1 < 10000000000) :
    ∃ r, NumV (p - q) r ∧ PureSem Tryz.prog 62 [x, y] r := by
  obtain ⟨y', hy', h1⟩ := neg_num hy hq (by omega)
  have hq' : Sz l (-q) := by unfold Sz; rw [Rat.neg_num, Rat.neg_den, Int.natAbs_neg]; exact hq
  obtain ⟨r, hr, h2⟩ := add_num hx hy' hp hq' hk
  refine ⟨r, by rw [Rat.sub_eq_add_neg]; exact hr, ?_⟩
  obtain ⟨X, cu, hX, rfl⟩ := hx
  obtain ⟨Y, cv, hY, rfl⟩ := hy
  obtain ⟨Y', cv', hY', rfl⟩ := hy'
  obtain ⟨Z, cw, hZ, rfl⟩ := hr
  exact subn_walk hX hY hY' hZ h1 h2

theorem sub_zero {p q : Rat} {x y : AV} {k l : Nat} (hx : NumV p x) (hy : NumV q y) (hp : Sz k p) (hq : Sz l q) (hk : k + l + 1 < 10000000000) (h0 : p.num * (q.den : Int) + -q.num * (p.den : Int) = 0) :
    PureSem Tryz.prog 62 [x, y] (zeroR (p.den * q.den)) := by
  obtain ⟨y', hy', h1⟩ := neg_num hy hq (by omega)
  have hq' : Sz l (-q) := by unfold Sz; rw [Rat.neg_num, Rat.neg_den, Int.natAbs_neg]; exact hq
  have h2 := add_zero hx hy' hp hq' hk (by rw [Rat.neg_num, Rat.neg_den]; exact h0)
  rw [Rat.neg_den] at h2
  obtain ⟨X, cu, hX, rfl⟩ := hx
  obtain ⟨Y, cv, hY, rfl⟩ := hy
  obtain ⟨Y', cv', hY', rfl⟩ := hy'
  exact subn_walk (l4 := []) (w := [1]) (cw := none) (sz := false) hX hY hY' (zero_mag (p.den * q.den)) h1 h2

theorem div_num {p q : Rat} {x y : AV} {k l : Nat} (hx : NumV p x) (hy : NumV q y) (hp : Sz k p) (hq : Sz l q) (hk : k + l < 10000000000) (h0 : q.num ≠ 0) :
    ∃ r, NumV (Rat.divInt (p.num * (q.den : Int)) ((p.den : Int) * q.num)) r ∧ PureSem Tryz.prog 72 [x, y] r := by
  obtain ⟨X, cu, hX, rfl, nX, dX⟩ := num_whole hx
  obtain ⟨Y, cv, hY, rfl, nY, dY⟩ := num_whole hy
  obtain ⟨p1, p2⟩ := hp
  obtain ⟨q1, q2⟩ := hq
  have lp : (enc (p.den : Int).natAbs).length ≤ k := p2
  have lq : (enc (q.den : Int).natAbs).length ≤ l := q2
  obtain ⟨c1, h1⟩ := mul_whole nX dY (by omega) (by omega)
  obtain ⟨c2, h2⟩ := mul_whole dX nY (by omega) (by omega)
  have e1 : (enc (p.num * (q.den : Int)).natAbs).length ≤ k + l := by rw [Int.natAbs_mul]; have := enc_mul_len p.num.natAbs (q.den : Int).natAbs; omega
  have e2 : (enc ((p.den : Int) * q.num).natAbs).length ≤ k + l := by rw [Int.natAbs_mul]; have := enc_mul_len (p.den : Int).natAbs q.num.natAbs; omega
  have hd : (p.den : Int) * q.num ≠ 0 := Int.mul_ne_zero (by have := p.den_nz; omega) h0
  obtain ⟨r, hr, h3⟩ := make_num (wholeR_V (p.num * (q.den : Int)) c1) (wholeR_V ((p.den : Int) * q.num) c2) (by omega) (by omega) hd
  refine ⟨r, hr, ?_⟩
  obtain ⟨Z, cz, hZ, rfl⟩ := hr
  exact divn_walk hX hY hZ h1 h2 h3
end
end Go.Abs

namespace Go.Abs
noncomputable section
open Go.Proofs

def magM : AV → Option (List Nat)
  | .nils => some []
  | .vs es _ => match Nat.ble es.length 1000 with
    | true => limbsM es
    | false => none
  | _ => none
def eqNs : List Nat → List Nat → Bool
  | [], [] => true
  | a :: l, b :: m => match Nat.beq a b with
    | true => eqNs l m
    | false => false
  | _, _ => false
theorem eqNs_ok : ∀ {l m : List Nat}, eqNs l m = true → l = m
  | [], [], _ => rfl
  | a :: l, b :: m, h => by
    unfold eqNs at h
    split at h
    · rename_i e
      rw [Nat.eq_of_beq_eq_true e, eqNs_ok h]
    · cases h
  | [], _ :: _, h => by cases h
  | _ :: _, [], h => by cases h
theorem limbsM_V {es : List (List AV)} {l : List Nat} (h : limbsM es = some l) : es = limbsV l ∧ okL l := by
  obtain ⟨hs, hl⟩ := limbsM_ok es l h
  refine ⟨List.ext_getElem (by rw [limbsV_length]; omega) fun i h1 h2 => ?_, fun x hx => ?_⟩
  · rw [(hl i h1 (by omega)).1]; simp [limbsV]
  · obtain ⟨i, hi, rfl⟩ := List.getElem_of_mem hx
    exact (hl i (by omega) hi).2
theorem magM_ok {X : AV} {l : List Nat} (h : magM X = some l) : MagV l X ∧ l.length ≤ 1000 := by
  unfold magM at h
  split at h
  · injection h with h; subst h; exact ⟨.nils rfl, by simp⟩
  · split at h
    · rename_i es c _ hb
      have hb' := Nat.le_of_ble_eq_true hb
      obtain ⟨rfl, ho⟩ := limbsM_V h
      exact ⟨.vs c, by rw [limbsV_length] at hb'; exact hb'⟩
    · cases h
  · cases h

def partM (neg : Bool) (X : AV) : Option Int :=
  match magM X with
  | none => none
  | some l => match eqNs l (enc (val l)) with
    | false => none
    | true => match neg with
      | false => some (.ofNat (val l))
      | true => match val l with
        | 0 => none
        | n + 1 => some (.negSucc n)
theorem partM_ok {neg : Bool} {X : AV} {z : Int} (h : partM neg X = some z) : neg = decide (z < 0) ∧ MagV (enc z.natAbs) X ∧ (enc z.natAbs).length ≤ 1000 := by
  unfold partM at h
  split at h
  · cases h
  · rename_i l hl
    obtain ⟨h1, h2⟩ := magM_ok hl
    split at h
    · cases h
    · rename_i he
      have e := eqNs_ok he
      split at h
      · injection h with h; subst h
        have e2 : enc (Int.ofNat (val l)).natAbs = l := e.symm
        rw [e2]
        exact ⟨(decide_eq_false (by have : (0 : Int) ≤ Int.ofNat (val l) := Int.natCast_nonneg _; omega)).symm, h1, h2⟩
      · split at h
        · cases h
        · rename_i n hn
          injection h with h; subst h
          have e2 : enc (Int.negSucc n).natAbs = l := by show enc (n + 1) = l; rw [show n + 1 = val l from hn.symm]; exact e.symm
          rw [e2]
          exact ⟨(decide_eq_true (Int.negSucc_lt_zero n)).symm, h1, h2⟩

def numM : AV → Option (Int × Nat)
  | .agg [.bool s, X, .bool false, .vs es c] => match partM s X, partM false (.vs es c) with
    | some n, some (.ofNat d) => match Nat.beq d 0 with
      | true => none
      | false => match Nat.beq (Nat.gcd n.natAbs d) 1 with
        | true => some (n, d)
        | false => none
    | _, _ => none
  | _ => none
theorem numM_ok {x : AV} {n : Int} {d : Nat} (h : numM x = some (n, d)) : ∃ q : Rat, q.num = n ∧ q.den = d ∧ NumV q x ∧ Sz 1000 q := by
  unfold numM at h
  split at h
  · split at h
    · rename_i s X es c _ _ n' d' h1 h2
      split at h
      · cases h
      · rename_i hd
        split at h
        · rename_i hg
          injection h with h
          injection h with e1 e2
          subst e1 e2
          obtain ⟨a1, a2, a3⟩ := partM_ok h1
          obtain ⟨b1, b2, b3⟩ := partM_ok h2
          have hd' : d' ≠ 0 := fun e => by subst e; cases hd
          have hg' := Nat.eq_of_beq_eq_true hg
          refine ⟨⟨n', d', hd', hg'⟩, rfl, rfl, ⟨X, c, a2, ?_⟩, a3, b3⟩
          replace b2 : MagV (enc d') (.vs es c) := b2
          rw [a1]
          show AV.agg [_, X, _, _] = AV.agg [_, X, _, _]
          congr 4
          generalize hv : AV.vs es c = v at b2
          cases b2 with
          | nils h0 => cases hv
          | vs c' => injection hv with e1 e2; rw [e2]
        · cases h
    · cases h
  · cases h

theorem encF_big : ∀ f n, n < 1000000000 ^ f → encF f n = enc n
  | 0, n, h => by
    obtain rfl : n = 0 := by rw [Nat.pow_zero] at h; omega
    rfl
  | f + 1, n, h => by
    by_cases h0 : n = 0
    · subst h0; unfold encF; rw [if_pos rfl]; rfl
    · rw [enc_step h0, encF, if_neg h0, encF_big f (n / 1000000000) (Nat.div_lt_of_lt_mul (by rw [Nat.pow_succ, Nat.mul_comm] at h; exact h))]

section
variable {R : Type}
def encK : Nat → Nat → (List (List AV) → Option R) → Option R
  | 0, _, k => k []
  | f + 1, n, k => match n with
    | 0 => k []
    | n + 1 => fNat ((n + 1) % 1000000000) fun x => fNat ((n + 1) / 1000000000) fun m => encK f m fun r => k ([.int .u32 (.ofNat x)] :: r)
theorem encK_eq : ∀ (f n : Nat) (k : List (List AV) → Option R), encK f n k = k (limbsV (encF f n))
  | 0, _, _ => rfl
  | f + 1, 0, k => by unfold encK encF; rw [if_pos rfl]; rfl
  | f + 1, n + 1, k => by
    rw [show encK (f + 1) (n + 1) k = fNat ((n + 1) % 1000000000) (fun x => fNat ((n + 1) / 1000000000) fun m => encK f m fun r => k ([.int .u32 (.ofNat x)] :: r)) from rfl]
    rw [fNat_eq, fNat_eq, encK_eq f, encF, if_neg (by omega)]
    rfl
end

def limK : Nat := 10 ^ 450 - 1
def outK (n : Int) (d : Nat) : Option AV :=
  match Nat.beq n.natAbs 0 with
  | true => none
  | false => match Nat.ble n.natAbs limK, Nat.ble d limK with
    | true, true => encK 50 n.natAbs fun r1 => encK 50 d fun r2 => fBool (decide (n < 0)) fun b => some (.agg [.bool b, .vs r1 none, .bool false, .vs r2 none])
    | _, _ => none
theorem outK_ok {n : Int} {d : Nat} {r : AV} (h : outK n d = some r) : n ≠ 0 ∧ r = .agg [.bool (decide (n < 0)), .vs (limbsV (enc n.natAbs)) none, .bool false, .vs (limbsV (enc d)) none] := by
  have hl : limK < 1000000000 ^ 50 := by decide +kernel
  unfold outK at h
  split at h
  · cases h
  · rename_i h0
    have hn : n ≠ 0 := fun e => by subst e; cases h0
    split at h
    · rename_i h1 h2
      have h1' := Nat.le_of_ble_eq_true h1
      have h2' := Nat.le_of_ble_eq_true h2
      rw [encK_eq, encK_eq, fBool_eq, encF_big 50 _ (by omega), encF_big 50 _ (by omega)] at h
      injection h with h
      exact ⟨hn, h.symm⟩
    · cases h
theorem num_canon {q : Rat} {x r : AV} (h : NumV q x) (hr : outK q.num q.den = some r) : Wk x r ∧ Pure r := by
  obtain ⟨hn, rfl⟩ := outK_ok hr
  obtain ⟨X, c, hX, rfl⟩ := h
  refine ⟨wk_agg4 (.refl _) ?_ (.refl _) (.vs _ _), pure_agg4 (.bool _) (pure_limbs _ _) (.bool _) (pure_limbs _ _)⟩
  cases hX with
  | nils h0 => exact absurd (enc_nil.1 h0) (by omega)
  | vs c' => exact .vs _ _

def zeroK (d : Nat) : Option AV := match Nat.beq d 1 with
  | true => some (.agg [.bool false, .vs [] none, .bool false, .vs [[.int .u32 1]] none])
  | false => some (.agg [.bool false, .nils, .bool false, .vs [[.int .u32 1]] none])
theorem zeroK_eq (d : Nat) : zeroK d = some (zeroR d) := by
  unfold zeroK zeroR
  cases Nat.beq d 1 <;> rfl
theorem natAbs_beq {n : Int} (h : Nat.beq n.natAbs 0 = true) : n = 0 := by have := Nat.eq_of_beq_eq_true h; omega

def addM : List AV → Option AV
  | [x, y] => match numM x with
    | none => none
    | some (n1, d1) => match numM y with
      | none => none
      | some (n2, d2) => fInt (n1 * (d2 : Int) + n2 * (d1 : Int)) fun n => fNat (d1 * d2) fun d => (match Nat.beq n.natAbs 0 with
        | true => zeroK d
        | false => fNat (Int.gcd (d : Int) n) fun g => fInt (n / (g : Int)) fun n' => fNat (d / g) fun d' => outK n' d')
  | _ => none
def mulM : List AV → Option AV
  | [x, y] => match numM x with
    | none => none
    | some (n1, d1) => match numM y with
      | none => none
      | some (n2, d2) => fInt (n1 * n2) fun n => fNat (d1 * d2) fun d => (match Nat.beq n.natAbs 0 with
        | true => zeroK d
        | false => fNat (Int.gcd (d : Int) n) fun g => fInt (n / (g : Int)) fun n' => fNat (d / g) fun d' => outK n' d')
  | _ => none

theorem divInt_parts {n : Int} {d : Nat} (hd : d ≠ 0) : (Rat.divInt n (d : Int)).num = n / ((Int.gcd (d : Int) n : Nat) : Int) ∧ (Rat.divInt n (d : Int)).den = d / Int.gcd (d : Int) n := by
  rw [Rat.num_divInt, Rat.den_divInt, if_neg (by omega), Int.sign_eq_one_of_pos (by omega), Int.one_mul]
  exact ⟨rfl, rfl⟩

theorem addM_pure (args : List AV) (r : AV) (h : addM args = some r) : PureSem Tryz.prog 86 args r := by
  unfold addM at h
  split at h
  · rename_i x y
    split at h
    · cases h
    · rename_i n1 d1 h1
      split at h
      · cases h
      · rename_i n2 d2 h2
        rw [fInt_eq, fNat_eq] at h
        obtain ⟨p, rfl, rfl, pV, pS⟩ := numM_ok h1
        obtain ⟨q, rfl, rfl, qV, qS⟩ := numM_ok h2
        split at h
        · rename_i h0
          rw [zeroK_eq] at h
          injection h with h
          subst h
          exact add_zero pV qV pS qS (by omega) (natAbs_beq h0)
        rw [fNat_eq, fInt_eq, fNat_eq] at h
        obtain ⟨s, hs, hp⟩ := add_num pV qV pS qS (by omega)
        have e : Rat.divInt (p.num * (q.den : Int) + q.num * (p.den : Int)) ((p.den * q.den : Nat) : Int) = p + q := by
          rw [Int.natCast_mul, ← Rat.divInt_add_divInt _ _ (by have := p.den_nz; omega) (by have := q.den_nz; omega), Rat.num_divInt_den, Rat.num_divInt_den]
        obtain ⟨k1, k2⟩ := divInt_parts (n := p.num * (q.den : Int) + q.num * (p.den : Int)) (d := p.den * q.den) (Nat.mul_ne_zero p.den_nz q.den_nz)
        rw [e] at k1 k2
        rw [← k1, ← k2] at h
        obtain ⟨w1, w2⟩ := num_canon hs h
        exact pure_wk hp w1 w2
  · cases h
theorem mulM_pure (args : List AV) (r : AV) (h : mulM args = some r) : PureSem Tryz.prog 98 args r := by
  unfold mulM at h
  split at h
  · rename_i x y
    split at h
    · cases h
    · rename_i n1 d1 h1
      split at h
      · cases h
      · rename_i n2 d2 h2
        rw [fInt_eq, fNat_eq] at h
        obtain ⟨p, rfl, rfl, pV, pS⟩ := numM_ok h1
        obtain ⟨q, rfl, rfl, qV, qS⟩ := numM_ok h2
        split at h
        · rename_i h0
          rw [zeroK_eq] at h
          injection h with h
          subst h
          exact mul_zero pV qV pS qS (by omega) (natAbs_beq h0)
        rw [fNat_eq, fInt_eq, fNat_eq] at h
        obtain ⟨s, hs, hp⟩ := mul_num pV qV pS qS (by omega)
        have e : Rat.divInt (p.num * q.num) ((p.den * q.den : Nat) : Int) = p * q := by
          rw [Int.natCast_mul, ← Rat.divInt_mul_divInt, Rat.num_divInt_den, Rat.num_divInt_den]
        obtain ⟨k1, k2⟩ := divInt_parts (n := p.num * q.num) (d := p.den * q.den) (Nat.mul_ne_zero p.den_nz q.den_nz)
        rw [e] at k1 k2
        rw [← k1, ← k2] at h
        obtain ⟨w1, w2⟩ := num_canon hs h
        exact pure_wk hp w1 w2
  · cases h

def signM : List AV → Option AV
  | [x] => match numM x with
    | none => none
    | some (n, _) => fInt (sgn n) fun z => some (.int .i64 z)
  | _ => none
def negM : List AV → Option AV
  | [x] => match numM x with
    | none => none
    | some (n, d) => fInt (-n) fun n => outK n d
  | _ => none
def cmpM : List AV → Option AV
  | [x, y] => match numM x with
    | none => none
    | some (n1, d1) => match numM y with
      | none => none
      | some (n2, d2) => fInt (n1 * (d2 : Int)) fun a => fInt (n2 * (d1 : Int)) fun b => fInt (cmpZ a b) fun z => some (.int .i64 z)
  | _ => none
def subM : List AV → Option AV
  | [x, y] => match numM x with
    | none => none
    | some (n1, d1) => match numM y with
      | none => none
      | some (n2, d2) => fInt (n1 * (d2 : Int) + -n2 * (d1 : Int)) fun n => fNat (d1 * d2) fun d => (match Nat.beq n.natAbs 0 with
        | true => zeroK d
        | false => fNat (Int.gcd (d : Int) n) fun g => fInt (n / (g : Int)) fun n' => fNat (d / g) fun d' => outK n' d')
  | _ => none
def divM : List AV → Option AV
  | [x, y] => match numM x with
    | none => none
    | some (n1, d1) => match numM y with
      | none => none
      | some (n2, d2) => match Nat.beq n2.natAbs 0 with
        | true => none
        | false => fInt (n1 * (d2 : Int)) fun n => fInt ((d1 : Int) * n2) fun d => fNat (Int.gcd d n) fun g => fInt (Int.sign d * n / (g : Int)) fun n' => fNat (d.natAbs / g) fun d' => outK n' d'
  | _ => none

theorem signM_pure (args : List AV) (r : AV) (h : signM args = some r) : PureSem Tryz.prog 63 args r := by
  unfold signM at h
  split at h
  · split at h
    · cases h
    · rename_i n d h1
      rw [fInt_eq] at h
      injection h with h; subst h
      obtain ⟨p, rfl, rfl, pV, pS⟩ := numM_ok h1
      exact sign_num pV
  · cases h
theorem negM_pure (args : List AV) (r : AV) (h : negM args = some r) : PureSem Tryz.prog 104 args r := by
  unfold negM at h
  split at h
  · split at h
    · cases h
    · rename_i n d h1
      rw [fInt_eq] at h
      obtain ⟨p, rfl, rfl, pV, pS⟩ := numM_ok h1
      obtain ⟨s, hs, hp⟩ := neg_num pV pS (by omega)
      obtain ⟨w1, w2⟩ := num_canon hs (r := r) (by rw [Rat.neg_num, Rat.neg_den]; exact h)
      exact pure_wk hp w1 w2
  · cases h
theorem cmpM_pure (args : List AV) (r : AV) (h : cmpM args = some r) : PureSem Tryz.prog 56 args r := by
  unfold cmpM at h
  split at h
  · split at h
    · cases h
    · rename_i n1 d1 h1
      split at h
      · cases h
      · rename_i n2 d2 h2
        simp only [fInt_eq] at h
        injection h with h; subst h
        obtain ⟨p, rfl, rfl, pV, pS⟩ := numM_ok h1
        obtain ⟨q, rfl, rfl, qV, qS⟩ := numM_ok h2
        exact cmp_num pV qV pS qS (by omega)
  · cases h
theorem subM_pure (args : List AV) (r : AV) (h : subM args = some r) : PureSem Tryz.prog 62 args r := by
  unfold subM at h
  split at h
  · rename_i x y
    split at h
    · cases h
    · rename_i n1 d1 h1
      split at h
      · cases h
      · rename_i n2 d2 h2
        rw [fInt_eq, fNat_eq] at h
        obtain ⟨p, rfl, rfl, pV, pS⟩ := numM_ok h1
        obtain ⟨q, rfl, rfl, qV, qS⟩ := numM_ok h2
        split at h
        · rename_i h0
          rw [zeroK_eq] at h
          injection h with h
          subst h
          exact sub_zero pV qV pS qS (by omega) (natAbs_beq h0)
        rw [fNat_eq, fInt_eq, fNat_eq] at h
        obtain ⟨s, hs, hp⟩ := sub_num pV qV pS qS (by omega)
        have e : Rat.divInt (p.num * (q.den : Int) + -q.num * (p.den : Int)) ((p.den * q.den : Nat) : Int) = p - q := by
          rw [Rat.sub_eq_add_neg, Int.natCast_mul, ← Rat.divInt_add_divInt _ _ (by have := p.den_nz; omega) (by have := q.den_nz; omega), Rat.num_divInt_den, ← Rat.neg_divInt, Rat.num_divInt_den]
        obtain ⟨k1, k2⟩ := divInt_parts (n := p.num * (q.den : Int) + -q.num * (p.den : Int)) (d := p.den * q.den) (Nat.mul_ne_zero p.den_nz q.den_nz)
        rw [e] at k1 k2
        rw [← k1, ← k2] at h
        obtain ⟨w1, w2⟩ := num_canon hs h
        exact pure_wk hp w1 w2
  · cases h
theorem divM_pure (args : List AV) (r : AV) (h : divM args = some r) : PureSem Tryz.prog 72 args r := by
  unfold divM at h
  split at h
  · rename_i x y
    split at h
    · cases h
    · rename_i n1 d1 h1
      split at h
      · cases h
      · rename_i n2 d2 h2
        obtain ⟨p, rfl, rfl, pV, pS⟩ := numM_ok h1
        obtain ⟨q, rfl, rfl, qV, qS⟩ := numM_ok h2
        split at h
        · cases h
        · rename_i h0
          have hq0 : q.num ≠ 0 := fun e => by rw [e] at h0; cases h0
          simp only [fInt_eq, fNat_eq] at h
          obtain ⟨s, hs, hp⟩ := div_num pV qV pS qS (by omega) hq0
          have hd : (p.den : Int) * q.num ≠ 0 := Int.mul_ne_zero (by have := p.den_nz; omega) hq0
          have k1 := Rat.num_divInt (p.num * (q.den : Int)) ((p.den : Int) * q.num)
          have k2 := Rat.den_divInt (p.num * (q.den : Int)) ((p.den : Int) * q.num)
          rw [if_neg hd] at k2
          obtain ⟨w1, w2⟩ := num_canon hs (r := r) (by rw [k1, k2]; exact h)
          exact pure_wk hp w1 w2
  · cases h

theorem outK_noIfc {n : Int} {d : Nat} {t : TypeId} {x : AV} (h : outK n d = some (.ifc t x)) : False := by cases (outK_ok h).2
theorem zeroK_noIfc {d : Nat} {t : TypeId} {x : AV} (h : zeroK d = some (.ifc t x)) : False := by
  unfold zeroK at h
  split at h <;> (injection h with h; cases h)
theorem addM_noIfc {args : List AV} {t : TypeId} {x : AV} (h : addM args = some (.ifc t x)) : False := by
  unfold addM at h
  split at h
  · split at h
    · cases h
    · split at h
      · cases h
      · rw [fInt_eq, fNat_eq] at h
        split at h
        · exact zeroK_noIfc h
        · rw [fNat_eq, fInt_eq, fNat_eq] at h; exact outK_noIfc h
  · cases h
theorem mulM_noIfc {args : List AV} {t : TypeId} {x : AV} (h : mulM args = some (.ifc t x)) : False := by
  unfold mulM at h
  split at h
  · split at h
    · cases h
    · split at h
      · cases h
      · rw [fInt_eq, fNat_eq] at h
        split at h
        · exact zeroK_noIfc h
        · rw [fNat_eq, fInt_eq, fNat_eq] at h; exact outK_noIfc h
  · cases h
theorem signM_noIfc {args : List AV} {t : TypeId} {x : AV} (h : signM args = some (.ifc t x)) : False := by
  unfold signM at h
  split at h
  · split at h
    · cases h
    · rw [fInt_eq] at h; injection h with h; cases h
  · cases h
theorem negM_noIfc {args : List AV} {t : TypeId} {x : AV} (h : negM args = some (.ifc t x)) : False := by
  unfold negM at h
  split at h
  · split at h
    · cases h
    · rw [fInt_eq] at h; exact outK_noIfc h
  · cases h
theorem cmpM_noIfc {args : List AV} {t : TypeId} {x : AV} (h : cmpM args = some (.ifc t x)) : False := by
  unfold cmpM at h
  split at h
  · split at h
    · cases h
    · split at h
      · cases h
      · simp only [fInt_eq] at h; injection h with h; cases h
  · cases h
theorem divM_noIfc {args : List AV} {t : TypeId} {x : AV} (h : divM args = some (.ifc t x)) : False := by
  unfold divM at h
  split at h
  · split at h
    · cases h
    · split at h
      · cases h
      · split at h
        · cases h
        · simp only [fInt_eq, fNat_eq] at h; exact outK_noIfc h
  · cases h
theorem subM_noIfc {args : List AV} {t : TypeId} {x : AV} (h : subM args = some (.ifc t x)) : False := by
  unfold subM at h
  split at h
  · split at h
    · cases h
    · split at h
      · cases h
      · rw [fInt_eq, fNat_eq] at h
        split at h
        · exact zeroK_noIfc h
        · rw [fNat_eq, fInt_eq, fNat_eq] at h; exact outK_noIfc h
  · cases h
def arithL : List (FuncId × (List AV → Option AV)) := [(86, addM), (98, mulM), (62, subM), (72, divM), (56, cmpM), (63, signM), (104, negM)]
theorem arithL_ok : ∀ x ∈ arithL, ∀ args r, x.2 args = some r → KnownSem Tryz.prog x.1 args r := by
  intro x hx
  simp only [arithL, List.mem_cons, List.not_mem_nil, or_false] at hx
  rcases hx with rfl | rfl | rfl | rfl | rfl | rfl | rfl
  · exact fun args r hr => .of_pure (addM_pure args r hr) fun x e => by subst e; exact addM_noIfc hr
  · exact fun args r hr => .of_pure (mulM_pure args r hr) fun x e => by subst e; exact mulM_noIfc hr
  · exact fun args r hr => .of_pure (subM_pure args r hr) fun x e => by subst e; exact subM_noIfc hr
  · exact fun args r hr => .of_pure (divM_pure args r hr) fun x e => by subst e; exact divM_noIfc hr
  · exact fun args r hr => .of_pure (cmpM_pure args r hr) fun x e => by subst e; exact cmpM_noIfc hr
  · exact fun args r hr => .of_pure (signM_pure args r hr) fun x e => by subst e; exact signM_noIfc hr
  · exact fun args r hr => .of_pure (negM_pure args r hr) fun x e => by subst e; exact negM_noIfc hr
def findL (f : FuncId) : List (FuncId × (List AV → Option AV)) → Option (List AV → Option AV)
  | [] => none
  | x :: l => match Nat.beq x.1 f with
    | true => some x.2
    | false => findL f l
theorem findL_ok {f : FuncId} {g : List AV → Option AV} : ∀ {l : List (FuncId × (List AV → Option AV))}, findL f l = some g → (f, g) ∈ l
  | [], h => by cases h
  | x :: l, h => by
    unfold findL at h
    split at h
    · rename_i e
      injection h with h; subst h
      rw [← Nat.eq_of_beq_eq_true e]
      exact List.mem_cons_self
    · exact List.mem_cons_of_mem _ (findL_ok h)
def arithM (more : FuncId → Option (List AV → Option AV)) (f : FuncId) : Option (List AV → Option AV) :=
  match findL f arithL with
  | some g => some fun args => match g args with
    | some r => some r
    | none => match more f with
      | some g' => g' args
      | none => none
  | none => more f
theorem arithM_ok {more : FuncId → Option (List AV → Option AV)} (h : MemOK Tryz.prog more) : MemOK Tryz.prog (arithM more) where
  ok f g args r hf hp hr := by
    unfold arithM at hf
    split at hf
    · rename_i g0 h0
      injection hf with hf; subst hf
      replace hr : (match g0 args with
        | some r => some r
        | none => match more f with
          | some g' => g' args
          | none => none) = some r := hr
      split at hr
      · rename_i r' hr'
        injection hr with hr; subst hr
        exact arithL_ok _ (findL_ok h0) args r' hr'
      · split at hr
        · rename_i g' hg'
          exact h.ok f g' args r hg' hp hr
        · cases hr
    · exact h.ok f g args r hf hp hr
end
end Go.Abs

namespace Go.Abs
noncomputable section
open Go.Proofs

noncomputable def kM (T : List (FuncId × List (List AV × AV))) : FuncId → Option (List AV → Option AV) := seatM (arithM (tabM T))
theorem kM_ok {T : List (FuncId × List (List AV × AV))} (h : TabHolds Tryz.prog T) : MemOK Tryz.prog (kM T) := seatM_ok (arithM_ok (tabM_ok h))
def hdOf (l : List Nat) : Op → Bool
  | .buildSlice t _ _ => l.any fun u => Nat.beq u t
  | _ => false
noncomputable def kIs (T : List (FuncId × List (List AV × AV))) (hl : List Nat) (n : Nat) (f : FuncId) (x : List AV × AV) : Bool :=
  rowIs (tiOf Tryz.prog) (drawX (tiOf Tryz.prog) (kM T) (hdOf hl)) (funOf Tryz.prog) (kM T) n f x.1 x.2
theorem kIs_ok {T : List (FuncId × List (List AV × AV))} (h : TabHolds Tryz.prog T) {hl : List Nat} {n : Nat} {f : FuncId} {x : List AV × AV} (hx : kIs T hl n f x = true) : KnownSem Tryz.prog f x.1 x.2 :=
  rowIs_ok _ _ _ _ (tiOf_ok Tryz.prog) seatBareOK (funOf_ok Tryz.prog) (kM_ok h) (drawX_ok (tiOf Tryz.prog) (kM T) (hdOf hl) (tiOf_ok Tryz.prog) seatBareOK (kM_ok h) (by decide +kernel)) hx
theorem allTrue_app {α : Type} {p : α → Bool} : ∀ {l m : List α}, allTrue p l = true → allTrue p m = true → allTrue p (l ++ m) = true
  | [], _, _, h => h
  | a :: l, m, h, h' => by
    cases ha : p a with
    | true =>
      have e : allTrue p (a :: l) = allTrue p l := by show (match p a with | true => allTrue p l | false => false) = _; rw [ha]
      rw [e] at h
      show (match p a with | true => allTrue p (l ++ m) | false => false) = true
      rw [ha]; exact allTrue_app h h'
    | false =>
      have e : allTrue p (a :: l) = false := by show (match p a with | true => allTrue p l | false => false) = _; rw [ha]
      rw [e] at h; cases h
theorem tab_nil : TabHolds Tryz.prog [] := fun x hx => by cases hx
theorem tab_cons {T T' : List (FuncId × List (List AV × AV))} {hl : List Nat} {n : Nat} {f : FuncId} {rows : List (List AV × AV)} (h : TabHolds Tryz.prog T) (hr : allTrue (kIs T hl n f) rows = true) (h' : TabHolds Tryz.prog T') : TabHolds Tryz.prog ((f, rows) :: T') := fun x hx => by
  rcases List.mem_cons.1 hx with rfl | hx
  · exact fun y hy => kIs_ok h (allTrue_ok hr y hy)
  · exact h' x hx
end
end Go.Abs
