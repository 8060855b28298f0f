/-
  Steps to a law of this program: SEx19, SEx20, SEx21, SEx22, SEx23, SEx24.
  Conditions: none.
-/
import Derived.Test.YtcgnfpojjjkakaaGreatDoorB32
import Derived.Test.YtcgnfpojjjkakaaGreatDoorB4
set_option linter.unusedVariables false
set_option linter.unusedSimpArgs false
set_option linter.unusedSectionVars false
namespace Go.Abs
noncomputable section
open Go.Proofs

def gcdH (rx ry rz : Option Blk) : List Nat → Heap
  | [] => ⟨[rx, ry, rz, some (.rows [[.bool false, .nils]] false false)], []⟩
  | x :: l => ⟨[rx, ry, rz, some (.rows [[.bool false, .ms 4 0 (l.length + 1) none]] false false), some (.rows (limbsV (x :: l)) true false)], []⟩

theorem enc_len_k {k : Nat} (h : (enc k).length ≤ 2) : k < 1000000000000000000 := by
  have h1 := val_lt (enc_ok k)
  rw [enc_val] at h1
  have h2 : (1000000000 : Nat) ^ (enc k).length ≤ 1000000000 ^ 2 := Nat.pow_le_pow_right (by omega) h
  have h3 : (1000000000 : Nat) ^ 2 = 1000000000000000000 := by decide
  omega

set_option maxHeartbeats 4000000 in
set_option maxRecDepth 100000 in
theorem gcd_walk {m0 k0 : Nat} {X : AV} {sa sb : Bool} {cy : Option Nat} (hX : MagV (enc m0) X) (hk0 : k0 ≠ 0) (lm : (enc m0).length < 10000000000) (lk : (enc k0).length < 10000000000) :
    PureSem Tryz.prog 109 [.agg [.bool sa, X], .agg [.bool sb, .vs (limbsV (enc k0)) cy]] (.agg [.bool false, .vs (limbsV (enc (Nat.gcd m0 k0))) none]) := by
  have pX := hX.pure
  have pY := pure_limbs (enc k0) cy
  refine pure_of_call_wk (pure2 (pure_agg2 (.bool _) pX) (pure_agg2 (.bool _) pY)) (pure_agg2 (.bool _) (pure_limbs _ _)) (call_x exactT_ok mixed Tryz.func109 rfl (by decide +kernel) ?_)
  have hg0 : 0 < Nat.gcd m0 k0 := Nat.gcd_pos_of_pos_right _ (by omega)
  cases hX
  all_goals
    conv => whnf
    repeat ((first | refine ⟨⟨rfl, by decide, rfl⟩, ?_⟩ | refine ⟨⟨by decide, rfl⟩, ?_⟩); conv => whnf)
    refine Or.inl ⟨by decide +kernel, ?_⟩
    conv => whnf
    repeat ((first
      | refine ⟨_, _, fun K hK => (by (conv => whnf); first | exact hK | exact ldX_eq rfl hK), Or.inl ⟨rfl, True.intro, ?_⟩⟩); conv => whnf)
    refine loop_p exactT_ok mixed 68 (fun p : Nat × Nat × AV × AV => p.2.1)
      (fun p => MagV (enc p.1) p.2.2.1 ∧ MagV (enc p.2.1) p.2.2.2 ∧ Nat.gcd p.1 p.2.1 = Nat.gcd m0 k0 ∧ (enc p.1).length < 10000000000 ∧ (enc p.2.1).length < 10000000000)
      (fun (m, k, A1, A2) => [(4, .ptr 2 0 0), (5, A1), (6, A2)])
      (fun _ => ⟨[some (.rows [[.bool sa, _]] false false), some (.rows [[.bool sb, .vs (limbsV (enc k0)) cy]] false false), some (.rows [[.bool false, .nils]] false false)], []⟩) ?_ (m0, k0, _, .vs (limbsV (enc k0)) cy) _
      ⟨(by first | exact .nils (by assumption) | exact .vs _), .vs cy, rfl, lm, lk⟩ rfl rfl ⟨rfl, rfl, rfl, trivial⟩
    rintro ⟨m, k, A1, A2⟩ g ⟨h1, h2, hg, l1, l2⟩
    replace h1 : MagV (enc m) A1 := h1
    replace h2 : MagV (enc k) A2 := h2
    replace hg : Nat.gcd m k = Nat.gcd m0 k0 := hg
    replace l1 : (enc m).length < 10000000000 := l1
    replace l2 : (enc k).length < 10000000000 := l2
    have hend : k = 0 → ∃ c, A1 = .vs (limbsV (enc (Nat.gcd m0 k0))) c := fun hk => by
      rw [hk, Nat.gcd_zero_right] at hg
      rw [← hg]
      cases h1 with
      | nils h0 => have := enc_nil.1 h0; omega
      | vs c => exact ⟨c, rfl⟩
    have hfin : ∀ c, ∃ c', PureSem Tryz.prog 115 [.bool false, .vs (limbsV (enc (Nat.gcd m0 k0))) c] (.agg [.bool false, .vs (limbsV (enc (Nat.gcd m0 k0))) c']) := fun c => by
      obtain ⟨c', h⟩ := whole_mag false (l := enc (Nat.gcd m0 k0)) c (enc_ok _) (by
        have := enc_length_le (Nat.le_of_dvd (by omega) (Nat.gcd_dvd_right m0 k0))
        omega)
      rw [enc_val] at h
      exact ⟨c', h⟩
    cases h2 with
    | nils h0 =>
      have hk : k = 0 := enc_nil.1 h0
      obtain ⟨c, rfl⟩ := hend hk
      obtain ⟨c', hw⟩ := hfin c
      conv => whnf
      refine condX_f (decide_eq_false (by omega)) ?_
      conv => whnf
      repeat ((first | refine condX_t rfl ?_ | refine condX_true ?_ | refine callX_pure hw (pure2 (.bool _) (pure_limbs _ _)) ?_ | refine stX_box rfl ?_); conv => whnf)
      exact ⟨_, .pure _ (pure_agg2 (.bool _) (pure_limbs _ _)), wk_agg2 (.refl _) (.vs _ _)⟩
    | vs c2 =>
      by_cases hlen : 2 < (enc k).length
      · obtain ⟨Q, R, Zq, Zr, hS, hd, hw1, hw2, mq, mr⟩ := div_parts (cy := c2) h1 (k := k) (fun e => by rw [e, enc_zero, List.length_nil] at hlen; omega) (by omega) false false
        have hk1 : 0 < k := Nat.pos_of_ne_zero fun e => by rw [e, enc_zero, List.length_nil] at hlen; omega
        have hlt := Nat.mod_lt m hk1
        have pA1 := h1.pure
        have pA2 := pure_limbs (enc k) c2
        obtain ⟨_, pQ, pR, pZq, pZr⟩ := hS.pure
        have hg' : Nat.gcd k (m % k) = Nat.gcd m0 k0 := by rw [← hg, Nat.gcd_comm m k, Nat.gcd_rec k m, Nat.gcd_comm]
        have l3 := enc_length_le (Nat.le_of_lt hlt)
        cases hS
        all_goals
          conv => whnf
          repeat ((first | refine lenX_eq (limbsV_length _) ?_ | refine condX_t (decide_eq_true (by omega)) ?_ | refine callX_pure hd (pure2 pA1 pA2) ?_ | refine callX_pure hw2 (pure2 (.bool _) pR) ?_ | refine And.intro rfl ?_); conv => whnf)
          exact ⟨(k, m % k, _, _), hlt, ⟨.vs c2, mr, hg', l2, by show (enc (m % k)).length < _; omega⟩, rfl, rfl, rfl, rfl, rfl, trivial⟩
      · have hk2 : k < 1000000000000000000 := enc_len_k (by omega)
        conv => whnf
        repeat ((first | refine lenX_eq (limbsV_length _) ?_ | refine condX_f (decide_eq_false (by omega)) ?_); conv => whnf)
        by_cases hk0 : k = 0
        · obtain ⟨c, rfl⟩ := hend hk0
          obtain ⟨c', hw⟩ := hfin c
          refine condX_t (by rw [beq_iff_eq, hk0]; rfl) ?_
          conv => whnf
          repeat ((first | refine callX_pure hw (pure2 (.bool _) (pure_limbs _ _)) ?_ | refine stX_box rfl ?_); conv => whnf)
          exact ⟨_, .pure _ (pure_agg2 (.bool _) (pure_limbs _ _)), wk_agg2 (.refl _) (.vs _ _)⟩
        · obtain ⟨Q, R, Zq, Zr, hS, hd, hw1, hw2, mq, mr⟩ := div_parts (cy := c2) h1 (k := k) hk0 (by omega) false false
          have hlt := Nat.mod_lt m (Nat.pos_of_ne_zero hk0)
          have hk3 : (enc k).length ≠ 0 := fun e => hk0 (enc_len0.1 e)
          have pA1 := h1.pure
          have pA2 := pure_limbs (enc k) c2
          obtain ⟨_, pQ, pR, pZq, pZr⟩ := hS.pure
          have hg' : Nat.gcd k (m % k) = Nat.gcd m0 k0 := by rw [← hg, Nat.gcd_comm m k, Nat.gcd_rec k m, Nat.gcd_comm]
          have l3 := enc_length_le (Nat.le_of_lt hlt)
          have hv1 := value_pure (.vs (l := enc k) c2) (enc_ok k) (by omega)
          have hv2 := value_pure mr (enc_ok _) (by omega)
          rw [enc_val] at hv1 hv2
          have hgk : Nat.gcd m0 k0 < 1000000000000000000 := by
            have := Nat.le_of_dvd (Nat.pos_of_ne_zero hk0) (Nat.gcd_dvd_right m k)
            omega
          generalize hmk : m % k = y0 at *
          refine condX_f (by rw [beq_eq_false_iff_ne]; omega) ?_
          cases hS
          all_goals
            conv => whnf
            repeat ((first | refine callX_pure hd (pure2 pA1 pA2) ?_ | refine callX_pure hv1 (pure1 pA2) ?_ | refine callX_pure hw2 (pure2 (.bool _) pR) ?_ | refine callX_pure hv2 (pure1 pZr) ?_ | refine And.intro rfl ?_); conv => whnf)
            refine loop_p exactT_ok mixed 68 (fun p : Nat × Nat => p.2)
              (fun p => Nat.gcd p.1 p.2 = Nat.gcd m0 k0 ∧ p.1 < 1000000000000000000 ∧ p.2 < 1000000000000000000)
              (fun (x, y) => [(4, .ptr 2 0 0), (11, .int .u64 (x : Int)), (12, .int .u64 (y : Int))])
              (fun _ => ⟨[some (.rows [[.bool sa, _]] false false), some (.rows [[.bool sb, .vs (limbsV (enc k0)) cy]] false false), some (.rows [[.bool false, .nils]] false false)], []⟩) ?_ (k, y0) _
              ⟨hg', hk2, by show y0 < _; omega⟩ rfl rfl ⟨rfl, rfl, rfl, trivial⟩
            rintro ⟨x, y⟩ g2 ⟨q1, q2, q3⟩
            replace q1 : Nat.gcd x y = Nat.gcd m0 k0 := q1
            replace q2 : x < 1000000000000000000 := q2
            replace q3 : y < 1000000000000000000 := q3
            conv => whnf
            refine condX_dec (fun hy => ?_) (fun hy => ?_) <;> conv => whnf
            · have hxy := Nat.mod_lt x (show 0 < y by omega)
              refine Or.inl ⟨by decide +kernel, ?_⟩
              conv => whnf
              repeat ((first
                | refine ⟨_, _, fun K hK => (by (conv => whnf); first | exact hK | exact And.intro rfl (remX_nat x y rfl rfl (by omega) hK)), Or.inl ⟨rfl, True.intro, ?_⟩⟩); conv => whnf)
              refine ⟨(y, x % y), hxy, ⟨?_, q3, ?_⟩, rfl, rfl, rfl, rfl, rfl, trivial⟩
              · show Nat.gcd y (x % y) = _
                rw [← q1, Nat.gcd_comm x y, Nat.gcd_rec y x, Nat.gcd_comm]
              · show x % y < _
                omega
            · obtain rfl : y = 0 := by omega
              rw [Nat.gcd_zero_right] at q1
              repeat ((first | refine ⟨⟨by decide, rfl⟩, ?_⟩ | refine stX_box rfl ?_ | refine And.intro rfl ?_); conv => whnf)
              refine loop_p exactT_ok mixed 68 (fun p : Nat × List Nat => p.1) (fun p => p.2 ++ enc p.1 = enc (Nat.gcd m0 k0) ∧ p.1 ≤ 1000000000000000000)
                (fun p => [(4, .ptr 2 0 0), (11, .int .u64 ((p.1 : Nat) : Int)), (13, .ptr 3 0 0)])
                (fun p => gcdH (some (.rows [[.bool sa, _]] false false)) (some (.rows [[.bool sb, .vs (limbsV (enc k0)) cy]] false false)) (some (.rows [[.bool false, .nils]] false false)) p.2) ?_ (x, []) _
                ⟨by rw [← q1]; rfl, by show x ≤ _; omega⟩ rfl rfl ⟨rfl, rfl, rfl, trivial⟩
              rintro ⟨n, l⟩ g3 ⟨hl, hn⟩
              replace hl : l ++ enc n = enc (Nat.gcd m0 k0) := hl
              replace hn : n ≤ 1000000000000000000 := hn
              have hll : l.length ≤ 3 := by
                have h3 : (enc (Nat.gcd m0 k0)).length ≤ 3 := enc_length_lt (by have : (1000000000 : Nat) ^ 3 = 1000000000000000000000000000 := by decide
                                                                                omega)
                rw [← hl, List.length_append] at h3; omega
              cases l with
              | nil =>
                conv => whnf
                refine condX_dec (fun hy1 => ?_) (fun hy1 => ?_) <;> conv => whnf
                · have h0 : n ≠ 0 := by omega
                  repeat ((first | refine ldX_eq rfl ?_ | refine And.intro rfl ?_); conv => whnf)
                  refine remX_nat n 1000000000 rfl rfl (by omega) ?_
                  conv => whnf
                  refine wrapX_nat (n % 1000000000) rfl (IntWalk.u32_in _ (by omega)) ?_
                  conv => whnf
                  refine ⟨by decide, by decide, rfl, ?_⟩
                  conv => whnf
                  refine Or.inr ?_
                  conv => whnf
                  refine ⟨⟨rfl, trivial⟩, ?_⟩
                  conv => whnf
                  refine apX_limbs_nils (d := n % 1000000000) ⟨rfl, rfl⟩ ?_
                  conv => whnf
                  repeat ((first | refine stX_box rfl ?_); conv => whnf)
                  refine And.intro rfl (divX_nat n 1000000000 rfl rfl (by omega) (IntWalk.u64_in _ (by omega)) ?_)
                  conv => whnf
                  refine ⟨(n / 1000000000, [n % 1000000000]), ?_, ⟨?_, ?_⟩, rfl, rfl, rfl, rfl, rfl, trivial⟩
                  · show n / 1000000000 < n
                    omega
                  · show [n % 1000000000] ++ enc (n / 1000000000) = _
                    rw [← hl, enc_step h0]; rfl
                  · show n / 1000000000 ≤ _
                    omega
                · obtain rfl : n = 0 := by omega
                  have e : enc (Nat.gcd m0 k0) = [] := by rw [← hl]; rfl
                  exact absurd (enc_nil.1 e) (by omega)
              | cons z l =>
                conv => whnf
                refine condX_dec (fun hy1 => ?_) (fun hy1 => ?_) <;> conv => whnf
                · have h0 : n ≠ 0 := by omega
                  repeat ((first | refine ldX_eq rfl ?_ | refine And.intro rfl ?_); conv => whnf)
                  refine remX_nat n 1000000000 rfl rfl (by omega) ?_
                  conv => whnf
                  refine wrapX_nat (n % 1000000000) rfl (IntWalk.u32_in _ (by omega)) ?_
                  conv => whnf
                  refine ⟨by decide, by decide, rfl, ?_⟩
                  conv => whnf
                  refine Or.inr ?_
                  conv => whnf
                  refine ⟨⟨rfl, trivial⟩, ?_⟩
                  conv => whnf
                  refine apX_limbs_grow (L := z :: l) (d := n % 1000000000) rfl ⟨rfl, rfl⟩ ⟨by omega, rfl, by simp only [List.length_cons] at hll; omega⟩ ?_
                  conv => whnf
                  repeat ((first | refine stX_box rfl ?_); conv => whnf)
                  refine And.intro rfl (divX_nat n 1000000000 rfl rfl (by omega) (IntWalk.u64_in _ (by omega)) ?_)
                  conv => whnf
                  refine ⟨(n / 1000000000, z :: (l ++ [n % 1000000000])), ?_, ⟨?_, ?_⟩, ?_, rfl, rfl, rfl, rfl, trivial⟩
                  · show n / 1000000000 < n
                    omega
                  · show z :: (l ++ [n % 1000000000]) ++ enc (n / 1000000000) = _
                    rw [← hl, enc_step h0]; simp
                  · show n / 1000000000 ≤ _
                    omega
                  · show Heap.mk [_, _, _, some (.rows [[.bool _, .ms 4 0 (l.length + 1 + 1) none]] false false), _] [] = Heap.mk [_, _, _, some (.rows [[.bool _, .ms 4 0 ((l ++ [n % 1000000000]).length + 1) none]] false false), _] []
                    rw [show (l ++ [n % 1000000000]).length = l.length + 1 by simp]
                    rfl
                · obtain rfl : n = 0 := by omega
                  have e : enc (Nat.gcd m0 k0) = z :: l := by rw [← hl]; simp [enc_zero]
                  repeat ((first | refine ldX_eq rfl ?_ | refine stX_box rfl ?_); conv => whnf)
                  rw [e]
                  exact ⟨_, frz_agg2 (.pure _ (.bool _)) (frz_limbs (L := z :: l) (l := z :: l) rfl (by simp) (by simp)), .refl _⟩
end
end Go.Abs

namespace Go.Abs
noncomputable section
open Go.Proofs

theorem pure_agg4 {x y z w : AV} (h1 : Pure x) (h2 : Pure y) (h3 : Pure z) (h4 : Pure w) : Pure (.agg [x, y, z, w]) := .agg _ fun i hi => by
  match i, hi with
  | 0, _ => exact h1
  | 1, _ => exact h2
  | 2, _ => exact h3
  | 3, _ => exact h4

theorem gcd_whole {a b : Int} {x y : AV} (hx : WholeV a x) (hy : WholeV b y) (la : (enc a.natAbs).length < 10000000000) (lb : (enc b.natAbs).length < 10000000000) (hb : b ≠ 0) :
    PureSem Tryz.prog 109 [x, y] (.agg [.bool false, .vs (limbsV (enc (Int.gcd a b))) none]) := by
  obtain ⟨X, hX, rfl⟩ := hx
  obtain ⟨Y, hY, rfl⟩ := hy
  cases hY with
  | nils h0 => exact absurd (enc_nil.1 h0) (by omega)
  | vs cy => exact gcd_walk hX (by omega) la lb

theorem div_exact {n g k : Int} {x y : AV} (hx : WholeV n x) (hy : WholeV g y) (la : (enc n.natAbs).length < 10000000000) (lb : (enc g.natAbs).length < 10000000000) (hg : g ≠ 0) (hk : n = k * g) :
    ∃ Q, WholeV k Q ∧ PureSem Tryz.prog 155 [x, y] (.tup [Q, .junk]) := by
  obtain ⟨q, r, Q, R, hf, hQ, hR, hp⟩ := div_whole hx hy la lb hg
  have e : k = q := by
    have h1 := hf.eq
    rw [hk] at h1
    have h2 : (k - q) * g = r := by rw [Int.sub_mul]; omega
    have h3 := hf.pos
    have h4 := hf.neg
    have h5 : (k - q).natAbs * g.natAbs = r.natAbs := by rw [← Int.natAbs_mul, h2]
    rcases Nat.eq_zero_or_pos (k - q).natAbs with h0 | h0
    · omega
    · exfalso
      have : 1 * g.natAbs ≤ (k - q).natAbs * g.natAbs := Nat.mul_le_mul_right _ h0
      omega
  subst e
  exact ⟨Q, hQ, pure_wk hp (wk_tup2 (.refl _) (.junk _)) (pure_tup2 hQ.pure .junk)⟩

set_option maxHeartbeats 4000000 in
set_option maxRecDepth 100000 in
theorem make_same {X : AV} {l v : List Nat} {sn : Bool} {cy : Option Nat} (hX : MagV l X)
    (hg : PureSem Tryz.prog 109 [.agg [.bool sn, X], .agg [.bool false, .vs (limbsV v) cy]] (.agg [.bool false, .vs (limbsV [1]) none])) :
    PureSem Tryz.prog 102 [.agg [.bool sn, X], .agg [.bool false, .vs (limbsV v) cy]] (.agg [.bool sn, X, .bool false, .vs (limbsV v) cy]) := by
  have pN := pure_agg2 (.bool sn) hX.pure
  have pD := pure_agg2 (.bool false) (pure_limbs v cy)
  have pX := hX.pure
  have pV := pure_limbs v cy
  refine pure_of_call (pure2 pN pD) (pure_agg4 (.bool _) pX (.bool _) pV) (call_x exactT_ok mixed Tryz.func102 rfl (by decide +kernel) ?_)
  cases hX
  all_goals
    conv => whnf
    repeat ((first | refine ⟨⟨rfl, by decide, rfl⟩, ?_⟩ | refine ⟨⟨by decide, rfl⟩, ?_⟩ | refine ldX_eq rfl ?_ | refine callX_pure hg (pure2 pN pD) ?_ | refine stX_box rfl ?_ | refine condX_true ?_ | refine condX_false ?_ | refine condX_f rfl ?_ | refine condX_t rfl ?_ | refine lenX_eq (limbsV_length _) ?_ | refine idx_limbs 0 rfl (by simp) ?_ | refine Or.inl ?_ | refine And.intro rfl ?_); conv => whnf)
    exact .pure _ (pure_agg4 (.bool _) pX (.bool _) pV)
set_option maxHeartbeats 4000000 in
set_option maxRecDepth 100000 in
theorem make_div {X Z1 : AV} {l l1 v lg l2 : List Nat} {sn s1 s2 : Bool} {cy c2 : Option Nat} (hX : MagV l X) (hZ : MagV l1 Z1) (hl : lg.length < 4611686018427387904) (hne : lg ≠ []) (h1 : lg ≠ [1])
    (hg : PureSem Tryz.prog 109 [.agg [.bool sn, X], .agg [.bool false, .vs (limbsV v) cy]] (.agg [.bool false, .vs (limbsV lg) none]))
    (hd1 : PureSem Tryz.prog 155 [.agg [.bool sn, X], .agg [.bool false, .vs (limbsV lg) none]] (.tup [.agg [.bool s1, Z1], .junk]))
    (hd2 : PureSem Tryz.prog 155 [.agg [.bool false, .vs (limbsV v) cy], .agg [.bool false, .vs (limbsV lg) none]] (.tup [.agg [.bool s2, .vs (limbsV l2) c2], .junk])) :
    PureSem Tryz.prog 102 [.agg [.bool sn, X], .agg [.bool false, .vs (limbsV v) cy]] (.agg [.bool s1, Z1, .bool s2, .vs (limbsV l2) c2]) := by
  have pX := hX.pure
  have pZ := hZ.pure
  have pN := pure_agg2 (.bool sn) pX
  have pD := pure_agg2 (.bool false) (pure_limbs v cy)
  have pG := pure_agg2 (.bool false) (pure_limbs lg none)
  refine pure_of_call (pure2 pN pD) (pure_agg4 (.bool _) pZ (.bool _) (pure_limbs _ _)) (call_x exactT_ok mixed Tryz.func102 rfl (by decide +kernel) ?_)
  have h0 : 0 < lg.length := List.length_pos_iff.2 hne
  have hz : lg.length ≤ 1 → lg[0]'h0 ≠ 1 := fun h e => h1 (by
    match lg, h0, h, e with
    | [x], _, _, e => simp at e; rw [e]
    | x :: y :: r, _, h, _ => simp at h)
  cases hX <;> cases hZ
  all_goals
    conv => whnf
    repeat ((first | refine ⟨⟨rfl, by decide, rfl⟩, ?_⟩ | refine ⟨⟨by decide, rfl⟩, ?_⟩ | refine ldX_eq rfl ?_ | refine callX_pure hg (pure2 pN pD) ?_ | refine stX_box rfl ?_ | refine condX_false ?_ | refine lenX_eq (limbsV_length _) ?_); conv => whnf)
    by_cases hl1 : 1 < lg.length
    · have e1 : (decide ((lg.length : Int) > 1) == false) = false := by rw [decide_eq_true (by omega)]; rfl
      have e2 : decide ((lg.length : Int) > 1) = true := decide_eq_true (by omega)
      repeat ((first | refine ldX_eq rfl ?_ | refine callX_pure hd1 (pure2 pN pG) ?_ | refine callX_pure hd2 (pure2 pD pG) ?_ | refine stX_box rfl ?_ | refine condX_f e1 ?_ | refine condX_t e2 ?_ | refine condX_true ?_ | refine condX_false ?_ | refine And.intro rfl ?_); conv => whnf)
      exact .pure _ (pure_agg4 (.bool _) pZ (.bool _) (pure_limbs _ _))
    · have e1 : (decide ((lg.length : Int) > 1) == false) = true := by rw [decide_eq_false (by omega)]; rfl
      have e2 : decide ((lg.length : Int) > 1) = false := decide_eq_false (by omega)
      have e3 : (((lg[0]'h0 : Nat) : Int) != 1) = true := by have := hz (by omega); simp; omega
      repeat ((first | refine ldX_eq rfl ?_ | refine callX_pure hd1 (pure2 pN pG) ?_ | refine callX_pure hd2 (pure2 pD pG) ?_ | refine stX_box rfl ?_ | refine condX_t e1 ?_ | refine condX_f e2 ?_ | refine condX_t e3 ?_ | refine condX_true ?_ | refine condX_false ?_ | refine condX_f rfl ?_ | refine idx_limbs 0 rfl (by omega) ?_ | refine Or.inl ?_ | refine And.intro rfl ?_); conv => whnf)
      exact .pure _ (pure_agg4 (.bool _) pZ (.bool _) (pure_limbs _ _))
set_option maxHeartbeats 4000000 in
set_option maxRecDepth 100000 in
theorem make_neg {X Z1 : AV} {l l1 v lg l2 : List Nat} {sn s1 s2 : Bool} {cy c2 cg : Option Nat} (hX : MagV l X) (hZ : MagV l1 Z1) (hl : lg.length < 4611686018427387904) (hne : lg ≠ [])
    (hg : PureSem Tryz.prog 109 [.agg [.bool sn, X], .agg [.bool true, .vs (limbsV v) cy]] (.agg [.bool false, .vs (limbsV lg) none]))
    (hn : PureSem Tryz.prog 154 [.agg [.bool false, .vs (limbsV lg) none]] (.agg [.bool true, .vs (limbsV lg) cg]))
    (hd1 : PureSem Tryz.prog 155 [.agg [.bool sn, X], .agg [.bool true, .vs (limbsV lg) cg]] (.tup [.agg [.bool s1, Z1], .junk]))
    (hd2 : PureSem Tryz.prog 155 [.agg [.bool true, .vs (limbsV v) cy], .agg [.bool true, .vs (limbsV lg) cg]] (.tup [.agg [.bool s2, .vs (limbsV l2) c2], .junk])) :
    PureSem Tryz.prog 102 [.agg [.bool sn, X], .agg [.bool true, .vs (limbsV v) cy]] (.agg [.bool s1, Z1, .bool s2, .vs (limbsV l2) c2]) := by
  have pX := hX.pure
  have pZ := hZ.pure
  have pN := pure_agg2 (.bool sn) pX
  have pD := pure_agg2 (.bool true) (pure_limbs v cy)
  have pG0 := pure_agg2 (.bool false) (pure_limbs lg none)
  have pG := pure_agg2 (.bool true) (pure_limbs lg cg)
  refine pure_of_call (pure2 pN pD) (pure_agg4 (.bool _) pZ (.bool _) (pure_limbs _ _)) (call_x exactT_ok mixed Tryz.func102 rfl (by decide +kernel) ?_)
  have h0 : 0 < lg.length := List.length_pos_iff.2 hne
  cases hX <;> cases hZ
  all_goals
    conv => whnf
    repeat ((first | refine ⟨⟨rfl, by decide, rfl⟩, ?_⟩ | refine ⟨⟨by decide, rfl⟩, ?_⟩ | refine ldX_eq rfl ?_ | refine callX_pure hg (pure2 pN pD) ?_ | refine callX_pure hn (pure1 pG0) ?_ | refine stX_box rfl ?_ | refine condX_true ?_ | refine lenX_eq (limbsV_length _) ?_); conv => whnf)
    by_cases hl1 : 1 < lg.length
    · have e1 : (decide ((lg.length : Int) > 1) == false) = false := by rw [decide_eq_true (by omega)]; rfl
      have e2 : decide ((lg.length : Int) > 1) = true := decide_eq_true (by omega)
      repeat ((first | refine ldX_eq rfl ?_ | refine callX_pure hd1 (pure2 pN pG) ?_ | refine callX_pure hd2 (pure2 pD pG) ?_ | refine stX_box rfl ?_ | refine condX_f e1 ?_ | refine condX_t e2 ?_ | refine condX_true ?_ | refine condX_false ?_ | refine And.intro rfl ?_); conv => whnf)
      exact .pure _ (pure_agg4 (.bool _) pZ (.bool _) (pure_limbs _ _))
    · have e1 : (decide ((lg.length : Int) > 1) == false) = true := by rw [decide_eq_false (by omega)]; rfl
      have e2 : decide ((lg.length : Int) > 1) = false := decide_eq_false (by omega)
      repeat ((first | refine ldX_eq rfl ?_ | refine callX_pure hd1 (pure2 pN pG) ?_ | refine callX_pure hd2 (pure2 pD pG) ?_ | refine stX_box rfl ?_ | refine condX_t e1 ?_ | refine condX_f e2 ?_ | refine condX_true ?_ | refine condX_false ?_ | refine condX_f rfl ?_ | refine idx_limbs 0 rfl (by omega) ?_ | refine Or.inl ?_ | refine And.intro rfl ?_); conv => whnf)
      exact .pure _ (pure_agg4 (.bool _) pZ (.bool _) (pure_limbs _ _))
end
end Go.Abs

namespace Go.Abs
noncomputable section
open Go.Proofs

def NumV (q : Rat) (x : AV) : Prop := ∃ X c, MagV (enc q.num.natAbs) X ∧ x = .agg [.bool (decide (q.num < 0)), X, .bool false, .vs (limbsV (enc q.den)) c]
theorem NumV.pure {q : Rat} {x : AV} (h : NumV q x) : Pure x := by
  obtain ⟨X, c, hX, rfl⟩ := h
  exact pure_agg4 (.bool _) hX.pure (.bool _) (pure_limbs _ _)

theorem divInt_pos {n d k j : Int} {g : Nat} (hd : 0 < d) (hg : Int.gcd n d = g) (h1 : n = k * g) (h2 : d = j * g) : (Rat.divInt n d).num = k ∧ ((Rat.divInt n d).den : Int) = j := by
  have hg0 : 0 < g := by rw [← hg]; exact Int.gcd_pos_of_ne_zero_right _ (by omega)
  have hc : Int.gcd d n = g := by rw [Int.gcd_comm]; exact hg
  rw [Rat.num_divInt, Rat.den_divInt, hc, if_neg (by omega), Int.sign_eq_one_of_pos hd, Int.one_mul]
  refine ⟨by rw [h1]; exact Int.mul_ediv_cancel _ (by omega), ?_⟩
  have e : d.natAbs = j.natAbs * g := by rw [h2, Int.natAbs_mul]; rfl
  rw [e, Nat.mul_div_cancel _ hg0]
  have : 0 < j := by
    rcases Int.lt_or_le 0 j with h | h
    · exact h
    · have := Int.mul_nonpos_of_nonpos_of_nonneg h (show (0 : Int) ≤ g by omega)
      omega
  omega
theorem divInt_neg {n d k j : Int} {g : Nat} (hd : d < 0) (hg : Int.gcd n d = g) (h1 : n = k * -(g : Int)) (h2 : d = j * -(g : Int)) : (Rat.divInt n d).num = k ∧ ((Rat.divInt n d).den : Int) = j := by
  have e : Rat.divInt n d = Rat.divInt (-n) (-d) := (Rat.neg_divInt_neg n d).symm
  rw [e]
  exact divInt_pos (g := g) (by omega) (by rw [Int.neg_gcd, Int.gcd_neg]; exact hg) (by rw [h1, Int.mul_neg, Int.neg_neg]) (by rw [h2, Int.mul_neg, Int.neg_neg])

theorem make_num {n d : Int} {x y : AV} (hx : WholeV n x) (hy : WholeV d y) (la : (enc n.natAbs).length < 10000000000) (lb : (enc d.natAbs).length < 10000000000) (hd : d ≠ 0) :
    ∃ r, NumV (Rat.divInt n d) r ∧ PureSem Tryz.prog 102 [x, y] r := by
  have hG := gcd_whole hx hy la lb hd
  obtain ⟨g, hg⟩ : ∃ g, Int.gcd n d = g := ⟨_, rfl⟩
  rw [hg] at hG
  have hg0 : 0 < g := by rw [← hg]; exact Int.gcd_pos_of_ne_zero_right _ hd
  obtain ⟨k, hk⟩ : (g : Int) ∣ n := by rw [← hg]; exact Int.gcd_dvd_left ..
  obtain ⟨j, hj⟩ : (g : Int) ∣ d := by rw [← hg]; exact Int.gcd_dvd_right ..
  rw [Int.mul_comm] at hk hj
  have hgd : g ≤ d.natAbs := by rw [← hg]; exact Nat.le_of_dvd (by omega) (Nat.gcd_dvd_right _ _)
  have lg := enc_length_le hgd
  have hGV : WholeV (g : Int) (.agg [.bool false, .vs (limbsV (enc g)) none]) := ⟨_, .vs none, by rw [decide_eq_false (by omega)]; rfl⟩
  have hge : enc g ≠ [] := fun e => by have := enc_nil.1 e; omega
  rcases Int.lt_or_le 0 d with hp | hp
  · obtain ⟨q1, q2⟩ := divInt_pos hp hg hk hj
    obtain ⟨Q1, hQ1, hd1⟩ := div_exact hx hGV la (by show (enc g).length < _; omega) (by omega) hk
    obtain ⟨Q2, hQ2, hd2⟩ := div_exact hy hGV lb (by show (enc g).length < _; omega) (by omega) hj
    have hj0 : 0 < j := by have := Rat.den_pos (Rat.divInt n d); omega
    obtain ⟨X, hX, rfl⟩ := hx
    obtain ⟨Y, hY, rfl⟩ := hy
    cases hY with
    | nils h0 => exact absurd (enc_nil.1 h0) (by omega)
    | vs cy =>
      rw [decide_eq_false (show ¬ d < 0 by omega)] at hG hd2 ⊢
      by_cases h1 : g = 1
      · subst h1
        refine ⟨_, ⟨X, cy, ?_, ?_⟩, make_same hX hG⟩
        · rw [q1]; have : k = n := by omega
          rw [this]; exact hX
        · have e1 : k = n := by omega
          have e2 : (Rat.divInt n d).den = d.natAbs := by omega
          rw [q1, e1, e2]
      · obtain ⟨Z1, hZ1, rfl⟩ := hQ1
        obtain ⟨Z2, hZ2, rfl⟩ := hQ2
        cases hZ2 with
        | nils h0 => exact absurd (enc_nil.1 h0) (by omega)
        | vs c2 =>
          refine ⟨_, ⟨Z1, c2, ?_, ?_⟩, make_div hX hZ1 (by omega) hge (fun e => h1 (by rw [← enc_val g, e]; rfl)) hG hd1 hd2⟩
          · rw [q1]; exact hZ1
          · have e2 : (Rat.divInt n d).den = j.natAbs := by omega
            rw [q1, e2, decide_eq_false (show ¬ j < 0 by omega)]
  · have hk' : n = -k * -(g : Int) := by rw [Int.neg_mul_neg]; exact hk
    have hj' : d = -j * -(g : Int) := by rw [Int.neg_mul_neg]; exact hj
    obtain ⟨q1, q2⟩ := divInt_neg (by omega) hg hk' hj'
    obtain ⟨G', hG', hn⟩ := neg_whole hGV (by show (enc g).length < _; omega)
    have hGl : (enc (-(g : Int)).natAbs).length < 10000000000 := by rw [Int.natAbs_neg]; show (enc g).length < _; omega
    obtain ⟨Q1, hQ1, hd1⟩ := div_exact hx hG' la hGl (by omega) hk'
    obtain ⟨Q2, hQ2, hd2⟩ := div_exact hy hG' lb hGl (by omega) hj'
    have hj0 : 0 < -j := by have := Rat.den_pos (Rat.divInt n d); omega
    obtain ⟨X, hX, rfl⟩ := hx
    obtain ⟨Y, hY, rfl⟩ := hy
    obtain ⟨W, hW, rfl⟩ := hG'
    have eg : (-(g : Int)).natAbs = g := by omega
    rw [eg] at hW
    rw [decide_eq_true (show -(g : Int) < 0 by omega)] at hn hd1 hd2
    cases hY with
    | nils h0 => exact absurd (enc_nil.1 h0) (by omega)
    | vs cy =>
      cases hW with
      | nils h0 => exact absurd h0 hge
      | vs cg =>
        rw [decide_eq_true (show d < 0 by omega)] at hG hd2 ⊢
        obtain ⟨Z1, hZ1, rfl⟩ := hQ1
        obtain ⟨Z2, hZ2, rfl⟩ := hQ2
        cases hZ2 with
        | nils h0 => exact absurd (enc_nil.1 h0) (by omega)
        | vs c2 =>
          refine ⟨_, ⟨Z1, c2, ?_, ?_⟩, make_neg hX hZ1 (by omega) hge hG hn hd1 hd2⟩
          · rw [q1]; exact hZ1
          · have e2 : (Rat.divInt n d).den = (-j).natAbs := by omega
            rw [q1, e2, decide_eq_false (show ¬ -j < 0 by omega)]
end
end Go.Abs

namespace Go.Abs
noncomputable section
open Go.Proofs

def Sz (k : Nat) (q : Rat) : Prop := (enc q.num.natAbs).length ≤ k ∧ (enc q.den).length ≤ k
theorem enc_lt (n : Nat) : n < 1000000000 ^ (enc n).length := by
  have h := val_lt (enc_ok n)
  rwa [enc_val] at h
theorem enc_mul_len (a b : Nat) : (enc (a * b)).length ≤ (enc a).length + (enc b).length := by
  refine enc_length_lt ?_
  rw [Nat.pow_add]
  exact Nat.mul_lt_mul'' (enc_lt a) (enc_lt b)
theorem enc_add_len {a b k : Nat} (ha : (enc a).length ≤ k) (hb : (enc b).length ≤ k) : (enc (a + b)).length ≤ k + 1 := by
  refine enc_length_lt ?_
  have h1 := Nat.lt_of_lt_of_le (enc_lt a) (Nat.pow_le_pow_right (by omega) ha)
  have h2 := Nat.lt_of_lt_of_le (enc_lt b) (Nat.pow_le_pow_right (by omega) hb)
  rw [Nat.pow_succ]
  omega
theorem Sz.mono {k l : Nat} {q : Rat} (h : Sz k q) (hk : k ≤ l) : Sz l q := ⟨Nat.le_trans h.1 hk, Nat.le_trans h.2 hk⟩

theorem num_whole {q : Rat} {x : AV} (h : NumV q x) : ∃ X c, MagV (enc q.num.natAbs) X ∧ x = .agg [.bool (decide (q.num < 0)), X, .bool false, .vs (limbsV (enc q.den)) c] ∧
    WholeV q.num (.agg [.bool (decide (q.num < 0)), X]) ∧ WholeV (q.den : Int) (.agg [.bool false, .vs (limbsV (enc q.den)) c]) := by
  obtain ⟨X, c, hX, rfl⟩ := h
  exact ⟨X, c, hX, rfl, ⟨X, hX, rfl⟩, ⟨_, .vs c, by rw [decide_eq_false (by omega)]; rfl⟩⟩
theorem agg_eta {z : Int} {x : AV} (h : WholeV z x) : ∃ b X, MagV (enc z.natAbs) X ∧ x = .agg [.bool b, X] := by
  obtain ⟨X, hX, rfl⟩ := h
  exact ⟨_, X, hX, rfl⟩

set_option maxHeartbeats 4000000 in
set_option maxRecDepth 100000 in
theorem mul_walk {l1 l2 l3 : List Nat} {X Y Z : AV} {sx sy s1 s2 sz : Bool} {u v w1 w2 w3 : List Nat} {cu cv c1 c2 c3 : Option Nat} (hX : MagV l1 X) (hY : MagV l2 Y) (hZ : MagV l3 Z)
    (h1 : PureSem Tryz.prog 96 [.agg [.bool sx, X], .agg [.bool sy, Y]] (.agg [.bool s1, .vs (limbsV w1) c1]))
    (h2 : PureSem Tryz.prog 96 [.agg [.bool false, .vs (limbsV u) cu], .agg [.bool false, .vs (limbsV v) cv]] (.agg [.bool s2, .vs (limbsV w2) c2]))
    (h3 : PureSem Tryz.prog 102 [.agg [.bool s1, .vs (limbsV w1) c1], .agg [.bool s2, .vs (limbsV w2) c2]] (.agg [.bool sz, Z, .bool false, .vs (limbsV w3) c3])) :
    PureSem Tryz.prog 98 [.agg [.bool sx, X, .bool false, .vs (limbsV u) cu], .agg [.bool sy, Y, .bool false, .vs (limbsV v) cv]] (.agg [.bool sz, Z, .bool false, .vs (limbsV w3) c3]) := by
  have pX := hX.pure
  have pY := hY.pure
  have pZ := hZ.pure
  have pu := pure_limbs u cu
  have pv := pure_limbs v cv
  refine pure_of_call (pure2 (pure_agg4 (.bool _) pX (.bool _) pu) (pure_agg4 (.bool _) pY (.bool _) pv)) (pure_agg4 (.bool _) pZ (.bool _) (pure_limbs _ _)) (call_x exactT_ok mixed Tryz.func98 rfl (by decide +kernel) ?_)
  cases hX <;> cases hY <;> cases hZ
  all_goals
    conv => whnf
    repeat ((first | refine ⟨⟨rfl, by decide, rfl⟩, ?_⟩ | refine ⟨⟨by decide, rfl⟩, ?_⟩); conv => whnf)
    refine Or.inl ⟨by decide +kernel, ?_⟩
    conv => whnf
    repeat ((first
      | refine ⟨_, _, fun K hK => (by (conv => whnf); first | exact hK | exact ldX_eq rfl hK | exact callX_pure h1 (pure2 (pure_agg2 (.bool _) pX) (pure_agg2 (.bool _) pY)) hK | exact callX_pure h2 (pure2 (pure_agg2 (.bool _) pu) (pure_agg2 (.bool _) pv)) hK | exact callX_pure h3 (pure2 (pure_agg2 (.bool _) (pure_limbs _ _)) (pure_agg2 (.bool _) (pure_limbs _ _))) hK | (refine stX_box rfl ?_; (conv => whnf); exact hK)), Or.inl ⟨rfl, (by repeat' (first | exact True.intro | refine And.intro ?_ ?_ | exact Or.inl (by decide +kernel) | decide +kernel | exact Or.inr (fun K hK => (by (conv => whnf); first | exact hK | exact ldX_eq rfl hK | exact callX_pure h1 (pure2 (pure_agg2 (.bool _) pX) (pure_agg2 (.bool _) pY)) hK | exact callX_pure h2 (pure2 (pure_agg2 (.bool _) pu) (pure_agg2 (.bool _) pv)) hK | exact callX_pure h3 (pure2 (pure_agg2 (.bool _) (pure_limbs _ _)) (pure_agg2 (.bool _) (pure_limbs _ _))) hK | (refine stX_box rfl ?_; (conv => whnf); exact hK))))), ?_⟩⟩
      | refine ⟨_, _, fun K hK => (by (conv => whnf); first | exact hK | exact ldX_eq rfl hK | exact callX_pure h1 (pure2 (pure_agg2 (.bool _) pX) (pure_agg2 (.bool _) pY)) hK | exact callX_pure h2 (pure2 (pure_agg2 (.bool _) pu) (pure_agg2 (.bool _) pv)) hK | exact callX_pure h3 (pure2 (pure_agg2 (.bool _) (pure_limbs _ _)) (pure_agg2 (.bool _) (pure_limbs _ _))) hK | (refine stX_box rfl ?_; (conv => whnf); exact hK)), Or.inr ⟨(by repeat' (first | exact True.intro | refine And.intro ?_ ?_ | exact Or.inl (by decide +kernel) | decide +kernel | exact Or.inr (fun K hK => (by (conv => whnf); first | exact hK | exact ldX_eq rfl hK | exact callX_pure h1 (pure2 (pure_agg2 (.bool _) pX) (pure_agg2 (.bool _) pY)) hK | exact callX_pure h2 (pure2 (pure_agg2 (.bool _) pu) (pure_agg2 (.bool _) pv)) hK | exact callX_pure h3 (pure2 (pure_agg2 (.bool _) (pure_limbs _ _)) (pure_agg2 (.bool _) (pure_limbs _ _))) hK | (refine stX_box rfl ?_; (conv => whnf); exact hK))))), (by repeat' (first | exact True.intro | refine And.intro ?_ ?_ | exact Or.inl (by decide +kernel) | decide +kernel | exact Or.inr (fun K hK => (by (conv => whnf); first | exact hK | exact ldX_eq rfl hK | exact callX_pure h1 (pure2 (pure_agg2 (.bool _) pX) (pure_agg2 (.bool _) pY)) hK | exact callX_pure h2 (pure2 (pure_agg2 (.bool _) pu) (pure_agg2 (.bool _) pv)) hK | exact callX_pure h3 (pure2 (pure_agg2 (.bool _) (pure_limbs _ _)) (pure_agg2 (.bool _) (pure_limbs _ _))) hK | (refine stX_box rfl ?_; (conv => whnf); exact hK))))), ?_⟩⟩); conv => whnf)
    exact .pure _ (pure_agg4 (.bool _) pZ (.bool _) (pure_limbs _ _))

set_option maxHeartbeats 4000000 in
set_option maxRecDepth 100000 in
theorem addn_walk {l1 l2 l3 : List Nat} {X Y Z : AV} {sx sy s1 s2 s3 s4 sz : Bool} {u v w1 w2 w3 w4 w5 : List Nat} {cu cv c1 c2 c3 c4 c5 : Option Nat} (hX : MagV l1 X) (hY : MagV l2 Y) (hZ : MagV l3 Z)
    (h1 : PureSem Tryz.prog 96 [.agg [.bool sx, X], .agg [.bool false, .vs (limbsV v) cv]] (.agg [.bool s1, .vs (limbsV w1) c1]))
    (h2 : PureSem Tryz.prog 96 [.agg [.bool sy, Y], .agg [.bool false, .vs (limbsV u) cu]] (.agg [.bool s2, .vs (limbsV w2) c2]))
    (h3 : PureSem Tryz.prog 131 [.agg [.bool s1, .vs (limbsV w1) c1], .agg [.bool s2, .vs (limbsV w2) c2]] (.agg [.bool s3, .vs (limbsV w3) c3]))
    (h4 : PureSem Tryz.prog 96 [.agg [.bool false, .vs (limbsV u) cu], .agg [.bool false, .vs (limbsV v) cv]] (.agg [.bool s4, .vs (limbsV w4) c4]))
    (h5 : PureSem Tryz.prog 102 [.agg [.bool s3, .vs (limbsV w3) c3], .agg [.bool s4, .vs (limbsV w4) c4]] (.agg [.bool sz, Z, .bool false, .vs (limbsV w5) c5])) :
    PureSem Tryz.prog 86 [.agg [.bool sx, X, .bool false, .vs (limbsV u) cu], .agg [.bool sy, Y, .bool false, .vs (limbsV v) cv]] (.agg [.bool sz, Z, .bool false, .vs (limbsV w5) c5]) := by
  have pX := hX.pure
  have pY := hY.pure
  have pZ := hZ.pure
  have pu := pure_limbs u cu
  have pv := pure_limbs v cv
  refine pure_of_call (pure2 (pure_agg4 (.bool _) pX (.bool _) pu) (pure_agg4 (.bool _) pY (.bool _) pv)) (pure_agg4 (.bool _) pZ (.bool _) (pure_limbs _ _)) (call_x exactT_ok mixed Tryz.func86 rfl (by decide +kernel) ?_)
  cases hX <;> cases hY <;> cases hZ
  all_goals
    conv => whnf
    repeat ((first | refine ⟨⟨rfl, by decide, rfl⟩, ?_⟩ | refine ⟨⟨by decide, rfl⟩, ?_⟩); conv => whnf)
    refine Or.inl ⟨by decide +kernel, ?_⟩
    conv => whnf
    repeat ((first
      | refine ⟨_, _, fun K hK => (by (conv => whnf); first | exact hK | exact ldX_eq rfl hK | exact callX_pure h1 (pure2 (pure_agg2 (.bool _) pX) (pure_agg2 (.bool _) pv)) hK | exact callX_pure h2 (pure2 (pure_agg2 (.bool _) pY) (pure_agg2 (.bool _) pu)) hK | exact callX_pure h3 (pure2 (pure_agg2 (.bool _) (pure_limbs _ _)) (pure_agg2 (.bool _) (pure_limbs _ _))) hK | exact callX_pure h4 (pure2 (pure_agg2 (.bool _) pu) (pure_agg2 (.bool _) pv)) hK | exact callX_pure h5 (pure2 (pure_agg2 (.bool _) (pure_limbs _ _)) (pure_agg2 (.bool _) (pure_limbs _ _))) hK | (refine stX_box rfl ?_; (conv => whnf); exact hK)), Or.inl ⟨rfl, (by repeat' (first | exact True.intro | refine And.intro ?_ ?_ | exact Or.inl (by decide +kernel) | decide +kernel | exact Or.inr (fun K hK => (by (conv => whnf); first | exact hK | exact ldX_eq rfl hK | exact callX_pure h1 (pure2 (pure_agg2 (.bool _) pX) (pure_agg2 (.bool _) pv)) hK | exact callX_pure h2 (pure2 (pure_agg2 (.bool _) pY) (pure_agg2 (.bool _) pu)) hK | exact callX_pure h3 (pure2 (pure_agg2 (.bool _) (pure_limbs _ _)) (pure_agg2 (.bool _) (pure_limbs _ _))) hK | exact callX_pure h4 (pure2 (pure_agg2 (.bool _) pu) (pure_agg2 (.bool _) pv)) hK | exact callX_pure h5 (pure2 (pure_agg2 (.bool _) (pure_limbs _ _)) (pure_agg2 (.bool _) (pure_limbs _ _))) hK | (refine stX_box rfl ?_; (conv => whnf); exact hK))))), ?_⟩⟩
      | refine ⟨_, _, fun K hK => (by (conv => whnf); first | exact hK | exact ldX_eq rfl hK | exact callX_pure h1 (pure2 (pure_agg2 (.bool _) pX) (pure_agg2 (.bool _) pv)) hK | exact callX_pure h2 (pure2 (pure_agg2 (.bool _) pY) (pure_agg2 (.bool _) pu)) hK | exact callX_pure h3 (pure2 (pure_agg2 (.bool _) (pure_limbs _ _)) (pure_agg2 (.bool _) (pure_limbs _ _))) hK | exact callX_pure h4 (pure2 (pure_agg2 (.bool _) pu) (pure_agg2 (.bool _) pv)) hK | exact callX_pure h5 (pure2 (pure_agg2 (.bool _) (pure_limbs _ _)) (pure_agg2 (.bool _) (pure_limbs _ _))) hK | (refine stX_box rfl ?_; (conv => whnf); exact hK)), Or.inr ⟨(by repeat' (first | exact True.intro | refine And.intro ?_ ?_ | exact Or.inl (by decide +kernel) | decide +kernel | exact Or.inr (fun K hK => (by (conv => whnf); first | exact hK | exact ldX_eq rfl hK | exact callX_pure h1 (pure2 (pure_agg2 (.bool _) pX) (pure_agg2 (.bool _) pv)) hK | exact callX_pure h2 (pure2 (pure_agg2 (.bool _) pY) (pure_agg2 (.bool _) pu)) hK | exact callX_pure h3 (pure2 (pure_agg2 (.bool _) (pure_limbs _ _)) (pure_agg2 (.bool _) (pure_limbs _ _))) hK | exact callX_pure h4 (pure2 (pure_agg2 (.bool _) pu) (pure_agg2 (.bool _) pv)) hK | exact callX_pure h5 (pure2 (pure_agg2 (.bool _) (pure_limbs _ _)) (pure_agg2 (.bool _) (pure_limbs _ _))) hK | (refine stX_box rfl ?_; (conv => whnf); exact hK))))), (by repeat' (first | exact True.intro | refine And.intro ?_ ?_ | exact Or.inl (by decide +kernel) | decide +kernel | exact Or.inr (fun K hK => (by (conv => whnf); first | exact hK | exact ldX_eq rfl hK | exact callX_pure h1 (pure2 (pure_agg2 (.bool _) pX) (pure_agg2 (.bool _) pv)) hK | exact callX_pure h2 (pure2 (pure_agg2 (.bool _) pY) (pure_agg2 (.bool _) pu)) hK | exact callX_pure h3 (pure2 (pure_agg2 (.bool _) (pure_limbs _ _)) (pure_agg2 (.bool _) (pure_limbs _ _))) hK | exact callX_pure h4 (pure2 (pure_agg2 (.bool _) pu) (pure_agg2 (.bool _) pv)) hK | exact callX_pure h5 (pure2 (pure_agg2 (.bool _) (pure_limbs _ _)) (pure_agg2 (.bool _) (pure_limbs _ _))) hK | (refine stX_box rfl ?_; (conv => whnf); exact hK))))), ?_⟩⟩); conv => whnf)
    exact .pure _ (pure_agg4 (.bool _) pZ (.bool _) (pure_limbs _ _))
end
end Go.Abs

namespace Go.Abs
noncomputable section
open Go.Proofs

theorem wholeR_pos {n : Nat} {c : Option Nat} : wholeR (n : Int) c = .agg [.bool false, .vs (limbsV (enc n)) c] := by
  unfold wholeR
  rw [decide_eq_false (by omega)]; rfl

theorem mul_num {p q : Rat} {x y : AV} {k l : Nat} (hx : NumV p x) (hy : NumV q y) (hp : Sz k p) (hq : Sz l q) (hk : k + l < 10000000000) :
    ∃ r, NumV (p * q) r ∧ PureSem Tryz.prog 98 [x, y] r := by
  obtain ⟨X, cu, hX, rfl, nX, dX⟩ := num_whole hx
  obtain ⟨Y, cv, hY, rfl, nY, dY⟩ := num_whole hy
  obtain ⟨p1, p2⟩ := hp
  obtain ⟨q1, q2⟩ := hq
  obtain ⟨c1, h1⟩ := mul_whole nX nY (by omega) (by omega)
  obtain ⟨c2, h2⟩ := mul_whole dX dY (by show (enc p.den).length < _; omega) (by show (enc q.den).length < _; omega)
  have e1 := enc_mul_len p.num.natAbs q.num.natAbs
  have e2 := enc_mul_len p.den q.den
  have hd : (p.den : Int) * (q.den : Int) ≠ 0 := Int.mul_ne_zero (by have := p.den_nz; omega) (by have := q.den_nz; omega)
  obtain ⟨r, hr, h3⟩ := make_num (wholeR_V (p.num * q.num) c1) (wholeR_V ((p.den : Int) * (q.den : Int)) c2) (by rw [Int.natAbs_mul]; omega) (by rw [Int.natAbs_mul]; show (enc (p.den * q.den)).length < _; omega) hd
  have e : Rat.divInt (p.num * q.num) ((p.den : Int) * (q.den : Int)) = p * q := by
    rw [← Rat.divInt_mul_divInt, Rat.num_divInt_den, Rat.num_divInt_den]
  rw [e] at hr
  refine ⟨r, hr, ?_⟩
  obtain ⟨Z, cz, hZ, rfl⟩ := hr
  exact mul_walk hX hY hZ h1 h2 h3

theorem add_num {p q : Rat} {x y : AV} {k l : Nat} (hx : NumV p x) (hy : NumV q y) (hp : Sz k p) (hq : Sz l q) (hk : k + l + 1 < 10000000000) :
    ∃ r, NumV (p + q) r ∧ PureSem Tryz.prog 86 [x, y] r := by
  obtain ⟨X, cu, hX, rfl, nX, dX⟩ := num_whole hx
  obtain ⟨Y, cv, hY, rfl, nY, dY⟩ := num_whole hy
  obtain ⟨p1, p2⟩ := hp
  obtain ⟨q1, q2⟩ := hq
  have lp : (enc (p.den : Int).natAbs).length ≤ k := p2
  have lq : (enc (q.den : Int).natAbs).length ≤ l := q2
  obtain ⟨c1, h1⟩ := mul_whole nX dY (by omega) (by omega)
  obtain ⟨c2, h2⟩ := mul_whole nY dX (by omega) (by omega)
  have e1 : (enc (p.num * (q.den : Int)).natAbs).length ≤ k + l := by rw [Int.natAbs_mul]; have := enc_mul_len p.num.natAbs (q.den : Int).natAbs; omega
  have e2 : (enc (q.num * (p.den : Int)).natAbs).length ≤ k + l := by rw [Int.natAbs_mul]; have := enc_mul_len q.num.natAbs (p.den : Int).natAbs; omega
  have e4 : (enc ((p.den : Int) * (q.den : Int)).natAbs).length ≤ k + l := by rw [Int.natAbs_mul]; have := enc_mul_len (p.den : Int).natAbs (q.den : Int).natAbs; omega
  obtain ⟨c3, h3⟩ := add_whole (wholeR_V (p.num * (q.den : Int)) c1) (wholeR_V (q.num * (p.den : Int)) c2) (by omega) (by omega)
  obtain ⟨c4, h4⟩ := mul_whole dX dY (by omega) (by omega)
  have hd : (p.den : Int) * (q.den : Int) ≠ 0 := Int.mul_ne_zero (by have := p.den_nz; omega) (by have := q.den_nz; omega)
  have e3 : (enc (p.num * (q.den : Int) + q.num * (p.den : Int)).natAbs).length ≤ k + l + 1 := Nat.le_trans (enc_length_le (Int.natAbs_add_le _ _)) (enc_add_len e1 e2)
  obtain ⟨r, hr, h5⟩ := make_num (wholeR_V (p.num * (q.den : Int) + q.num * (p.den : Int)) c3) (wholeR_V ((p.den : Int) * (q.den : Int)) c4) (by omega) (by omega) hd
  have e : Rat.divInt (p.num * (q.den : Int) + q.num * (p.den : Int)) ((p.den : Int) * (q.den : Int)) = p + q := by
    rw [← Rat.divInt_add_divInt _ _ (by have := p.den_nz; omega) (by have := q.den_nz; omega), Rat.num_divInt_den, Rat.num_divInt_den]
  rw [e] at hr
  refine ⟨r, hr, ?_⟩
  obtain ⟨Z, cz, hZ, rfl⟩ := hr
  exact addn_walk hX hY hZ h1 h2 h3 h4 h5
end
end Go.Abs

namespace Go.Abs
noncomputable section
open Go.Proofs

def zeroR (d : Nat) : AV := .agg [.bool false, (match Nat.beq d 1 with | true => .vs [] none | false => .nils), .bool false, .vs [[.int .u32 1]] none]
theorem zero_mag (d : Nat) : MagV [] (match Nat.beq d 1 with | true => AV.vs [] none | false => .nils) := by
  cases Nat.beq d 1
  · exact .nils rfl
  · exact .vs (l := []) none
theorem zeroR_pure (d : Nat) : Pure (zeroR d) := pure_agg4 (.bool _) (zero_mag d).pure (.bool _) (pure_limbs [1] none)

theorem wk_agg4 {x y z w x' y' z' w' : AV} (h1 : Wk x x') (h2 : Wk y y') (h3 : Wk z z') (h4 : Wk w w') : Wk (.agg [x, y, z, w]) (.agg [x', y', z', w']) := .agg _ _ rfl fun i hi hj => by
  match i, hi with
  | 0, _ => exact h1
  | 1, _ => exact h2
  | 2, _ => exact h3
  | 3, _ => exact h4

theorem make_zero {d : Nat} {c cy : Option Nat} (hd : 0 < d) (lb : (enc d).length < 10000000000) :
    PureSem Tryz.prog 102 [.agg [.bool false, .vs (limbsV []) c], .agg [.bool false, .vs (limbsV (enc d)) cy]] (zeroR d) := by
  have hx : WholeV 0 (.agg [.bool false, .vs (limbsV []) c]) := ⟨_, .vs (l := []) c, rfl⟩
  have hy : WholeV (d : Int) (.agg [.bool false, .vs (limbsV (enc d)) cy]) := ⟨_, .vs cy, by rw [decide_eq_false (by omega)]; rfl⟩
  have hG := gcd_whole hx hy (by show (enc 0).length < _; decide) (by show (enc d).length < _; omega) (by omega)
  have eg : Int.gcd 0 (d : Int) = d := by rw [Int.gcd_zero_left]; rfl
  rw [eg] at hG
  unfold zeroR
  by_cases h1 : d = 1
  · subst h1
    have h := make_same (.vs (l := []) c) hG
    refine pure_wk h (wk_agg4 (.refl _) (.vs _ _) (.refl _) (.vs _ _)) (zeroR_pure 1)
  · have hb : Nat.beq d 1 = false := by
      cases h : Nat.beq d 1 with
      | true => exact absurd (Nat.eq_of_beq_eq_true h) h1
      | false => rfl
    have hp := zeroR_pure d
    unfold zeroR at hp
    rw [hb] at hp ⊢
    have hge : enc d ≠ [] := fun e => by have := enc_nil.1 e; omega
    have hGV : WholeV (d : Int) (.agg [.bool false, .vs (limbsV (enc d)) none]) := ⟨_, .vs none, by rw [decide_eq_false (by omega)]; rfl⟩
    obtain ⟨Q2, hQ2, hd2⟩ := div_exact (k := 1) hy hGV (by show (enc d).length < _; omega) (by show (enc d).length < _; omega) (by omega) (by omega)
    obtain ⟨Z2, hZ2, rfl⟩ := hQ2
    have hcmp : cmpMag [] (enc d) < 0 := by
      unfold cmpMag
      rw [if_pos (by have := List.length_pos_iff.2 hge; simpa using this)]
      decide
    have hdl := divided_less (.vs (l := []) c) (.vs (l := enc d) none) (by simp) hcmp
    obtain ⟨c', hw⟩ := whole_mag false (l := []) c okL_nil (by simp)
    have hsg := sign_whole (a := 0) (x := .agg [.bool false, .vs (limbsV []) c']) ⟨_, .vs (l := []) c', rfl⟩
    have hd1 := div_walk (sa := false) (sb := false) (.nv [] [] c c') hdl (whole_nils false) hw hsg (.inl rfl)
    have hd1' : PureSem Tryz.prog 155 [.agg [.bool false, .vs (limbsV []) c], .agg [.bool false, .vs (limbsV (enc d)) none]] (.tup [.agg [.bool false, .nils], .junk]) :=
      pure_wk hd1 (wk_tup2 (.refl _) (.junk _)) (pure_tup2 (pure_agg2 (.bool _) .nils) .junk)
    cases hZ2 with
    | nils h0 => exact absurd (enc_nil.1 h0) (by decide)
    | vs c2 =>
      have h := make_div (.vs (l := []) c) (.nils (l := []) rfl) (by omega) hge (fun e => h1 (by rw [← enc_val d, e]; rfl)) hG hd1' hd2
      exact pure_wk h (wk_agg4 (.refl _) (.refl _) (.refl _) (.vs _ _)) hp

theorem mul_zero {p q : Rat} {x y : AV} {k l : Nat} (hx : NumV p x) (hy : NumV q y) (hp : Sz k p) (hq : Sz l q) (hk : k + l < 10000000000) (h0 : p.num * q.num = 0) :
    PureSem Tryz.prog 98 [x, y] (zeroR (p.den * q.den)) := by
  obtain ⟨X, cu, hX, rfl, nX, dX⟩ := num_whole hx
  obtain ⟨Y, cv, hY, rfl, nY, dY⟩ := num_whole hy
  obtain ⟨p1, p2⟩ := hp
  obtain ⟨q1, q2⟩ := hq
  obtain ⟨c1, h1⟩ := mul_whole nX nY (by omega) (by omega)
  obtain ⟨c2, h2⟩ := mul_whole dX dY (by show (enc p.den).length < _; omega) (by show (enc q.den).length < _; omega)
  have e2 := enc_mul_len p.den q.den
  rw [h0] at h1
  rw [← Int.natCast_mul, wholeR_pos] at h2
  have h3 := make_zero (d := p.den * q.den) (c := c1) (cy := c2) (Nat.mul_pos p.den_pos q.den_pos) (by omega)
  exact mul_walk (l3 := []) (w3 := [1]) (c3 := none) (sz := false) hX hY (zero_mag (p.den * q.den)) h1 h2 h3

theorem add_zero {p q : Rat} {x y : AV} {k l : Nat} (hx : NumV p x) (hy : NumV q y) (hp : Sz k p) (hq : Sz l q) (hk : k + l + 1 < 10000000000) (h0 : p.num * (q.den : Int) + q.num * (p.den : Int) = 0) :
    PureSem Tryz.prog 86 [x, y] (zeroR (p.den * q.den)) := by
  obtain ⟨X, cu, hX, rfl, nX, dX⟩ := num_whole hx
  obtain ⟨Y, cv, hY, rfl, nY, dY⟩ := num_whole hy
  obtain ⟨p1, p2⟩ := hp
  obtain ⟨q1, q2⟩ := hq
  have lp : (enc (p.den : Int).natAbs).length ≤ k := p2
  have lq : (enc (q.den : Int).natAbs).length ≤ l := q2
  obtain ⟨c1, h1⟩ := mul_whole nX dY (by omega) (by omega)
  obtain ⟨c2, h2⟩ := mul_whole nY dX (by omega) (by omega)
  have e1 : (enc (p.num * (q.den : Int)).natAbs).length ≤ k + l := by rw [Int.natAbs_mul]; have := enc_mul_len p.num.natAbs (q.den : Int).natAbs; omega
  have e2 : (enc (q.num * (p.den : Int)).natAbs).length ≤ k + l := by rw [Int.natAbs_mul]; have := enc_mul_len q.num.natAbs (p.den : Int).natAbs; omega
  have e4 := enc_mul_len p.den q.den
  obtain ⟨c3, h3⟩ := add_whole (wholeR_V (p.num * (q.den : Int)) c1) (wholeR_V (q.num * (p.den : Int)) c2) (by omega) (by omega)
  obtain ⟨c4, h4⟩ := mul_whole dX dY (by omega) (by omega)
  rw [h0] at h3
  rw [← Int.natCast_mul, wholeR_pos] at h4
  have h5 := make_zero (d := p.den * q.den) (c := c3) (cy := c4) (Nat.mul_pos p.den_pos q.den_pos) (by omega)
  exact addn_walk (l3 := []) (w5 := [1]) (c5 := none) (sz := false) hX hY (zero_mag (p.den * q.den)) h1 h2 h3 h4 h5
end
end Go.Abs
