/-
  Steps to a law of this program: SEx16, SEx17, SEx18.
  Conditions: none.
-/
import Derived.Test.YtcgnfpojjjkakaaGreatDoorB31
import Derived.Test.YtcgnfpojjjkakaaGreatDoorB20
set_option linter.unusedVariables false
set_option linter.unusedSimpArgs false
set_option linter.unusedSectionVars false
namespace Go.Abs
noncomputable section
open Go.Proofs

def nofz : List (Option Blk) → Bool
  | [] => true
  | some (.rows _ _ true) :: _ => false
  | _ :: l => nofz l
theorem nofz_ok : ∀ {l : List (Option Blk)} {lp : List (Option ALoop)}, nofz l = true → ∀ (b : Nat) (rs : List (List AV)) (g fz : Bool), (Heap.mk l lp).blk? b = some (.rows rs g fz) → fz = false
  | [], _, _, b, rs, g, fz, h => by simp [Heap.blk?] at h
  | x :: l, lp, hn, b, rs, g, fz, h => by
    cases b with
    | zero =>
      have e : x = some (.rows rs g fz) := by simpa [Heap.blk?] using h
      subst e
      cases fz with
      | true => cases hn
      | false => rfl
    | succ b =>
      have e : (Heap.mk l lp).blk? b = some (.rows rs g fz) := by simpa [Heap.blk?] using h
      refine nofz_ok (l := l) (lp := lp) ?_ b rs g fz e
      unfold nofz at hn
      split at hn
      · rename_i h; cases h
      · cases hn
      · rename_i h; cases h; exact hn

theorem callX_args [Bare] {P : Program} {g : FuncId} {args args' : List AV} {h : Heap} {K : AV → Heap → Prop} (e : args = args') (hc : CallX P g args' h K) : CallX P g args h K := e ▸ hc

theorem min_cast (a b : Nat) : min (a : Int) (b : Int) = ((min a b : Nat) : Int) := by omega
theorem lose_pos {L o : List Nat} {s x : Nat} (oL : okL L) (oo : okL o) (hx : x < 1000000000) (h : loseB L s o x (o.length + 1) ≠ 0) : 0 < x := by
  have h1 := lose_val (L := L) (s := s) oo hx
  have h2 := val_lt (subS_ok (a := fun j => L.getD (s + j) 0) (b := digS (fun j => x * o.getD j 0)) (fun i => getD_lt oL _) (o.length + 1))
  rw [subS_length] at h2
  rcases Nat.eq_zero_or_pos x with h0 | h0
  · rw [h0] at h1 h2 h
    rw [Nat.zero_mul, Nat.add_zero] at h1
    have h3 : 1000000000 ^ (o.length + 1) * 1 ≤ 1000000000 ^ (o.length + 1) * loseB L s o 0 (o.length + 1) := Nat.mul_le_mul_left _ (by omega)
    omega
  · exact h0
theorem get_getD {l : List Nat} {i : Nat} (h : i < l.length) : l[i]? = some (l.getD i 0) := by simp [h]
theorem take_getD {l : List Nat} {i k : Nat} (h : i < k) (hl : i < l.length) : l[i]? = some ((l.take k).getD i 0) := by
  simp [List.getD_eq_getElem?_getD, List.getElem?_take_of_lt h, hl]

set_option maxHeartbeats 4000000 in
set_option maxRecDepth 100000 in
theorem divided_long {u v : List Nat} {X Y : AV} (hX : MagV u X) (hY : MagV v Y) (ou : okL u) (ov : okL v) (nv : Norm v) (h2 : 2 ≤ v.length) (hu : u.length < 1000000000000) (hc : ¬ cmpMag u v < 0) :
    PureSem Tryz.prog 156 [X, Y] (.tup [.vs (limbsV (limbsOf (u.length + 1 - v.length) (val u / val v))) (some (u.length + 1 - v.length)),
      .vs (limbsV (shortP (enc (val u * unitD v % (val v * unitD v))) (unitD v) 0)) (some (enc (val u * unitD v % (val v * unitD v))).length)]) := by
  have pX := hX.pure
  have pY := hY.pure
  have hcmp := compare_pure u v X Y hX hY (by omega)
  have hlen : v.length ≤ u.length := by
    unfold cmpMag at hc
    split at hc <;> omega
  have hn0 : v ≠ [] := by intro h; subst h; simp at h2
  have hd0 := unitD_pos ov
  have hd1 := unitD_lt ov nv hn0
  have htop : v.getD (v.length - 1) 0 < 1000000000 := getD_lt ov _
  have hs1 := scaled_call (unitD v) hX ou hu hd1
  have hs2 := scaled_call (unitD v) hY ov (by omega) hd1
  have hfit := unit_fits ov hn0
  have hbv := scaled_take hfit
  have hvp : 0 < val v := Nat.lt_of_lt_of_le (Nat.pow_pos (by omega)) (norm_ge nv hn0)
  have hRl : (enc (val u * unitD v % (val v * unitD v))).length ≤ v.length := enc_length_lt (Nat.lt_trans (Nat.mod_lt _ (Nat.mul_pos hvp hd0)) hfit)
  refine pure_of_call (pure2 pX pY) (pure_tup2 (pure_limbs _ _) (pure_limbs _ _)) (call_x exactT_ok mixed Tryz.func156 rfl (by decide +kernel) ?_)
  cases hX with
  | nils h0 => rw [h0] at hlen; exact absurd hlen (by rw [List.length_nil]; omega)
  | vs cx =>
  cases hY with
  | nils h0 => exact absurd h0 hn0
  | vs cy =>
  conv => whnf
  repeat ((first | refine callX_pure hcmp (pure2 pX pY) ?_ | refine condX_f (decide_eq_false hc) ?_ | refine lenX_eq (limbsV_length _) ?_ | refine condX_f (decide_eq_false (by omega)) ?_ | refine And.intro rfl ?_ | refine wrapX_i64 (by omega) ?_); conv => whnf)
  refine idx_limbs (v.length - 1) (by omega) (by omega) ?_
  conv => whnf
  have eg : v[v.length - 1]'(by omega) = v.getD (v.length - 1) 0 := by
    have h : v.length - 1 < v.length := by omega
    simp [h]
  rw [eg]
  generalize hg : v.getD (v.length - 1) 0 = w at *
  have hun : 1000000000 / (w + 1) = unitD v := by unfold unitD; rw [hg]
  repeat ((first | refine And.intro rfl ?_ | refine wrapX_u64 (by omega) ?_); conv => whnf)
  have hle : 1000000000 / (w + 1) ≤ 1000000000 := Nat.div_le_self _ _
  refine divX_nat 1000000000 (w + 1) rfl rfl (by omega) (IntWalk.u64_in _ (by omega)) ?_
  rw [hun]
  conv => whnf
  refine wrapX_nat (unitD v) rfl (IntWalk.u32_in _ (by omega)) ?_
  generalize unitD v = d at *
  clear hun hg
  conv => whnf
  refine Or.inl ⟨by decide +kernel, ?_⟩
  conv => whnf
  repeat ((first
    | refine ⟨_, _, fun K hK => (by (conv => whnf); first | exact hK | exact lenX_eq (limbsV_length _) hK), Or.inl ⟨rfl, (by repeat' (first | exact True.intro | refine And.intro ?_ ?_ | exact Or.inl (by decide +kernel) | exact Or.inr (fun K hK => (by (conv => whnf); first | exact hK | exact lenX_eq (limbsV_length _) hK)))), ?_⟩⟩
    | refine ⟨_, _, fun K hK => (by (conv => whnf); first | exact callX_of (call_new (nofz_ok rfl) (pure2 pX (.int _ _)) hs1 hK) | exact callX_of (call_new (nofz_ok rfl) (pure2 pY (.int _ _)) hs2 hK)), Or.inr ⟨(by repeat' (first | exact True.intro | refine And.intro ?_ ?_ | decide +kernel)), (by repeat' (first | exact True.intro | refine And.intro ?_ ?_ | exact Or.inl (by decide +kernel) | exact Or.inr (fun K hK => (by (conv => whnf); exact hK)))), ?_⟩⟩); conv => whnf)
  refine ⟨.ms 1 0 v.length (some (v.length + 1)), _, fun K hK => (by (conv => whnf); refine And.intro ⟨by omega, by omega, by omega⟩ ?_; (conv => whnf); refine And.intro limbsV_row ?_; (conv => whnf); exact Or.inl (And.intro (Or.inl rfl) hK)), Or.inl ⟨rfl, (by repeat' (first | exact True.intro | refine And.intro ?_ ?_ | exact Or.inl (by decide +kernel) | exact Or.inr (fun K hK => (by (conv => whnf); first | exact hK | exact lenX_eq (limbsV_length _) hK)))), ?_⟩⟩
  conv => whnf
  repeat ((first
    | refine ⟨_, _, fun K hK => (by (conv => whnf); first | exact hK | exact lenX_eq (limbsV_length _) hK), Or.inl ⟨rfl, (by repeat' (first | exact True.intro | refine And.intro ?_ ?_ | exact Or.inl (by decide +kernel) | exact Or.inr (fun K hK => (by (conv => whnf); first | exact hK | exact lenX_eq (limbsV_length _) hK)))), ?_⟩⟩); conv => whnf)
  repeat ((first | refine lenX_eq rfl ?_ | refine And.intro rfl ?_ | refine wrapX_i64 (by omega) ?_); conv => whnf)
  refine mkX_eq (n := u.length + 1 - v.length) (m := u.length + 1 - v.length) (by omega) (by omega) ⟨by omega, (show 4 * (u.length + 1 - v.length) ≤ 140737488355328 by omega), by omega⟩ ⟨by decide, rfl⟩ (limbsV_replicate _) ?_
  conv => whnf
  repeat ((first | refine lenX_eq rfl ?_ | refine And.intro rfl ?_ | refine wrapX_i64 (by omega) ?_); conv => whnf)
  obtain ⟨b, hb⟩ : ∃ b, b = (scaledL v d).take v.length := ⟨_, rfl⟩
  rw [← hb] at hbv
  have ob : okL b := by rw [hb]; exact okL_take (scaledL_ok ov hd1) _
  have hbl : b.length = v.length := by rw [hb, List.length_take, scaledL_length]; omega
  obtain ⟨n, hn⟩ : ∃ n, v.length = n + 2 := ⟨v.length - 2, by omega⟩
  have htb : 0 < b.getD (n + 1) 0 := top_pos ob (by omega) (by
    rw [hbv]
    have h1 := norm_ge nv hn0
    rw [hn] at h1
    exact Nat.le_trans h1 (Nat.le_mul_of_pos_right _ hd0))
  have hstart := DivI.start ou hd0 hd1 nv hn0 hlen hbv
  refine loop_p exactT_ok mixed 172 (fun p : Nat × Int × List Nat × List Nat => p.1)
    (fun p => p.2.1 = (p.1 : Int) - 1 ∧ DivI (val u * d) b p.1 p.2.2.1 p.2.2.2 ∧ p.2.2.1.length = u.length + 1 ∧ p.2.2.2.length = u.length + 1 - v.length ∧ p.1 ≤ u.length + 1 - v.length)
    (fun (i, z, L, Q) => [(8, .int .u32 (d : Int)), (9, .ms 0 0 (u.length + 1) (some (u.length + 1))), (10, .ms 1 0 v.length (some (v.length + 1))), (11, .int .i64 (v.length : Int)), (12, .ms 2 0 (u.length + 1 - v.length) (some (u.length + 1 - v.length))), (13, .int .i64 z)])
    (fun (i, z, L, Q) => ⟨[some (.rows (limbsV L) false false), some (.rows (limbsV (scaledL v d)) false false), some (.rows (limbsV Q) false false)], []⟩)
    ?_ (u.length + 1 - v.length, ((u.length + 1 : Nat) : Int) - (v.length : Int) - 1, scaledL u d, List.replicate (u.length + 1 - v.length) 0) _
    ⟨(by show ((u.length + 1 : Nat) : Int) - (v.length : Int) - 1 = ((u.length + 1 - v.length : Nat) : Int) - 1; omega), hstart, scaledL_length _ _, List.length_replicate, Nat.le_refl _⟩ rfl rfl ⟨rfl, rfl, rfl, rfl, rfl, rfl, trivial⟩
  rintro ⟨i, z, L, Q⟩ g ⟨hz, hI, hL, hQ, hi⟩
  replace hz : z = (i : Int) - 1 := hz
  replace hI : DivI (val u * d) b i L Q := hI
  replace hL : L.length = u.length + 1 := hL
  replace hQ : Q.length = u.length + 1 - v.length := hQ
  replace hi : i ≤ u.length + 1 - v.length := hi
  cases i with
  | zero =>
    obtain rfl : z = -1 := by omega
    conv => whnf
    refine condX_f (decide_eq_false (by omega)) ?_
    conv => whnf
    obtain ⟨hq, hr⟩ := hI.done ob (by omega)
    rw [hbl] at hr
    rw [hbv] at hq hr
    obtain ⟨us1, us2⟩ := unscale (a := val u) (b := val v) hd0
    rw [us1] at hq
    have hR0 : trim (L.take v.length) = enc (val u * d % (val v * d)) := by rw [trim_enc (okL_take hI.okl _), hr]
    obtain ⟨c', hw⟩ := whole_pure false (L.take v.length) (some (u.length + 1)) (by rw [List.length_take]; omega)
    rw [hR0] at hw
    have hsh := short_pure d (.vs (l := enc (val u * d % (val v * d))) c') (enc_ok _) (by omega) hd0 hd1
    have hQe : Q = limbsOf (u.length + 1 - v.length) (val u / val v) := by rw [← hq, ← hQ]; exact limbsOf_eq Q hI.okq
    generalize enc (val u * d % (val v * d)) = R0 at *
    refine And.intro ⟨by omega, by omega, by omega⟩ ?_
    conv => whnf
    refine And.intro limbsV_row ?_
    conv => whnf
    refine Or.inl (And.intro (Or.inl rfl) ?_)
    conv => whnf
    refine callX_of (call_freeze 0 rfl (call_frz (.cons _ _ _ _ (.pure _ (.bool _)) (.cons _ _ _ _ (frzT_limbs (len := v.length) rfl (by omega) (by show List.take v.length (List.drop 0 L) = _; rw [List.drop_zero])) .nil)) hw ?_))
    conv => whnf
    repeat ((first | refine callX_pure hsh (pure2 (pure_limbs _ _) (.int _ _)) ?_ | refine And.intro rfl ?_); conv => whnf)
    exact frz_tup2 (frz_limbs rfl (by omega) (by rw [List.drop_zero, List.take_of_length_le (by omega)]; exact hQe)) (.pure _ (pure_limbs _ _))
  | succ s =>
    obtain rfl : z = (s : Int) := by omega
    conv => whnf
    refine condX_t (decide_eq_true (by omega)) ?_
    conv => whnf
    obtain ⟨T, hT⟩ : ∃ T, T = L.getD (s + (n + 2)) 0 * 1000000000 + L.getD (s + (n + 1)) 0 := ⟨_, rfl⟩
    obtain ⟨x1, hx1⟩ : ∃ x, x = L.getD (s + (n + 2)) 0 := ⟨_, rfl⟩
    obtain ⟨x2, hx2⟩ : ∃ x, x = L.getD (s + (n + 1)) 0 := ⟨_, rfl⟩
    obtain ⟨x3, hx3⟩ : ∃ x, x = L.getD (s + n) 0 := ⟨_, rfl⟩
    obtain ⟨bt, hbt⟩ : ∃ x, x = b.getD (n + 1) 0 := ⟨_, rfl⟩
    obtain ⟨b1, hb1⟩ : ∃ x, x = b.getD n 0 := ⟨_, rfl⟩
    have oL := hI.okl
    have lx1 : x1 < 1000000000 := by rw [hx1]; exact getD_lt oL _
    have lx2 : x2 < 1000000000 := by rw [hx2]; exact getD_lt oL _
    have lx3 : x3 < 1000000000 := by rw [hx3]; exact getD_lt oL _
    have lbt : bt < 1000000000 := by rw [hbt]; exact getD_lt ob _
    have lb1 : b1 < 1000000000 := by rw [hb1]; exact getD_lt ob _
    have gx1 : L[0 + (s + (n + 2))]? = some x1 := by rw [hx1, Nat.zero_add]; exact get_getD (by omega)
    have gx2 : L[0 + (s + (n + 1))]? = some x2 := by rw [hx2, Nat.zero_add]; exact get_getD (by omega)
    have gx3 : L[0 + (s + n)]? = some x3 := by rw [hx3, Nat.zero_add]; exact get_getD (by omega)
    have gbt : (scaledL v d)[0 + (n + 1)]? = some bt := by rw [hbt, Nat.zero_add, hb]; exact take_getD (by omega) (by rw [scaledL_length]; omega)
    have gb1 : (scaledL v d)[0 + n]? = some b1 := by rw [hb1, Nat.zero_add, hb]; exact take_getD (by omega) (by rw [scaledL_length]; omega)
    have hsl : (scaledL v d).length = v.length + 1 := scaledL_length _ _
    have hG0 := round_first hI ob (by omega) (by omega) htb
    have hGl := fun g => round_lower (g := g) hI ob (n := n) (by omega) (by omega)
    have hGs := fun g => round_stays (g := g) hI ob (n := n) (by omega) (by omega) htb
    rw [← hx1, ← hx2] at hT
    rw [← hx1, ← hx2, ← hbt, ← hT] at hG0
    simp only [← hx1, ← hx2, ← hx3, ← hbt, ← hb1, ← hT] at hGl hGs
    rw [← hbt] at htb
    refine Or.inl ⟨by decide +kernel, ?_⟩
    conv => whnf
    repeat ((first
      | refine ⟨_, _, fun K hK => (by (conv => whnf); first | exact hK | exact idm_limbs (s + (n + 2)) (by omega) (by omega) (by omega) hK | exact idm_limbs (s + (n + 1)) (by omega) (by omega) (by omega) hK | exact ld_limbs (x := x1) gx1 rfl hK | exact ld_limbs (x := x2) gx2 rfl hK | exact wrapX_u64 (by omega) hK | exact And.intro rfl (wrapX_i64 (by omega) hK) | exact And.intro rfl (wrapX_nat T (by omega) (IntWalk.u64_in _ (by omega)) hK) | exact And.intro rfl (wrapX_u64 (by omega) hK)), Or.inl ⟨rfl, True.intro, ?_⟩⟩); conv => whnf)
    refine And.intro rfl (wrapX_i64 (by omega) ?_)
    conv => whnf
    refine idm_limbs (n + 1) (by omega) (by omega) (by omega) ?_
    conv => whnf
    refine ld_limbs (x := bt) gbt rfl ?_
    conv => whnf
    refine wrapX_u64 (by omega) ?_
    conv => whnf
    refine And.intro rfl (divX_nat T bt rfl rfl (by omega) (IntWalk.u64_in _ (by have h := Nat.div_le_self T bt; revert h; generalize T / bt = q; intro h; omega)) ?_)
    conv => whnf
    refine And.intro rfl ?_
    conv => whnf
    refine loop_p exactT_ok mixed 172 (fun g : Nat => g) (fun g => Guess (val (L.drop s)) (val b) T bt g)
      (fun g => [(8, .int .u32 (d : Int)), (9, .ms 0 0 (u.length + 1) (some (u.length + 1))), (10, .ms 1 0 v.length (some (v.length + 1))), (11, .int .i64 (v.length : Int)), (12, .ms 2 0 (u.length + 1 - v.length) (some (u.length + 1 - v.length))), (13, .int .i64 (s : Int)), (14, .int .u64 (T : Int)), (15, .int .u64 (g : Int))])
      (fun _ => ⟨[some (.rows (limbsV L) false false), some (.rows (limbsV (scaledL v d)) false false), some (.rows (limbsV Q) false false)], []⟩)
      ?_ (min (T / bt) 999999999) _ hG0 rfl rfl ⟨rfl, rfl, rfl, rfl, rfl, rfl, rfl, congrArg (fun z : Int => some (AV.int .u64 z)) (min_cast _ _), trivial⟩
    rintro x g2 hx
    obtain ⟨p, hp⟩ : ∃ p, p = x * b1 := ⟨_, rfl⟩
    obtain ⟨q, hq⟩ : ∃ q, q = x * bt := ⟨_, rfl⟩
    have hle := hx.le
    have hrest := hx.rest
    have hxlt := hx.lt
    have hGl' := hGl x hx
    have hGs' := hGs x hx
    have hpb : p ≤ 999999999 * 999999999 := by rw [hp]; exact Nat.mul_le_mul (by omega) (by omega)
    rw [← hq] at hle hrest
    rw [← hp, ← hq] at hGl' hGs'
    obtain ⟨r, hr⟩ : ∃ r, r = T - q := ⟨_, rfl⟩
    rw [← hr] at hrest hGl' hGs'
    conv => whnf
    refine Or.inl ⟨by decide +kernel, ?_⟩
    conv => whnf
    repeat ((first
      | refine ⟨_, _, fun K hK => (by (conv => whnf); first | exact hK | exact idm_limbs n (by omega) (by omega) (by omega) hK | exact idm_limbs (n + 1) (by omega) (by omega) (by omega) hK | exact idm_limbs (s + n) (by omega) (by omega) (by omega) hK | exact ld_limbs (x := b1) gb1 rfl hK | exact ld_limbs (x := bt) gbt rfl hK | exact ld_limbs (x := x3) gx3 rfl hK | exact wrapX_u64 (by omega) hK | exact And.intro rfl (wrapX_i64 (by omega) hK) | exact And.intro rfl (wrapX_nat p (by rw [hp]; exact (Int.natCast_mul _ _).symm) (IntWalk.u64_in _ (by omega)) hK) | exact And.intro rfl (wrapX_nat q (by rw [hq]; exact (Int.natCast_mul _ _).symm) (IntWalk.u64_in _ (by omega)) hK) | exact And.intro rfl (wrapX_nat r (by omega) (IntWalk.u64_in _ (by omega)) hK) | exact And.intro rfl (wrapX_u64 (by omega) hK)), Or.inl ⟨rfl, True.intro, ?_⟩⟩); conv => whnf)
    by_cases hgt : r * 1000000000 + x3 < p
    · repeat ((first
        | refine condX_t (beq_iff_eq.2 (decide_eq_true (by omega))) ?_
        | refine ⟨_, _, fun K hK => (by (conv => whnf); first | exact hK | exact idm_limbs n (by omega) (by omega) (by omega) hK | exact idm_limbs (n + 1) (by omega) (by omega) (by omega) hK | exact ld_limbs (x := bt) gbt rfl hK | exact wrapX_u64 (by omega) hK | exact And.intro rfl (wrapX_i64 (by omega) hK) | exact And.intro rfl (wrapX_nat q (by rw [hq]; exact (Int.natCast_mul _ _).symm) (IntWalk.u64_in _ (by omega)) hK) | exact And.intro rfl (wrapX_nat r (by omega) (IntWalk.u64_in _ (by omega)) hK)), Or.inl ⟨rfl, True.intro, ?_⟩⟩); conv => whnf)
      refine ⟨_, _, fun K hK => (by (conv => whnf); exact condX_t (decide_eq_true (by omega)) hK), Or.inl ⟨rfl, True.intro, ?_⟩⟩
      conv => whnf
      by_cases hlt : r < 1000000000
      · refine condX_t (decide_eq_true (by omega)) ?_
        conv => whnf
        obtain ⟨hx0, hxg⟩ := hGl' hgt hlt
        refine And.intro rfl (wrapX_nat (x - 1) (by omega) (IntWalk.u64_in _ (by omega)) ?_)
        conv => whnf
        exact ⟨x - 1, by omega, hxg, rfl, rfl, rfl, rfl, rfl, rfl, rfl, rfl, rfl, rfl, trivial⟩
      · refine condX_f (decide_eq_false (by omega)) ?_
        have hnot : ¬ (r * 1000000000 + x3 < p ∧ r < 1000000000) := by omega
        have hnot' := hGs' hnot
        obtain ⟨hI', hL', hQ'⟩ := hI.step ob (by rw [hbv]; exact Nat.mul_pos hvp hd0) (by omega) (by omega) hxlt hx.ge hnot'
        have hlo := lose2_call (L := L) (o := b) (O := scaledL v d) (capo := some (u.length + 1 - s)) (c := some (v.length + 1)) s (u.length + 1 - s) x (by rw [hbl]; exact hb.symm) oL ob hxlt (by omega) (by omega) (by omega)
        rw [hbl] at hlo
        have hLl : (loseP L s b x (v.length + 1)).length = L.length := loseP_length (by omega)
        conv => whnf
        refine And.intro ⟨by omega, by omega, by omega⟩ ?_
        conv => whnf
        refine And.intro limbsV_row ?_
        conv => whnf
        refine Or.inl (And.intro (Or.inr (by omega)) ?_)
        conv => whnf
        refine callX_args (args' := [.ms 0 s (u.length + 1 - s) (some (u.length + 1 - s)), .ms 1 0 v.length (some (v.length + 1)), .int .u64 (x : Int)]) (by rw [show 0 + Int.toNat ((s : Nat) : Int) = s by omega]; rfl) ?_
        refine callX_of (call_put2 (B := 0) (D := 1) rfl (show 0 < 3 by omega) rfl (show 1 < 3 by omega) (by omega) (nofz_ok rfl) (pure1 (.int _ _)) hlo (.bool _) ?_)
        conv => whnf
        by_cases hB : loseB L s b x (v.length + 1) = 0
        · refine condX_f (decide_eq_false (by omega)) ?_
          have eQ : divQ L s b x = x := by unfold divQ; rw [hbl, if_pos hB]
          have eL : divL L s b x = loseP L s b x (v.length + 1) := by unfold divL; rw [hbl, if_pos hB]
          conv => whnf
          refine wrapX_nat (divQ L s b x) (by rw [eQ]) (IntWalk.u32_in _ (by omega)) ?_
          conv => whnf
          refine idm_limbs s rfl (by omega) (by omega) ?_
          conv => whnf
          refine st_limbs (d := divQ L s b x) (by omega) rfl ?_
          conv => whnf
          refine And.intro rfl (wrapX_i64 (by omega) ?_)
          conv => whnf
          refine ⟨(s, (s : Int) - 1, divL L s b x, Q.set s (divQ L s b x)), ?_, ⟨rfl, hI', ?_, ?_, ?_⟩, ?_, rfl, rfl, rfl, rfl, rfl, rfl, rfl, trivial⟩
          · show s < s + 1
            omega
          · show (divL L s b x).length = _
            omega
          · show (Q.set s (divQ L s b x)).length = _
            rw [List.length_set]; exact hQ
          · show s ≤ _
            omega
          · show Heap.mk [some (.rows (limbsV _) false false), _, some (.rows (limbsV (Q.set (0 + s) (divQ L s b x))) false false)] [] = Heap.mk [some (.rows (limbsV (divL L s b x)) false false), _, some (.rows (limbsV (Q.set s (divQ L s b x))) false false)] []
            rw [eL, Nat.zero_add]
        · refine condX_t (decide_eq_true (by omega)) ?_
          have hx1 : 0 < x := lose_pos oL ob hxlt (by rw [hbl]; exact hB)
          have eQ : divQ L s b x = x - 1 := by unfold divQ; rw [hbl, if_neg hB]
          have eL : divL L s b x = gainP (loseP L s b x (v.length + 1)) s b (v.length + 1) := by unfold divL; rw [hbl, if_neg hB]
          have hga := gain2_call (L := loseP L s b x (v.length + 1)) (o := b) (O := scaledL v d) (capo := some (u.length + 1 - s)) (c := some (v.length + 1)) s (u.length + 1 - s) (by rw [hbl]; exact hb.symm) (loseP_ok oL) ob (by omega) (by omega) (by omega)
          rw [hbl] at hga
          conv => whnf
          refine And.intro rfl (wrapX_nat (x - 1) (by omega) (IntWalk.u64_in _ (by omega)) ?_)
          conv => whnf
          refine And.intro ⟨by omega, by omega, by omega⟩ ?_
          conv => whnf
          refine And.intro limbsV_row ?_
          conv => whnf
          refine Or.inl (And.intro (Or.inr (by omega)) ?_)
          conv => whnf
          refine callX_args (args' := [.ms 0 s (u.length + 1 - s) (some (u.length + 1 - s)), .ms 1 0 v.length (some (v.length + 1))]) (by rw [show 0 + Int.toNat ((s : Nat) : Int) = s by omega]; rfl) ?_
          refine callX_of (call_put2 (B := 0) (D := 1) rfl (show 0 < 3 by omega) rfl (show 1 < 3 by omega) (by omega) (nofz_ok rfl) (fun x hx => absurd hx List.not_mem_nil) hga (.tup _ (fun i hi => absurd hi (Nat.not_lt_zero _))) ?_)
          conv => whnf
          refine wrapX_nat (divQ L s b x) (by rw [eQ]) (IntWalk.u32_in _ (by omega)) ?_
          conv => whnf
          refine idm_limbs s rfl (by omega) (by omega) ?_
          conv => whnf
          refine st_limbs (d := divQ L s b x) (by omega) rfl ?_
          conv => whnf
          refine And.intro rfl (wrapX_i64 (by omega) ?_)
          conv => whnf
          refine ⟨(s, (s : Int) - 1, divL L s b x, Q.set s (divQ L s b x)), ?_, ⟨rfl, hI', ?_, ?_, ?_⟩, ?_, rfl, rfl, rfl, rfl, rfl, rfl, rfl, trivial⟩
          · show s < s + 1
            omega
          · show (divL L s b x).length = _
            omega
          · show (Q.set s (divQ L s b x)).length = _
            rw [List.length_set]; exact hQ
          · show s ≤ _
            omega
          · show Heap.mk [some (.rows (limbsV _) false false), _, some (.rows (limbsV (Q.set (0 + s) (divQ L s b x))) false false)] [] = Heap.mk [some (.rows (limbsV (divL L s b x)) false false), _, some (.rows (limbsV (Q.set s (divQ L s b x))) false false)] []
            rw [eL, Nat.zero_add]
    · repeat ((first
        | refine condX_f (by rw [decide_eq_false (by omega)]; rfl) ?_
        | refine ⟨_, _, fun K hK => (by (conv => whnf); exact condX_f (decide_eq_false (by omega)) hK), Or.inl ⟨rfl, True.intro, ?_⟩⟩); conv => whnf)
      have hnot : ¬ (r * 1000000000 + x3 < p ∧ r < 1000000000) := by omega
      refine condX_false ?_
      have hnot' := hGs' hnot
      obtain ⟨hI', hL', hQ'⟩ := hI.step ob (by rw [hbv]; exact Nat.mul_pos hvp hd0) (by omega) (by omega) hxlt hx.ge hnot'
      have hlo := lose2_call (L := L) (o := b) (O := scaledL v d) (capo := some (u.length + 1 - s)) (c := some (v.length + 1)) s (u.length + 1 - s) x (by rw [hbl]; exact hb.symm) oL ob hxlt (by omega) (by omega) (by omega)
      rw [hbl] at hlo
      have hLl : (loseP L s b x (v.length + 1)).length = L.length := loseP_length (by omega)
      conv => whnf
      refine And.intro ⟨by omega, by omega, by omega⟩ ?_
      conv => whnf
      refine And.intro limbsV_row ?_
      conv => whnf
      refine Or.inl (And.intro (Or.inr (by omega)) ?_)
      conv => whnf
      refine callX_args (args' := [.ms 0 s (u.length + 1 - s) (some (u.length + 1 - s)), .ms 1 0 v.length (some (v.length + 1)), .int .u64 (x : Int)]) (by rw [show 0 + Int.toNat ((s : Nat) : Int) = s by omega]; rfl) ?_
      refine callX_of (call_put2 (B := 0) (D := 1) rfl (show 0 < 3 by omega) rfl (show 1 < 3 by omega) (by omega) (nofz_ok rfl) (pure1 (.int _ _)) hlo (.bool _) ?_)
      conv => whnf
      by_cases hB : loseB L s b x (v.length + 1) = 0
      · refine condX_f (decide_eq_false (by omega)) ?_
        have eQ : divQ L s b x = x := by unfold divQ; rw [hbl, if_pos hB]
        have eL : divL L s b x = loseP L s b x (v.length + 1) := by unfold divL; rw [hbl, if_pos hB]
        conv => whnf
        refine wrapX_nat (divQ L s b x) (by rw [eQ]) (IntWalk.u32_in _ (by omega)) ?_
        conv => whnf
        refine idm_limbs s rfl (by omega) (by omega) ?_
        conv => whnf
        refine st_limbs (d := divQ L s b x) (by omega) rfl ?_
        conv => whnf
        refine And.intro rfl (wrapX_i64 (by omega) ?_)
        conv => whnf
        refine ⟨(s, (s : Int) - 1, divL L s b x, Q.set s (divQ L s b x)), ?_, ⟨rfl, hI', ?_, ?_, ?_⟩, ?_, rfl, rfl, rfl, rfl, rfl, rfl, rfl, trivial⟩
        · show s < s + 1
          omega
        · show (divL L s b x).length = _
          omega
        · show (Q.set s (divQ L s b x)).length = _
          rw [List.length_set]; exact hQ
        · show s ≤ _
          omega
        · show Heap.mk [some (.rows (limbsV _) false false), _, some (.rows (limbsV (Q.set (0 + s) (divQ L s b x))) false false)] [] = Heap.mk [some (.rows (limbsV (divL L s b x)) false false), _, some (.rows (limbsV (Q.set s (divQ L s b x))) false false)] []
          rw [eL, Nat.zero_add]
      · refine condX_t (decide_eq_true (by omega)) ?_
        have hx1 : 0 < x := lose_pos oL ob hxlt (by rw [hbl]; exact hB)
        have eQ : divQ L s b x = x - 1 := by unfold divQ; rw [hbl, if_neg hB]
        have eL : divL L s b x = gainP (loseP L s b x (v.length + 1)) s b (v.length + 1) := by unfold divL; rw [hbl, if_neg hB]
        have hga := gain2_call (L := loseP L s b x (v.length + 1)) (o := b) (O := scaledL v d) (capo := some (u.length + 1 - s)) (c := some (v.length + 1)) s (u.length + 1 - s) (by rw [hbl]; exact hb.symm) (loseP_ok oL) ob (by omega) (by omega) (by omega)
        rw [hbl] at hga
        conv => whnf
        refine And.intro rfl (wrapX_nat (x - 1) (by omega) (IntWalk.u64_in _ (by omega)) ?_)
        conv => whnf
        refine And.intro ⟨by omega, by omega, by omega⟩ ?_
        conv => whnf
        refine And.intro limbsV_row ?_
        conv => whnf
        refine Or.inl (And.intro (Or.inr (by omega)) ?_)
        conv => whnf
        refine callX_args (args' := [.ms 0 s (u.length + 1 - s) (some (u.length + 1 - s)), .ms 1 0 v.length (some (v.length + 1))]) (by rw [show 0 + Int.toNat ((s : Nat) : Int) = s by omega]; rfl) ?_
        refine callX_of (call_put2 (B := 0) (D := 1) rfl (show 0 < 3 by omega) rfl (show 1 < 3 by omega) (by omega) (nofz_ok rfl) (fun x hx => absurd hx List.not_mem_nil) hga (.tup _ (fun i hi => absurd hi (Nat.not_lt_zero _))) ?_)
        conv => whnf
        refine wrapX_nat (divQ L s b x) (by rw [eQ]) (IntWalk.u32_in _ (by omega)) ?_
        conv => whnf
        refine idm_limbs s rfl (by omega) (by omega) ?_
        conv => whnf
        refine st_limbs (d := divQ L s b x) (by omega) rfl ?_
        conv => whnf
        refine And.intro rfl (wrapX_i64 (by omega) ?_)
        conv => whnf
        refine ⟨(s, (s : Int) - 1, divL L s b x, Q.set s (divQ L s b x)), ?_, ⟨rfl, hI', ?_, ?_, ?_⟩, ?_, rfl, rfl, rfl, rfl, rfl, rfl, rfl, trivial⟩
        · show s < s + 1
          omega
        · show (divL L s b x).length = _
          omega
        · show (Q.set s (divQ L s b x)).length = _
          rw [List.length_set]; exact hQ
        · show s ≤ _
          omega
        · show Heap.mk [some (.rows (limbsV _) false false), _, some (.rows (limbsV (Q.set (0 + s) (divQ L s b x))) false false)] [] = Heap.mk [some (.rows (limbsV (divL L s b x)) false false), _, some (.rows (limbsV (Q.set s (divQ L s b x))) false false)] []
          rw [eL, Nat.zero_add]
end
end Go.Abs

namespace Go.Abs
noncomputable section
open Go.Proofs

inductive DivS : AV → AV → AV → AV → AV → Prop where
  | nn : DivS .nils .nils .nils .nils .nils
  | nv (l m : List Nat) (c c' : Option Nat) : DivS (.vs (limbsV l) c) .nils (.vs (limbsV l) c) .nils (.vs (limbsV m) c')
  | vv (l q r q' r' : List Nat) (c cq cr cq' cr' : Option Nat) : DivS (.vs (limbsV l) c) (.vs (limbsV q) cq) (.vs (limbsV r) cr) (.vs (limbsV q') cq') (.vs (limbsV r') cr')

theorem DivS.pure {X Q R Zq Zr : AV} (h : DivS X Q R Zq Zr) : Pure X ∧ Pure Q ∧ Pure R ∧ Pure Zq ∧ Pure Zr := by
  cases h
  · exact ⟨.nils, .nils, .nils, .nils, .nils⟩
  · exact ⟨pure_limbs _ _, .nils, pure_limbs _ _, .nils, pure_limbs _ _⟩
  · exact ⟨pure_limbs _ _, pure_limbs _ _, pure_limbs _ _, pure_limbs _ _, pure_limbs _ _⟩

set_option maxHeartbeats 4000000 in
set_option maxRecDepth 100000 in
theorem div_walk {X Q R Zq Zr : AV} {v : List Nat} {cy : Option Nat} {sa sb b1 b2 : Bool} {z : Int} (hS : DivS X Q R Zq Zr)
    (hd : PureSem Tryz.prog 156 [X, .vs (limbsV v) cy] (.tup [Q, R]))
    (hw1 : PureSem Tryz.prog 115 [.bool (sa != sb), Q] (.agg [.bool b1, Zq]))
    (hw2 : PureSem Tryz.prog 115 [.bool sa, R] (.agg [.bool b2, Zr]))
    (hsg : PureSem Tryz.prog 105 [.agg [.bool b2, Zr]] (.int .i64 z)) (hz : z = 0 ∨ (z ≠ 0 ∧ sa = sb)) :
    PureSem Tryz.prog 155 [.agg [.bool sa, X], .agg [.bool sb, .vs (limbsV v) cy]] (.tup [.agg [.bool b1, Zq], .agg [.bool b2, Zr]]) := by
  obtain ⟨pX, pQ, pR, pZq, pZr⟩ := hS.pure
  have pY := pure_limbs v cy
  refine pure_of_call (pure2 (pure_agg2 (.bool _) pX) (pure_agg2 (.bool _) pY)) (pure_tup2 (pure_agg2 (.bool _) pZq) (pure_agg2 (.bool _) pZr)) (call_x exactT_ok mixed Tryz.func155 rfl (by decide +kernel) ?_)
  cases hS
  all_goals
    conv => whnf
    repeat ((first | refine ⟨⟨rfl, by decide, rfl⟩, ?_⟩ | refine ⟨⟨by decide, rfl⟩, ?_⟩ | refine ldX_eq rfl ?_ | refine callX_pure hd (pure2 pX pY) ?_ | refine And.intro rfl ?_); conv => whnf)
    refine Or.inr (region_two exactT_ok mixed 11 12 (by omega) (by decide +kernel) (by decide +kernel) (by decide +kernel) ?_ ?_)
    all_goals
      conv => whnf
      repeat ((first
        | refine ⟨_, _, fun K hK => (by (conv => whnf); first | exact hK | exact ldX_eq rfl hK | exact callX_pure hw1 (pure2 (.bool _) pQ) hK | exact callX_pure hw2 (pure2 (.bool _) pR) hK | (refine stX_box rfl ?_; (conv => whnf); exact hK) | (refine ⟨⟨by decide, rfl⟩, ?_⟩; (conv => whnf); exact hK) | (refine Or.inl ?_; (conv => whnf); exact hK)), Or.inl ⟨rfl, (by repeat' (first | exact True.intro | refine And.intro ?_ ?_ | exact Or.inl (by decide +kernel) | decide +kernel | exact Or.inr (fun K hK => (by (conv => whnf); first | exact hK | exact ldX_eq rfl hK | exact callX_pure hw1 (pure2 (.bool _) pQ) hK | exact callX_pure hw2 (pure2 (.bool _) pR) hK | (refine stX_box rfl ?_; (conv => whnf); exact hK) | (refine ⟨⟨by decide, rfl⟩, ?_⟩; (conv => whnf); exact hK) | (refine Or.inl ?_; (conv => whnf); exact hK))))), ?_⟩⟩
        | refine ⟨_, _, fun K hK => (by (conv => whnf); first | exact hK | exact ldX_eq rfl hK | exact callX_pure hw1 (pure2 (.bool _) pQ) hK | exact callX_pure hw2 (pure2 (.bool _) pR) hK | (refine stX_box rfl ?_; (conv => whnf); exact hK) | (refine ⟨⟨by decide, rfl⟩, ?_⟩; (conv => whnf); exact hK) | (refine Or.inl ?_; (conv => whnf); exact hK)), Or.inr ⟨(by repeat' (first | exact True.intro | refine And.intro ?_ ?_ | exact Or.inl (by decide +kernel) | decide +kernel | exact Or.inr (fun K hK => (by (conv => whnf); first | exact hK | exact ldX_eq rfl hK | exact callX_pure hw1 (pure2 (.bool _) pQ) hK | exact callX_pure hw2 (pure2 (.bool _) pR) hK | (refine stX_box rfl ?_; (conv => whnf); exact hK) | (refine ⟨⟨by decide, rfl⟩, ?_⟩; (conv => whnf); exact hK) | (refine Or.inl ?_; (conv => whnf); exact hK))))), (by repeat' (first | exact True.intro | refine And.intro ?_ ?_ | exact Or.inl (by decide +kernel) | decide +kernel | exact Or.inr (fun K hK => (by (conv => whnf); first | exact hK | exact ldX_eq rfl hK | exact callX_pure hw1 (pure2 (.bool _) pQ) hK | exact callX_pure hw2 (pure2 (.bool _) pR) hK | (refine stX_box rfl ?_; (conv => whnf); exact hK) | (refine ⟨⟨by decide, rfl⟩, ?_⟩; (conv => whnf); exact hK) | (refine Or.inl ?_; (conv => whnf); exact hK))))), ?_⟩⟩); conv => whnf)
      repeat ((first | refine ldX_eq rfl ?_ | refine callX_pure hsg (pure1 (pure_agg2 (.bool _) pZr)) ?_ | refine Or.inl ?_); conv => whnf)
      rcases hz with rfl | ⟨hz, rfl⟩
      · repeat ((first | refine condX_f rfl ?_ | refine condX_false ?_ | refine Or.inl ?_ | refine And.intro (by decide +kernel) ?_); conv => whnf)
        repeat ((first
          | refine ⟨_, _, fun K hK => (by (conv => whnf); first | exact hK | exact ldX_eq rfl hK | (refine stX_box rfl ?_; (conv => whnf); exact hK)), Or.inl ⟨rfl, (by repeat' (first | exact True.intro | refine And.intro ?_ ?_ | exact Or.inl (by decide +kernel) | decide +kernel | exact Or.inr (fun K hK => (by (conv => whnf); first | exact hK | exact ldX_eq rfl hK | (refine stX_box rfl ?_; (conv => whnf); exact hK))))), ?_⟩⟩
          | refine ⟨_, _, fun K hK => (by (conv => whnf); first | exact hK | exact ldX_eq rfl hK | (refine stX_box rfl ?_; (conv => whnf); exact hK)), Or.inr ⟨(by repeat' (first | exact True.intro | refine And.intro ?_ ?_ | exact Or.inl (by decide +kernel) | decide +kernel | exact Or.inr (fun K hK => (by (conv => whnf); first | exact hK | exact ldX_eq rfl hK | (refine stX_box rfl ?_; (conv => whnf); exact hK))))), (by repeat' (first | exact True.intro | refine And.intro ?_ ?_ | exact Or.inl (by decide +kernel) | decide +kernel | exact Or.inr (fun K hK => (by (conv => whnf); first | exact hK | exact ldX_eq rfl hK | (refine stX_box rfl ?_; (conv => whnf); exact hK))))), ?_⟩⟩); conv => whnf)
        exact .pure _ (pure_tup2 (pure_agg2 (.bool _) pZq) (pure_agg2 (.bool _) pZr))
      · have hz1 : (z != 0) = true := by simp [hz]
        have hz2 : ((z != 0) == true) = true := by rw [hz1]; rfl
        have hs : (!(sa == sa)) = false := by simp
        repeat ((first | refine ldX_eq rfl ?_ | refine condX_t hz2 ?_ | refine condX_t hz1 ?_ | refine condX_f hs ?_ | refine Or.inl ?_ | refine And.intro (by decide +kernel) ?_); conv => whnf)
        repeat ((first
          | refine ⟨_, _, fun K hK => (by (conv => whnf); first | exact hK | exact ldX_eq rfl hK | (refine stX_box rfl ?_; (conv => whnf); exact hK)), Or.inl ⟨rfl, (by repeat' (first | exact True.intro | refine And.intro ?_ ?_ | exact Or.inl (by decide +kernel) | decide +kernel | exact Or.inr (fun K hK => (by (conv => whnf); first | exact hK | exact ldX_eq rfl hK | (refine stX_box rfl ?_; (conv => whnf); exact hK))))), ?_⟩⟩
          | refine ⟨_, _, fun K hK => (by (conv => whnf); first | exact hK | exact ldX_eq rfl hK | (refine stX_box rfl ?_; (conv => whnf); exact hK)), Or.inr ⟨(by repeat' (first | exact True.intro | refine And.intro ?_ ?_ | exact Or.inl (by decide +kernel) | decide +kernel | exact Or.inr (fun K hK => (by (conv => whnf); first | exact hK | exact ldX_eq rfl hK | (refine stX_box rfl ?_; (conv => whnf); exact hK))))), (by repeat' (first | exact True.intro | refine And.intro ?_ ?_ | exact Or.inl (by decide +kernel) | decide +kernel | exact Or.inr (fun K hK => (by (conv => whnf); first | exact hK | exact ldX_eq rfl hK | (refine stX_box rfl ?_; (conv => whnf); exact hK))))), ?_⟩⟩); conv => whnf)
        exact .pure _ (pure_tup2 (pure_agg2 (.bool _) pZq) (pure_agg2 (.bool _) pZr))
set_option maxHeartbeats 4000000 in
set_option maxRecDepth 100000 in
theorem div_walk2 {X Q R Zq Zr : AV} {v : List Nat} {cy : Option Nat} {sa sb b1 b2 : Bool} {z : Int} {b3 b4 : Bool} {l3 l4 : List Nat} {c3 c4 : Option Nat} (hS : DivS X Q R Zq Zr)
    (hd : PureSem Tryz.prog 156 [X, .vs (limbsV v) cy] (.tup [Q, R]))
    (hw1 : PureSem Tryz.prog 115 [.bool (sa != sb), Q] (.agg [.bool b1, Zq]))
    (hw2 : PureSem Tryz.prog 115 [.bool sa, R] (.agg [.bool b2, Zr]))
    (hsg : PureSem Tryz.prog 105 [.agg [.bool b2, Zr]] (.int .i64 z)) (hz : z ≠ 0) (hs : sa ≠ sb)
    (hsm : PureSem Tryz.prog 75 [.int .i64 1] (.agg [.bool false, .vs (limbsV [1]) none]))
    (hsu : PureSem Tryz.prog 193 [.agg [.bool b1, Zq], .agg [.bool false, .vs (limbsV [1]) none]] (.agg [.bool b3, .vs (limbsV l3) c3]))
    (had : PureSem Tryz.prog 131 [.agg [.bool b2, Zr], .agg [.bool sb, .vs (limbsV v) cy]] (.agg [.bool b4, .vs (limbsV l4) c4])) :
    PureSem Tryz.prog 155 [.agg [.bool sa, X], .agg [.bool sb, .vs (limbsV v) cy]] (.tup [.agg [.bool b3, .vs (limbsV l3) c3], .agg [.bool b4, .vs (limbsV l4) c4]]) := by
  obtain ⟨pX, pQ, pR, pZq, pZr⟩ := hS.pure
  have pY := pure_limbs v cy
  refine pure_of_call (pure2 (pure_agg2 (.bool _) pX) (pure_agg2 (.bool _) pY)) (pure_tup2 (pure_agg2 (.bool _) (pure_limbs _ _)) (pure_agg2 (.bool _) (pure_limbs _ _))) (call_x exactT_ok mixed Tryz.func155 rfl (by decide +kernel) ?_)
  cases hS
  all_goals
    conv => whnf
    repeat ((first | refine ⟨⟨rfl, by decide, rfl⟩, ?_⟩ | refine ⟨⟨by decide, rfl⟩, ?_⟩ | refine ldX_eq rfl ?_ | refine callX_pure hd (pure2 pX pY) ?_ | refine And.intro rfl ?_); conv => whnf)
    refine Or.inr (region_two exactT_ok mixed 11 12 (by omega) (by decide +kernel) (by decide +kernel) (by decide +kernel) ?_ ?_)
    all_goals
      conv => whnf
      repeat ((first
        | refine ⟨_, _, fun K hK => (by (conv => whnf); first | exact hK | exact ldX_eq rfl hK | exact callX_pure hw1 (pure2 (.bool _) pQ) hK | exact callX_pure hw2 (pure2 (.bool _) pR) hK | (refine stX_box rfl ?_; (conv => whnf); exact hK) | (refine ⟨⟨by decide, rfl⟩, ?_⟩; (conv => whnf); exact hK) | (refine Or.inl ?_; (conv => whnf); exact hK)), Or.inl ⟨rfl, (by repeat' (first | exact True.intro | refine And.intro ?_ ?_ | exact Or.inl (by decide +kernel) | decide +kernel | exact Or.inr (fun K hK => (by (conv => whnf); first | exact hK | exact ldX_eq rfl hK | exact callX_pure hw1 (pure2 (.bool _) pQ) hK | exact callX_pure hw2 (pure2 (.bool _) pR) hK | (refine stX_box rfl ?_; (conv => whnf); exact hK) | (refine ⟨⟨by decide, rfl⟩, ?_⟩; (conv => whnf); exact hK) | (refine Or.inl ?_; (conv => whnf); exact hK))))), ?_⟩⟩
        | refine ⟨_, _, fun K hK => (by (conv => whnf); first | exact hK | exact ldX_eq rfl hK | exact callX_pure hw1 (pure2 (.bool _) pQ) hK | exact callX_pure hw2 (pure2 (.bool _) pR) hK | (refine stX_box rfl ?_; (conv => whnf); exact hK) | (refine ⟨⟨by decide, rfl⟩, ?_⟩; (conv => whnf); exact hK) | (refine Or.inl ?_; (conv => whnf); exact hK)), Or.inr ⟨(by repeat' (first | exact True.intro | refine And.intro ?_ ?_ | exact Or.inl (by decide +kernel) | decide +kernel | exact Or.inr (fun K hK => (by (conv => whnf); first | exact hK | exact ldX_eq rfl hK | exact callX_pure hw1 (pure2 (.bool _) pQ) hK | exact callX_pure hw2 (pure2 (.bool _) pR) hK | (refine stX_box rfl ?_; (conv => whnf); exact hK) | (refine ⟨⟨by decide, rfl⟩, ?_⟩; (conv => whnf); exact hK) | (refine Or.inl ?_; (conv => whnf); exact hK))))), (by repeat' (first | exact True.intro | refine And.intro ?_ ?_ | exact Or.inl (by decide +kernel) | decide +kernel | exact Or.inr (fun K hK => (by (conv => whnf); first | exact hK | exact ldX_eq rfl hK | exact callX_pure hw1 (pure2 (.bool _) pQ) hK | exact callX_pure hw2 (pure2 (.bool _) pR) hK | (refine stX_box rfl ?_; (conv => whnf); exact hK) | (refine ⟨⟨by decide, rfl⟩, ?_⟩; (conv => whnf); exact hK) | (refine Or.inl ?_; (conv => whnf); exact hK))))), ?_⟩⟩); conv => whnf)
      repeat ((first | refine ldX_eq rfl ?_ | refine callX_pure hsg (pure1 (pure_agg2 (.bool _) pZr)) ?_ | refine Or.inl ?_); conv => whnf)
      have hz1 : (z != 0) = true := by simp [hz]
      have hz2 : ((z != 0) == true) = true := by rw [hz1]; rfl
      have hs1 : (!(sa == sb)) = true := by simp [hs]
      repeat ((first | refine ldX_eq rfl ?_ | refine condX_t hz2 ?_ | refine condX_t hz1 ?_ | refine condX_t hs1 ?_ | refine Or.inl ?_ | refine And.intro (by decide +kernel) ?_); conv => whnf)
      repeat ((first
        | refine ⟨_, _, fun K hK => (by (conv => whnf); first | exact hK | exact ldX_eq rfl hK | exact callX_pure hsm (pure1 (.int _ _)) hK | exact callX_pure hsu (pure2 (pure_agg2 (.bool _) pZq) (pure_agg2 (.bool _) (pure_limbs _ _))) hK | exact callX_pure had (pure2 (pure_agg2 (.bool _) pZr) (pure_agg2 (.bool _) pY)) hK | (refine stX_box rfl ?_; (conv => whnf); exact hK)), Or.inl ⟨rfl, (by repeat' (first | exact True.intro | refine And.intro ?_ ?_ | exact Or.inl (by decide +kernel) | decide +kernel | exact Or.inr (fun K hK => (by (conv => whnf); first | exact hK | exact ldX_eq rfl hK | exact callX_pure hsm (pure1 (.int _ _)) hK | exact callX_pure hsu (pure2 (pure_agg2 (.bool _) pZq) (pure_agg2 (.bool _) (pure_limbs _ _))) hK | exact callX_pure had (pure2 (pure_agg2 (.bool _) pZr) (pure_agg2 (.bool _) pY)) hK | (refine stX_box rfl ?_; (conv => whnf); exact hK))))), ?_⟩⟩
        | refine ⟨_, _, fun K hK => (by (conv => whnf); first | exact hK | exact ldX_eq rfl hK | exact callX_pure hsm (pure1 (.int _ _)) hK | exact callX_pure hsu (pure2 (pure_agg2 (.bool _) pZq) (pure_agg2 (.bool _) (pure_limbs _ _))) hK | exact callX_pure had (pure2 (pure_agg2 (.bool _) pZr) (pure_agg2 (.bool _) pY)) hK | (refine stX_box rfl ?_; (conv => whnf); exact hK)), Or.inr ⟨(by repeat' (first | exact True.intro | refine And.intro ?_ ?_ | exact Or.inl (by decide +kernel) | decide +kernel | exact Or.inr (fun K hK => (by (conv => whnf); first | exact hK | exact ldX_eq rfl hK | exact callX_pure hsm (pure1 (.int _ _)) hK | exact callX_pure hsu (pure2 (pure_agg2 (.bool _) pZq) (pure_agg2 (.bool _) (pure_limbs _ _))) hK | exact callX_pure had (pure2 (pure_agg2 (.bool _) pZr) (pure_agg2 (.bool _) pY)) hK | (refine stX_box rfl ?_; (conv => whnf); exact hK))))), (by repeat' (first | exact True.intro | refine And.intro ?_ ?_ | exact Or.inl (by decide +kernel) | decide +kernel | exact Or.inr (fun K hK => (by (conv => whnf); first | exact hK | exact ldX_eq rfl hK | exact callX_pure hsm (pure1 (.int _ _)) hK | exact callX_pure hsu (pure2 (pure_agg2 (.bool _) pZq) (pure_agg2 (.bool _) (pure_limbs _ _))) hK | exact callX_pure had (pure2 (pure_agg2 (.bool _) pZr) (pure_agg2 (.bool _) pY)) hK | (refine stX_box rfl ?_; (conv => whnf); exact hK))))), ?_⟩⟩
        | refine Or.inl ?_
        | refine And.intro (by decide +kernel) ?_); conv => whnf)
      exact .pure _ (pure_tup2 (pure_agg2 (.bool _) (pure_limbs _ _)) (pure_agg2 (.bool _) (pure_limbs _ _)))
end
end Go.Abs

namespace Go.Abs
noncomputable section
open Go.Proofs

structure FloorOf (a b q r : Int) : Prop where
  eq : a = q * b + r
  pos : 0 < b → 0 ≤ r ∧ r < b
  neg : b < 0 → b < r ∧ r ≤ 0

theorem floor_same {a b : Int} (hb : b ≠ 0) (h : decide (a < 0) = decide (b < 0)) : FloorOf a b ((a.natAbs / b.natAbs : Nat) : Int) (if a < 0 then -((a.natAbs % b.natAbs : Nat) : Int) else ((a.natAbs % b.natAbs : Nat) : Int)) := by
  have hn : 0 < b.natAbs := by omega
  have h1 := Nat.div_add_mod a.natAbs b.natAbs
  have h2 := Nat.mod_lt a.natAbs hn
  have h3 : (a < 0) ↔ (b < 0) := by simpa using h
  have e1 : ((a.natAbs / b.natAbs : Nat) : Int) * (b.natAbs : Int) = ((b.natAbs * (a.natAbs / b.natAbs) : Nat) : Int) := by rw [Int.natCast_mul, Int.mul_comm]
  generalize a.natAbs / b.natAbs = q at *
  generalize a.natAbs % b.natAbs = r at *
  generalize b.natAbs * q = p at *
  by_cases ha : a < 0
  · have hb' := h3.1 ha
    have e2 : b = -(b.natAbs : Int) := by omega
    rw [if_pos ha]
    refine ⟨?_, fun h => by omega, fun h => by omega⟩
    have : (q : Int) * b = -((q : Int) * (b.natAbs : Int)) := by
      rw [← Int.mul_neg, ← e2]
    rw [this, e1]; omega
  · have e2 : b = (b.natAbs : Int) := by omega
    rw [if_neg ha]
    refine ⟨?_, fun h => by omega, fun h => by omega⟩
    have : (q : Int) * b = (q : Int) * (b.natAbs : Int) := by rw [← e2]
    rw [this, e1]; omega
theorem floor_other {a b : Int} (hb : b ≠ 0) (h : decide (a < 0) ≠ decide (b < 0)) : a = -((a.natAbs / b.natAbs : Nat) : Int) * b + (if a < 0 then -((a.natAbs % b.natAbs : Nat) : Int) else ((a.natAbs % b.natAbs : Nat) : Int)) := by
  have hn : 0 < b.natAbs := by omega
  have h1 := Nat.div_add_mod a.natAbs b.natAbs
  have h3 : ¬ ((a < 0) ↔ (b < 0)) := fun e => h (decide_eq_decide.2 e)
  have e1 : ((a.natAbs / b.natAbs : Nat) : Int) * (b.natAbs : Int) = ((b.natAbs * (a.natAbs / b.natAbs) : Nat) : Int) := by rw [Int.natCast_mul, Int.mul_comm]
  generalize a.natAbs / b.natAbs = q at *
  generalize a.natAbs % b.natAbs = r at *
  generalize b.natAbs * q = p at *
  by_cases ha : a < 0
  · have e2 : b = (b.natAbs : Int) := by omega
    rw [if_pos ha]
    have : -(q : Int) * b = -((q : Int) * (b.natAbs : Int)) := by
      rw [Int.neg_mul, ← e2]
    rw [this, e1]; omega
  · have e2 : b = -(b.natAbs : Int) := by omega
    rw [if_neg ha]
    have : -(q : Int) * b = (q : Int) * (b.natAbs : Int) := by
      rw [Int.neg_mul, ← Int.mul_neg]
      congr 1; omega
    rw [this, e1]; omega

theorem whole_mag (neg : Bool) {l : List Nat} (c : Option Nat) (ol : okL l) (hl : l.length < 4611686018427387904) :
    ∃ c', PureSem Tryz.prog 115 [.bool neg, .vs (limbsV l) c] (.agg [.bool (neg && decide (val l ≠ 0)), .vs (limbsV (enc (val l))) c']) := by
  obtain ⟨c', h⟩ := whole_pure neg l c hl
  rw [trim_enc ol] at h
  refine ⟨c', ?_⟩
  have e : decide (enc (val l) ≠ []) = decide (val l ≠ 0) := decide_eq_decide.2 (by rw [ne_eq, enc_nil])
  rw [e] at h
  exact h

theorem short_val {l : List Nat} {d : Nat} (hd : 0 < d) : val (shortP l d 0) = val l / d := by
  have h := shortT_val (l := l) hd l.length (Nat.le_refl _)
  rw [Nat.sub_self, List.drop_zero] at h
  have e : shortP l d 0 = shortT l d l.length := by simp [shortP]
  rw [e, h]
theorem short_ok {l : List Nat} (ol : okL l) {d : Nat} (hd : 0 < d) : okL (shortP l d 0) := by
  have e : shortP l d 0 = shortT l d l.length := by simp [shortP]
  rw [e]; exact shortT_ok ol hd _

theorem div_parts {m k : Nat} {X : AV} {cy : Option Nat} (hX : MagV (enc m) X) (hk : k ≠ 0) (lm : (enc m).length < 100000000000) (s1 s2 : Bool) :
    ∃ Q R Zq Zr, DivS X Q R Zq Zr ∧ PureSem Tryz.prog 156 [X, .vs (limbsV (enc k)) cy] (.tup [Q, R]) ∧
      PureSem Tryz.prog 115 [.bool s1, Q] (.agg [.bool (s1 && decide (m / k ≠ 0)), Zq]) ∧ PureSem Tryz.prog 115 [.bool s2, R] (.agg [.bool (s2 && decide (m % k ≠ 0)), Zr]) ∧
      MagV (enc (m / k)) Zq ∧ MagV (enc (m % k)) Zr := by
  have om := enc_ok m
  have ok := enc_ok k
  have nm := enc_norm m
  have nk := enc_norm k
  have vm := enc_val m
  have vk := enc_val k
  have hk0 : enc k ≠ [] := fun e => hk (enc_nil.1 e)
  have hcv := (cmpMag_val om ok nm nk).1
  rw [vm, vk] at hcv
  by_cases hlt : m < k
  · have hq : m / k = 0 := Nat.div_eq_of_lt hlt
    have hr : m % k = m := Nat.mod_eq_of_lt hlt
    rw [hq, hr]
    have hd := divided_less hX (.vs (l := enc k) cy) (by omega) (hcv.2 hlt)
    have hw := whole_nils s1
    have e0 : (s1 && decide ((0 : Nat) ≠ 0)) = false := by simp
    rw [e0]
    cases hX with
    | nils h0 =>
      have h00 : m = 0 := enc_nil.1 h0
      subst h00
      have e1 : (s2 && decide ((0 : Nat) ≠ 0)) = false := by simp
      rw [e1]
      exact ⟨.nils, .nils, .nils, .nils, .nn, hd, hw, whole_nils s2, .nils rfl, .nils rfl⟩
    | vs c =>
      obtain ⟨c', h2⟩ := whole_mag s2 c om (by omega)
      rw [vm] at h2
      exact ⟨.nils, _, .nils, _, .nv (enc m) (enc m) c c', hd, hw, h2, .nils rfl, .vs c'⟩
  · have hc : ¬ cmpMag (enc m) (enc k) < 0 := fun h => hlt (hcv.1 h)
    have hlen : (enc k).length ≤ (enc m).length := by
      unfold cmpMag at hc
      split at hc <;> omega
    have hkl : 0 < (enc k).length := List.length_pos_iff.2 hk0
    cases hX with
    | nils h0 => rw [h0] at hlen; rw [List.length_nil] at hlen; omega
    | vs c =>
      by_cases h1 : (enc k).length = 1
      · obtain ⟨d, hd⟩ : ∃ d, enc k = [d] := by
          match h : enc k, h1 with
          | [d], _ => exact ⟨d, rfl⟩
        have hdk : d = k := by rw [← vk, hd]; simp [val]
        rw [hdk] at hd
        rw [hd] at ok hc ⊢
        have hk1 : k < 1000000000 := ok k (by simp)
        have h := divided_one (.vs (l := enc m) c) (c := cy) om (by omega) (by omega) hk1 hc
        rw [vm] at h
        obtain ⟨c1, w1⟩ := whole_mag s1 (l := shortP (enc m) k 0) (some (enc m).length) (short_ok om (by omega)) (by rw [shortP_length (by omega)]; omega)
        obtain ⟨c2, w2⟩ := whole_mag s2 (l := [m % k]) (some 1) (okL_one (by have := Nat.mod_lt m (show 0 < k by omega); omega)) (by simp)
        rw [short_val (by omega), vm] at w1
        rw [show val [m % k] = m % k by simp [val]] at w2
        exact ⟨_, _, _, _, .vv _ _ _ _ _ _ _ _ _ _, h, w1, w2, .vs c1, .vs c2⟩
      · have h := divided_long (.vs (l := enc m) c) (.vs (l := enc k) cy) om ok nk (by omega) (by omega) hc
        have hd0 := unitD_pos ok
        obtain ⟨us1, us2⟩ := unscale (a := m) (b := k) hd0
        rw [vm, vk] at h
        have hvl := val_lt om
        rw [vm] at hvl
        have hfit := unit_fits ok hk0
        rw [vk] at hfit
        have hRl : (enc (m * unitD (enc k) % (k * unitD (enc k)))).length ≤ (enc k).length := enc_length_lt (Nat.lt_trans (Nat.mod_lt _ (Nat.mul_pos (by omega) hd0)) hfit)
        have hqv : val (limbsOf ((enc m).length + 1 - (enc k).length) (m / k)) = m / k := by
          refine limbsOf_val _ _ ?_
          have h2 := norm_ge nk hk0
          rw [vk] at h2
          refine (Nat.div_lt_iff_lt_mul (by omega)).2 (Nat.lt_of_lt_of_le hvl ?_)
          have h3 : 1000000000 ^ ((enc m).length + 1 - (enc k).length) * 1000000000 ^ ((enc k).length - 1) ≤ 1000000000 ^ ((enc m).length + 1 - (enc k).length) * k := Nat.mul_le_mul_left _ h2
          rw [← Nat.pow_add, show (enc m).length + 1 - (enc k).length + ((enc k).length - 1) = (enc m).length by omega] at h3
          exact h3
        obtain ⟨c1, w1⟩ := whole_mag s1 (l := limbsOf ((enc m).length + 1 - (enc k).length) (m / k)) (some ((enc m).length + 1 - (enc k).length)) (limbsOf_ok _ _) (by rw [limbsOf_length]; omega)
        obtain ⟨c2, w2⟩ := whole_mag s2 (l := shortP (enc (m * unitD (enc k) % (k * unitD (enc k)))) (unitD (enc k)) 0) (some (enc (m * unitD (enc k) % (k * unitD (enc k)))).length) (short_ok (enc_ok _) hd0) (by rw [shortP_length (by omega)]; omega)
        rw [hqv] at w1
        rw [short_val hd0, enc_val, us2] at w2
        exact ⟨_, _, _, _, .vv _ _ _ _ _ _ _ _ _ _, h, w1, w2, .vs c1, .vs c2⟩

theorem whole_of {z : Int} {n : Nat} {b : Bool} {Z : AV} (hZ : MagV (enc n) Z) (hn : z.natAbs = n) (hb : b = decide (z < 0)) : WholeV z (.agg [.bool b, Z]) := by
  subst hn hb
  exact ⟨Z, hZ, rfl⟩

theorem small_one : PureSem Tryz.prog 75 [.int .i64 1] (.agg [.bool false, .vs (limbsV [1]) none]) := small_pure 1 (by omega)
theorem one_V : WholeV 1 (.agg [.bool false, .vs (limbsV [1]) none]) := ⟨_, .vs (l := [1]) none, rfl⟩

theorem div_whole {a b : Int} {x y : AV} (hx : WholeV a x) (hy : WholeV b y) (la : (enc a.natAbs).length < 10000000000) (lb : (enc b.natAbs).length < 10000000000) (hb : b ≠ 0) :
    ∃ q r Q R, FloorOf a b q r ∧ WholeV q Q ∧ WholeV r R ∧ PureSem Tryz.prog 155 [x, y] (.tup [Q, R]) := by
  have hy0 := hy
  obtain ⟨X, hX, rfl⟩ := hx
  obtain ⟨Y, hY, rfl⟩ := hy
  cases hY with
  | nils h0 => exact absurd (enc_nil.1 h0) (by omega)
  | vs cy =>
  obtain ⟨Q, R, Zq, Zr, hS, hd, hw1, hw2, mq, mr⟩ := div_parts (cy := cy) hX (k := b.natAbs) (by omega) (by omega) (decide (a < 0) != decide (b < 0)) (decide (a < 0))
  have f1 := fun hs => floor_same (a := a) hb hs
  have f2 := fun hs => floor_other (a := a) hb hs
  have g1 := Nat.div_le_self a.natAbs b.natAbs
  have g2 := Nat.mod_le a.natAbs b.natAbs
  have g3 := Nat.mod_lt a.natAbs (show 0 < b.natAbs by omega)
  generalize a.natAbs / b.natAbs = Qn at *
  generalize a.natAbs % b.natAbs = Rn at *
  have hq0 : WholeV (if decide (a < 0) = decide (b < 0) then ((Qn : Nat) : Int) else -((Qn : Nat) : Int)) (.agg [.bool ((decide (a < 0) != decide (b < 0)) && decide (Qn ≠ 0)), Zq]) := by
    refine whole_of mq ?_ ?_
    · split <;> omega
    · by_cases h : decide (a < 0) = decide (b < 0)
      · rw [if_pos h, h]; simp
      · rw [if_neg h, show (decide (a < 0) != decide (b < 0)) = true by simpa using h, Bool.true_and]
        exact decide_eq_decide.2 (by omega)
  have hr0 : WholeV (if a < 0 then -((Rn : Nat) : Int) else ((Rn : Nat) : Int)) (.agg [.bool (decide (a < 0) && decide (Rn ≠ 0)), Zr]) := by
    refine whole_of mr ?_ ?_
    · split <;> omega
    · by_cases h : a < 0
      · rw [if_pos h, decide_eq_true h, Bool.true_and]
        exact decide_eq_decide.2 (by omega)
      · rw [if_neg h, decide_eq_false h, Bool.false_and]
        exact (decide_eq_false (by omega)).symm
  have hsg := sign_whole hr0
  have hrz : sgn (if a < 0 then -((Rn : Nat) : Int) else ((Rn : Nat) : Int)) = 0 ↔ Rn = 0 := by
    unfold sgn
    split <;> split <;> (try split) <;> omega
  by_cases hs : decide (a < 0) = decide (b < 0)
  · rw [if_pos hs] at hq0
    refine ⟨_, _, _, _, f1 hs, hq0, hr0, ?_⟩
    by_cases hz : Rn = 0
    · exact div_walk hS hd hw1 hw2 hsg (.inl (hrz.2 hz))
    · exact div_walk hS hd hw1 hw2 hsg (.inr ⟨fun e => hz (hrz.1 e), hs⟩)
  · rw [if_neg hs] at hq0
    have hf := f2 hs
    by_cases hz : Rn = 0
    · refine ⟨_, _, _, _, ⟨hf, fun h => ?_, fun h => ?_⟩, hq0, hr0, div_walk hS hd hw1 hw2 hsg (.inl (hrz.2 hz))⟩
      · split <;> omega
      · split <;> omega
    · have hq1 : (-((Qn : Nat) : Int)).natAbs ≤ a.natAbs := by omega
      have hr1 : (if a < 0 then -((Rn : Nat) : Int) else ((Rn : Nat) : Int)).natAbs ≤ a.natAbs := by split <;> omega
      obtain ⟨c3, h3⟩ := sub_whole hq0 one_V (by have := enc_length_le hq1; omega) (by show (enc 1).length < _; decide)
      obtain ⟨c4, h4⟩ := add_whole hr0 hy0 (by have := enc_length_le hr1; omega) (by omega)
      refine ⟨_, _, _, _, ⟨?_, fun h => ?_, fun h => ?_⟩, wholeR_V _ c3, wholeR_V _ c4, div_walk2 hS hd hw1 hw2 hsg (fun e => hz (hrz.1 e)) hs small_one h3 h4⟩
      · rw [Int.sub_mul, Int.one_mul]; omega
      · have h3 : ¬ ((a < 0) ↔ (b < 0)) := fun e => hs (decide_eq_decide.2 e)
        split <;> omega
      · have h3 : ¬ ((a < 0) ↔ (b < 0)) := fun e => hs (decide_eq_decide.2 e)
        split <;> omega
end
end Go.Abs
