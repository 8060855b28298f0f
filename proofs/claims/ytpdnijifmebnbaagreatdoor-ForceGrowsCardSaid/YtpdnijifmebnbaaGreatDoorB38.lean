/-
  Steps to a law of this program: SDr3.
  Conditions: none.
-/
import Derived.Test.YtpdnijifmebnbaaGreatDoorB37
set_option linter.unusedVariables false
set_option linter.unusedSimpArgs false
set_option linter.unusedSectionVars false
namespace Go.Abs
noncomputable section
open Go.Proofs
set_option maxRecDepth 100000

theorem idx_arr {α : Type} [Inhabited α] {l : List α} {f : α → AV} {i : Nat} (hi : i < l.length) (d : α) : (l.map f)[((i : Nat) : Int).toNat * 1]? = some (f (l.getD i d)) := by simp [hi]

theorem osV_at {l : List Nat} {i : Nat} (hi : i < l.length) : (osV l)[0 + i]? = some [.int .i64 ((l.getD i 0 : Nat) : Int)] := by simp [osV, hi]
theorem osV_set {l : List Nat} {i k : Nat} {z : Int} (hz : z = ((l.getD i 0 + k : Nat) : Int)) : (osV l).set (0 + i) [.int .i64 z] = osV (bump l i k) := by
  subst hz
  simp [osV, bump, List.map_set]

def nextV : List Br → AV
  | [] => .nils
  | b :: L => .ms 5 0 (b :: L).length none
def nextB : List Br → List (Option Blk)
  | [] => []
  | b :: L => [some (.rows ((b :: L).map brV) true false)]
theorem brV_okc (L : List Br) : ∀ r ∈ L.map brV, r.length = 2 ∧ r.all okc = true := fun r hr => by
  obtain ⟨b, _, rfl⟩ := List.mem_map.1 hr
  exact ⟨rfl, rfl⟩
theorem brV_pure (L : List Br) : ∀ r ∈ L.map brV, ∀ x ∈ r, Pure x := fun r hr x hx => by
  obtain ⟨b, _, rfl⟩ := List.mem_map.1 hr
  simp only [brV, List.mem_cons, List.not_mem_nil, or_false] at hx
  rcases hx with rfl | rfl
  · exact .int _ _
  · exact .str _

set_option maxHeartbeats 4000000 in
theorem choice_pure {d : Dr} {pk : AV} {p : Pk} (hd : DrOK d) (hp : PicksV d.picks pk) (hpk : PkOK p) :
    PureSem Tryz.prog 21 [.agg (drV d pk), .agg (pkV p)] (.agg (chV (d.cho p))) := by
  have hkc := okc_drV hp
  have hcnt := count_pure hd hp
  have w1 : ((p.p0 % (d.W + 1) : Nat) : Int) = ((d.one p : Nat) : Int) := rfl
  have w2 : ((d.W : Nat) : Int) - ((d.one p : Nat) : Int) = ((d.W - d.one p : Nat) : Int) := by have := d.one_le p; omega
  have a8 : d.gr % 8 < wholes.length := Nat.mod_lt _ (by decide)
  have a8' : d.gr % 8 < 8 := a8
  have b4 : p.act % 4 < actsL.length := Nat.mod_lt _ (by decide)
  have c4 : d.ce % 4 < centsL.length := Nat.mod_lt _ (by decide)
  have b4' : p.act % 4 < 4 := b4
  have c4' : d.ce % 4 < 4 := c4
  have q3 := hpk.act
  have q4 := hpk.gain
  have q5 := hd.ce
  have hc3 : 0 < d.c ∧ d.c ≤ 3 := by
    have key : ∀ c ∈ [1, 2, 3], 0 < c ∧ c ≤ 3 := by decide
    exact key _ d.c_mem
  have g20 := Nat.mod_lt p.gain (by decide : 0 < 20)
  have hof := of2_pure (n := p.gain % 20) (d := d.c) (by omega) (by omega) hc3.1
  have q1 := hpk.p0
  have q2 := hpk.p1
  have hg := hd.gr
  have hW := d.W_le
  have ho := d.one_le p
  have ht := d.two_le p
  have hn0 := d.n_pos
  have v0 := hpk.t0
  have v1 := hpk.t1
  have v2 := hpk.t2
  have m0 := Nat.mod_lt p.t0 d.n_pos
  have m1 := Nat.mod_lt p.t1 d.n_pos
  have m2 := Nat.mod_lt p.t2 d.n_pos
  obtain ⟨P0, hP0⟩ : ∃ P, List.replicate d.n 0 = P := ⟨_, rfl⟩
  obtain ⟨P1, hP1⟩ : ∃ P, bump P0 (p.t0 % d.n) (d.one p) = P := ⟨_, rfl⟩
  obtain ⟨P2, hP2⟩ : ∃ P, bump P1 (p.t1 % d.n) (d.two p) = P := ⟨_, rfl⟩
  obtain ⟨P3, hP3⟩ : ∃ P, bump P2 (p.t2 % d.n) (d.W - d.one p - d.two p) = P := ⟨_, rfl⟩
  have l0 : P0.length = d.n := by rw [← hP0]; simp
  have l1 : P1.length = d.n := by rw [← hP1, bump_len, l0]
  have l2 : P2.length = d.n := by rw [← hP2, bump_len, l1]
  have l3 : P3.length = d.n := by rw [← hP3, bump_len, l2]
  have hparts : d.parts p = P3 := by unfold Dr.parts; rw [hP0, hP1, hP2, hP3]
  have r0 := osV_at (l := P0) (i := p.t0 % d.n) (by omega)
  have r1 := osV_at (l := P1) (i := p.t1 % d.n) (by omega)
  have r2 := osV_at (l := P2) (i := p.t2 % d.n) (by omega)
  have u0 : P0.sum = 0 := by rw [← hP0]; simp
  have u1 : P1.sum = d.one p := by rw [← hP1, bump_sum (by omega), u0]; simp
  have u2 : P2.sum = d.one p + d.two p := by rw [← hP2, bump_sum (by omega), u1]
  have x0 := getD_le_sum P0 (p.t0 % d.n)
  have x1 := getD_le_sum P1 (p.t1 % d.n)
  have x2 := getD_le_sum P2 (p.t2 % d.n)
  have w3 : ((d.W - d.one p : Nat) : Int) - ((d.two p : Nat) : Int) = ((d.W - d.one p - d.two p : Nat) : Int) := by have := d.two_le p; omega
  have hn5 := d.n_le
  obtain ⟨PV, hPV⟩ : ∃ v, v = pk := ⟨_, rfl⟩
  have pD := pure_dr hp
  have hp2 := hp
  obtain ⟨ps, hps⟩ : ∃ ps, d.picks = ps := ⟨_, rfl⟩
  rw [hps] at hp2
  clear hp
  rcases hp2 with _ | ⟨_, c⟩
  all_goals
    refine pure_of_call (pure2 pD (pure_pk p)) (.agg _ fun i hi => chV_pure _ _ (List.getElem_mem hi)) (call_x refT_ok mixed Tryz.func21 rfl (by decide +kernel) ?_)
    conv => whnf
    repeat ((first | refine And.intro ⟨rfl, by decide, hkc⟩ ?_ | refine And.intro ⟨rfl, by decide, rfl⟩ ?_ | refine And.intro ⟨by decide, rfl⟩ ?_ | refine ldX_eq rfl ?_ | refine callX_pure hcnt (pure1 pD) ?_ | refine And.intro rfl (remX_nat d.gr 8 rfl rfl (by decide) ?_) | refine And.intro ⟨by omega, by omega⟩ ⟨.int .i64 ((d.W : Nat) : Int), idx_arr (l := wholes) (f := fun k => .int .i64 ((k : Nat) : Int)) a8 1, ?_⟩ | refine And.intro ⟨by decide, by decide⟩ (And.intro (Nat.le_of_ble_eq_true rfl) ?_) | refine And.intro rfl (wrapX_nat (d.W + 1) (by push_cast; rfl) (i64n _ (by omega)) ?_) | refine And.intro rfl (remX_nat p.p0 (d.W + 1) rfl rfl (by omega) ?_) | refine And.intro rfl (wrapX_nat (d.W - d.one p) w2 (i64n _ (by omega)) ?_) | refine And.intro rfl (wrapX_nat (d.W - d.one p + 1) (by push_cast; rfl) (i64n _ (by omega)) ?_) | refine And.intro rfl (remX_nat p.p1 (d.W - d.one p + 1) rfl rfl (by omega) ?_) | refine And.intro rfl (wrapX_i64 (by omega) ?_) | refine wrapX_i64 (by omega) ?_ | refine And.intro rfl ?_); conv => whnf)
    refine mkX_eq (n := d.n) (m := d.n) (rs := osV P0) rfl rfl ⟨Nat.le_refl _, by show 8 * d.n ≤ _; omega, by omega⟩ ⟨by decide, rfl⟩ (by rw [← hP0]; simp [osV]) ?_
    conv => whnf
    repeat ((first | refine ldX_eq rfl ?_ | refine And.intro ⟨by decide, by decide⟩ (And.intro (Nat.le_of_ble_eq_true rfl) ?_) | refine And.intro rfl (wrapX_nat (d.W - d.one p) w2 (i64n _ (by omega)) ?_) | refine And.intro rfl (wrapX_nat (d.W - d.one p - d.two p) w3 (i64n _ (by omega)) ?_) | refine wrapX_i64 (by omega) ?_ | refine And.intro rfl (remX_nat p.t0 d.n rfl rfl (by omega) ?_) | refine idmX_eq (p.t0 % d.n) rfl m0 (by decide) r0 rfl ?_ | refine ldX_eq (r := .int .i64 ((P0.getD (p.t0 % d.n) 0 : Nat) : Int)) (by rw [r0]; rfl) ?_ | refine And.intro rfl (wrapX_nat (P0.getD (p.t0 % d.n) 0 + d.one p) (Int.natCast_add _ _).symm (i64n _ (by omega)) ?_) | refine And.intro rfl ?_); conv => whnf)
    refine stX_eq (rs' := osV P1) r0 rfl (by rw [← hP1]; exact osV_set rfl) ?_
    conv => whnf
    repeat ((first | refine ldX_eq rfl ?_ | refine And.intro ⟨by decide, by decide⟩ (And.intro (Nat.le_of_ble_eq_true rfl) ?_) | refine And.intro rfl (wrapX_nat (d.W - d.one p) w2 (i64n _ (by omega)) ?_) | refine And.intro rfl (wrapX_nat (d.W - d.one p - d.two p) w3 (i64n _ (by omega)) ?_) | refine wrapX_i64 (by omega) ?_ | refine And.intro rfl (remX_nat p.t1 d.n rfl rfl (by omega) ?_) | refine idmX_eq (p.t1 % d.n) rfl m1 (by decide) r1 rfl ?_ | refine ldX_eq (r := .int .i64 ((P1.getD (p.t1 % d.n) 0 : Nat) : Int)) (by rw [r1]; rfl) ?_ | refine And.intro rfl (wrapX_nat (P1.getD (p.t1 % d.n) 0 + d.two p) (Int.natCast_add _ _).symm (i64n _ (by omega)) ?_) | refine And.intro rfl ?_); conv => whnf)
    refine stX_eq (rs' := osV P2) r1 rfl (by rw [← hP2]; exact osV_set rfl) ?_
    conv => whnf
    repeat ((first | refine ldX_eq rfl ?_ | refine And.intro ⟨by decide, by decide⟩ (And.intro (Nat.le_of_ble_eq_true rfl) ?_) | refine And.intro rfl (wrapX_nat (d.W - d.one p) w2 (i64n _ (by omega)) ?_) | refine And.intro rfl (wrapX_nat (d.W - d.one p - d.two p) w3 (i64n _ (by omega)) ?_) | refine wrapX_i64 (by omega) ?_ | refine And.intro rfl (remX_nat p.t2 d.n rfl rfl (by omega) ?_) | refine idmX_eq (p.t2 % d.n) rfl m2 (by decide) r2 rfl ?_ | refine ldX_eq (r := .int .i64 ((P2.getD (p.t2 % d.n) 0 : Nat) : Int)) (by rw [r2]; rfl) ?_ | refine And.intro rfl (wrapX_nat (P2.getD (p.t2 % d.n) 0 + (d.W - d.one p - d.two p)) (Int.natCast_add _ _).symm (i64n _ (by omega)) ?_) | refine And.intro rfl ?_); conv => whnf)
    refine stX_eq (rs' := osV P3) r2 rfl (by rw [← hP3]; exact osV_set rfl) ?_
    conv => whnf
    refine Or.inl ⟨by decide +kernel, ?_⟩
    conv => whnf
    repeat ((first | refine ⟨_, _, fun K hK => (by (conv => whnf); first | exact hK | exact ldX_eq rfl hK | exact And.intro ⟨by decide, rfl⟩ hK | exact And.intro rfl (remX_nat p.act 4 rfl rfl (by decide) hK) | exact And.intro rfl (remX_nat p.gain 20 rfl rfl (by decide) hK) | exact And.intro rfl (remX_nat d.ce 4 rfl rfl (by decide) hK) | exact And.intro ⟨by omega, by omega⟩ ⟨.str (actsL.getD (p.act % 4) []), idx_arr (l := actsL) (f := AV.str) b4 [], hK⟩ | exact And.intro ⟨by omega, by omega⟩ ⟨.int .i64 ((d.c : Nat) : Int), idx_arr (l := centsL) (f := fun k => .int .i64 ((k : Nat) : Int)) c4 1, hK⟩ | exact wrapX_i64 (by omega) hK | exact callX_pure hof (pure2 (.int _ _) (.int _ _)) hK | (refine stX_box rfl ?_; (conv => whnf); exact hK)), Or.inl ⟨rfl, (by repeat' (first | exact True.intro | refine And.intro ?_ ?_ | exact Or.inl (by decide +kernel) | decide +kernel | exact Or.inr (fun K hK => (by (conv => whnf); first | exact hK | exact ldX_eq rfl hK | exact And.intro ⟨by decide, rfl⟩ hK | exact And.intro rfl (remX_nat p.act 4 rfl rfl (by decide) hK) | exact And.intro rfl (remX_nat p.gain 20 rfl rfl (by decide) hK) | exact And.intro rfl (remX_nat d.ce 4 rfl rfl (by decide) hK) | exact And.intro ⟨by omega, by omega⟩ ⟨.str (actsL.getD (p.act % 4) []), idx_arr (l := actsL) (f := AV.str) b4 [], hK⟩ | exact And.intro ⟨by omega, by omega⟩ ⟨.int .i64 ((d.c : Nat) : Int), idx_arr (l := centsL) (f := fun k => .int .i64 ((k : Nat) : Int)) c4 1, hK⟩ | exact wrapX_i64 (by omega) hK | exact callX_pure hof (pure2 (.int _ _) (.int _ _)) hK | (refine stX_box rfl ?_; (conv => whnf); exact hK))))), ?_⟩⟩ | refine ⟨_, _, fun K hK => (by (conv => whnf); first | exact hK | exact ldX_eq rfl hK | exact And.intro ⟨by decide, rfl⟩ hK | exact And.intro rfl (remX_nat p.act 4 rfl rfl (by decide) hK) | exact And.intro rfl (remX_nat p.gain 20 rfl rfl (by decide) hK) | exact And.intro rfl (remX_nat d.ce 4 rfl rfl (by decide) hK) | exact And.intro ⟨by omega, by omega⟩ ⟨.str (actsL.getD (p.act % 4) []), idx_arr (l := actsL) (f := AV.str) b4 [], hK⟩ | exact And.intro ⟨by omega, by omega⟩ ⟨.int .i64 ((d.c : Nat) : Int), idx_arr (l := centsL) (f := fun k => .int .i64 ((k : Nat) : Int)) c4 1, hK⟩ | exact wrapX_i64 (by omega) hK | exact callX_pure hof (pure2 (.int _ _) (.int _ _)) hK | (refine stX_box rfl ?_; (conv => whnf); exact hK)), Or.inr ⟨(by repeat' (first | exact True.intro | refine And.intro ?_ ?_ | exact Or.inl (by decide +kernel) | decide +kernel | exact Or.inr (fun K hK => (by (conv => whnf); first | exact hK | exact ldX_eq rfl hK | exact And.intro ⟨by decide, rfl⟩ hK | exact And.intro rfl (remX_nat p.act 4 rfl rfl (by decide) hK) | exact And.intro rfl (remX_nat p.gain 20 rfl rfl (by decide) hK) | exact And.intro rfl (remX_nat d.ce 4 rfl rfl (by decide) hK) | exact And.intro ⟨by omega, by omega⟩ ⟨.str (actsL.getD (p.act % 4) []), idx_arr (l := actsL) (f := AV.str) b4 [], hK⟩ | exact And.intro ⟨by omega, by omega⟩ ⟨.int .i64 ((d.c : Nat) : Int), idx_arr (l := centsL) (f := fun k => .int .i64 ((k : Nat) : Int)) c4 1, hK⟩ | exact wrapX_i64 (by omega) hK | exact callX_pure hof (pure2 (.int _ _) (.int _ _)) hK | (refine stX_box rfl ?_; (conv => whnf); exact hK))))), (by repeat' (first | exact True.intro | refine And.intro ?_ ?_ | exact Or.inl (by decide +kernel) | decide +kernel | exact Or.inr (fun K hK => (by (conv => whnf); first | exact hK | exact ldX_eq rfl hK | exact And.intro ⟨by decide, rfl⟩ hK | exact And.intro rfl (remX_nat p.act 4 rfl rfl (by decide) hK) | exact And.intro rfl (remX_nat p.gain 20 rfl rfl (by decide) hK) | exact And.intro rfl (remX_nat d.ce 4 rfl rfl (by decide) hK) | exact And.intro ⟨by omega, by omega⟩ ⟨.str (actsL.getD (p.act % 4) []), idx_arr (l := actsL) (f := AV.str) b4 [], hK⟩ | exact And.intro ⟨by omega, by omega⟩ ⟨.int .i64 ((d.c : Nat) : Int), idx_arr (l := centsL) (f := fun k => .int .i64 ((k : Nat) : Int)) c4 1, hK⟩ | exact wrapX_i64 (by omega) hK | exact callX_pure hof (pure2 (.int _ _) (.int _ _)) hK | (refine stX_box rfl ?_; (conv => whnf); exact hK))))), ?_⟩⟩); conv => whnf)
    refine loop_p refT_ok mixed 117 (fun z : Nat × List Br => d.n - z.1) (fun z => z.1 ≤ d.n ∧ z.2 = brU d.W P3 z.1)
      (fun z => [(4, .ptr 2 0 0), (5, .int .i64 ((d.n : Nat) : Int)), (6, .int .i64 ((d.W : Nat) : Int)), (9, .ms 3 0 d.n (some d.n)), (10, .ptr 4 0 0), (11, .int .i64 ((z.1 : Nat) : Int))])
      (fun z => ⟨[some (.rows [drV d PV] false false), some (.rows [pkV p] false false), some (.rows [[.str [], .str [], .nils]] false false), some (.rows (osV P3) false false), some (.rows [[.str (actsL.getD (p.act % 4) []), .str (qN (p.gain % 20) d.c), nextV z.2]] false false)] ++ nextB z.2, []⟩) ?_ (0, []) _ ⟨Nat.zero_le _, rfl⟩ (by rw [hPV]; rfl) rfl ⟨rfl, rfl, rfl, rfl, rfl, rfl, trivial⟩
    rintro ⟨t, L⟩ g1 ⟨i1, i2⟩
    replace i1 : t ≤ d.n := i1
    replace i2 : L = brU d.W P3 t := i2
    have hLl : L.length ≤ t := by rw [i2]; exact brU_len t
    rcases L with _ | ⟨b, L⟩
    all_goals
      conv => whnf
      refine condX_dec (fun h4 => ?_) (fun h4 => ?_) <;> conv => whnf
    · have hi : t < d.n := by have : ((t : Nat) : Int) < ((d.n : Nat) : Int) := h4; omega
      have rt := osV_at (l := P3) (i := t) (by omega)
      obtain ⟨k, hk⟩ : ∃ k, P3.getD t 0 = k := ⟨_, rfl⟩
      have hkW : k ≤ d.W := by have := getD_le_sum P3 t; rw [hk] at this; have := d.parts_sum p; rw [hparts] at this; omega
      rw [hk] at rt
      repeat ((first | refine idmX_eq t rfl hi (by decide) rt rfl ?_ | refine ldX_eq (r := .int .i64 ((k : Nat) : Int)) (by rw [rt]; rfl) ?_ | refine And.intro rfl ?_); conv => whnf)
      refine condX_dec (fun h5 => ?_) (fun h5 => ?_) <;> conv => whnf
      · have hk0 : 0 < k := by have : ((k : Nat) : Int) > 0 := h5; omega
        have hofk := of2_pure (n := k) (d := d.W) (by omega) (by omega) hW.1
        have hnext : brU d.W P3 (t + 1) = [brOf d.W t k] := by
          have : brU d.W P3 (t + 1) = brU d.W P3 t ++ [brOf d.W t k] := by rw [brU, hk, if_pos hk0]
          rw [this, ← i2]; rfl
        refine Or.inl ⟨by decide +kernel, ?_⟩
        conv => whnf
        repeat ((first | refine ⟨_, _, fun K hK => (by (conv => whnf); first | exact hK | exact ldX_eq rfl hK | exact idmX_eq t rfl hi (by decide) rt rfl hK | exact ldX_eq (r := .int .i64 ((k : Nat) : Int)) (by rw [rt]; rfl) hK | exact callX_pure hofk (pure2 (.int _ _) (.int _ _)) hK | (refine ⟨by decide, by decide, rfl, ?_⟩; (conv => whnf); exact Or.inr hK) | (refine And.intro ⟨rfl, trivial⟩ ?_; (conv => whnf); exact apX_nils (by decide) ⟨rfl, rfl⟩ hK) | (refine stX_box rfl ?_; (conv => whnf); exact hK)), Or.inl ⟨rfl, (by repeat' (first | exact True.intro | refine And.intro ?_ ?_ | exact Or.inl (by decide +kernel) | decide +kernel | exact Or.inr (fun K hK => (by (conv => whnf); first | exact hK | exact ldX_eq rfl hK | exact idmX_eq t rfl hi (by decide) rt rfl hK | exact ldX_eq (r := .int .i64 ((k : Nat) : Int)) (by rw [rt]; rfl) hK | exact callX_pure hofk (pure2 (.int _ _) (.int _ _)) hK | (refine ⟨by decide, by decide, rfl, ?_⟩; (conv => whnf); exact Or.inr hK) | (refine And.intro ⟨rfl, trivial⟩ ?_; (conv => whnf); exact apX_nils (by decide) ⟨rfl, rfl⟩ hK) | (refine stX_box rfl ?_; (conv => whnf); exact hK))))), ?_⟩⟩ | refine ⟨_, _, fun K hK => (by (conv => whnf); first | exact hK | exact ldX_eq rfl hK | exact idmX_eq t rfl hi (by decide) rt rfl hK | exact ldX_eq (r := .int .i64 ((k : Nat) : Int)) (by rw [rt]; rfl) hK | exact callX_pure hofk (pure2 (.int _ _) (.int _ _)) hK | (refine ⟨by decide, by decide, rfl, ?_⟩; (conv => whnf); exact Or.inr hK) | (refine And.intro ⟨rfl, trivial⟩ ?_; (conv => whnf); exact apX_nils (by decide) ⟨rfl, rfl⟩ hK) | (refine stX_box rfl ?_; (conv => whnf); exact hK)), Or.inr ⟨(by repeat' (first | exact True.intro | refine And.intro ?_ ?_ | exact Or.inl (by decide +kernel) | decide +kernel | exact Or.inr (fun K hK => (by (conv => whnf); first | exact hK | exact ldX_eq rfl hK | exact idmX_eq t rfl hi (by decide) rt rfl hK | exact ldX_eq (r := .int .i64 ((k : Nat) : Int)) (by rw [rt]; rfl) hK | exact callX_pure hofk (pure2 (.int _ _) (.int _ _)) hK | (refine ⟨by decide, by decide, rfl, ?_⟩; (conv => whnf); exact Or.inr hK) | (refine And.intro ⟨rfl, trivial⟩ ?_; (conv => whnf); exact apX_nils (by decide) ⟨rfl, rfl⟩ hK) | (refine stX_box rfl ?_; (conv => whnf); exact hK))))), (by repeat' (first | exact True.intro | refine And.intro ?_ ?_ | exact Or.inl (by decide +kernel) | decide +kernel | exact Or.inr (fun K hK => (by (conv => whnf); first | exact hK | exact ldX_eq rfl hK | exact idmX_eq t rfl hi (by decide) rt rfl hK | exact ldX_eq (r := .int .i64 ((k : Nat) : Int)) (by rw [rt]; rfl) hK | exact callX_pure hofk (pure2 (.int _ _) (.int _ _)) hK | (refine ⟨by decide, by decide, rfl, ?_⟩; (conv => whnf); exact Or.inr hK) | (refine And.intro ⟨rfl, trivial⟩ ?_; (conv => whnf); exact apX_nils (by decide) ⟨rfl, rfl⟩ hK) | (refine stX_box rfl ?_; (conv => whnf); exact hK))))), ?_⟩⟩); conv => whnf)
        repeat ((first | refine And.intro rfl (wrapX_i64 (by omega) ?_) | refine And.intro rfl ?_); conv => whnf)
        refine ⟨(t + 1, [brOf d.W t k]), by show d.n - (t + 1) < d.n - t; omega, ⟨hi, hnext.symm⟩, rfl, rfl, rfl, rfl, rfl, rfl, rfl, ?_, trivial⟩
        show some (AV.int .i64 _) = some (AV.int .i64 _)
        congr 2
      · have hk0 : ¬ 0 < k := by have : ¬ ((k : Nat) : Int) > 0 := h5; omega
        have hnext : brU d.W P3 (t + 1) = brU d.W P3 t := by rw [brU, hk, if_neg hk0]
        repeat ((first | refine And.intro rfl (wrapX_i64 (by omega) ?_) | refine And.intro rfl ?_); conv => whnf)
        refine ⟨(t + 1, []), by show d.n - (t + 1) < d.n - t; omega, ⟨hi, i2.trans hnext.symm⟩, rfl, rfl, rfl, rfl, rfl, rfl, rfl, ?_, trivial⟩
        show some (AV.int .i64 _) = some (AV.int .i64 _)
        congr 2
    · have hi : ¬ ((t : Nat) : Int) < ((d.n : Nat) : Int) := h4
      obtain rfl : t = d.n := by omega
      have h1 := (d.brs_ok p).len.1
      rw [hparts, ← i2] at h1
      simp at h1
    · have hi : t < d.n := by have : ((t : Nat) : Int) < ((d.n : Nat) : Int) := h4; omega
      have rt := osV_at (l := P3) (i := t) (by omega)
      obtain ⟨k, hk⟩ : ∃ k, P3.getD t 0 = k := ⟨_, rfl⟩
      have hkW : k ≤ d.W := by have := getD_le_sum P3 t; rw [hk] at this; have := d.parts_sum p; rw [hparts] at this; omega
      rw [hk] at rt
      repeat ((first | refine idmX_eq t rfl hi (by decide) rt rfl ?_ | refine ldX_eq (r := .int .i64 ((k : Nat) : Int)) (by rw [rt]; rfl) ?_ | refine And.intro rfl ?_); conv => whnf)
      refine condX_dec (fun h5 => ?_) (fun h5 => ?_) <;> conv => whnf
      · have hk0 : 0 < k := by have : ((k : Nat) : Int) > 0 := h5; omega
        have hofk := of2_pure (n := k) (d := d.W) (by omega) (by omega) hW.1
        have hnext : brU d.W P3 (t + 1) = b :: (L ++ [brOf d.W t k]) := by
          have : brU d.W P3 (t + 1) = brU d.W P3 t ++ [brOf d.W t k] := by rw [brU, hk, if_pos hk0]
          rw [this, ← i2]; rfl
        have hll : (b :: L).length = ((b :: L).map brV).length := by simp
        refine Or.inl ⟨by decide +kernel, ?_⟩
        conv => whnf
        repeat ((first | refine ⟨_, _, fun K hK => (by (conv => whnf); first | exact hK | exact ldX_eq rfl hK | exact idmX_eq t rfl hi (by decide) rt rfl hK | exact ldX_eq (r := .int .i64 ((k : Nat) : Int)) (by rw [rt]; rfl) hK | exact callX_pure hofk (pure2 (.int _ _) (.int _ _)) hK | (refine ⟨by decide, by decide, rfl, ?_⟩; (conv => whnf); exact Or.inr hK) | (refine And.intro ⟨rfl, trivial⟩ ?_; (conv => whnf); exact apX_grow (rs := (b :: L).map brV) rfl (by decide) ⟨rfl, rfl⟩ (brV_okc _) ⟨Nat.succ_pos _, hll, by show ((b :: L).length + 1) * 24 ≤ _; omega⟩ hK) | (refine stX_box rfl ?_; (conv => whnf); exact hK)), Or.inl ⟨rfl, (by repeat' (first | exact True.intro | refine And.intro ?_ ?_ | exact Or.inl (by decide +kernel) | decide +kernel | exact Or.inr (fun K hK => (by (conv => whnf); first | exact hK | exact ldX_eq rfl hK | exact idmX_eq t rfl hi (by decide) rt rfl hK | exact ldX_eq (r := .int .i64 ((k : Nat) : Int)) (by rw [rt]; rfl) hK | exact callX_pure hofk (pure2 (.int _ _) (.int _ _)) hK | (refine ⟨by decide, by decide, rfl, ?_⟩; (conv => whnf); exact Or.inr hK) | (refine And.intro ⟨rfl, trivial⟩ ?_; (conv => whnf); exact apX_grow (rs := (b :: L).map brV) rfl (by decide) ⟨rfl, rfl⟩ (brV_okc _) ⟨Nat.succ_pos _, hll, by show ((b :: L).length + 1) * 24 ≤ _; omega⟩ hK) | (refine stX_box rfl ?_; (conv => whnf); exact hK))))), ?_⟩⟩ | refine ⟨_, _, fun K hK => (by (conv => whnf); first | exact hK | exact ldX_eq rfl hK | exact idmX_eq t rfl hi (by decide) rt rfl hK | exact ldX_eq (r := .int .i64 ((k : Nat) : Int)) (by rw [rt]; rfl) hK | exact callX_pure hofk (pure2 (.int _ _) (.int _ _)) hK | (refine ⟨by decide, by decide, rfl, ?_⟩; (conv => whnf); exact Or.inr hK) | (refine And.intro ⟨rfl, trivial⟩ ?_; (conv => whnf); exact apX_grow (rs := (b :: L).map brV) rfl (by decide) ⟨rfl, rfl⟩ (brV_okc _) ⟨Nat.succ_pos _, hll, by show ((b :: L).length + 1) * 24 ≤ _; omega⟩ hK) | (refine stX_box rfl ?_; (conv => whnf); exact hK)), Or.inr ⟨(by repeat' (first | exact True.intro | refine And.intro ?_ ?_ | exact Or.inl (by decide +kernel) | decide +kernel | exact Or.inr (fun K hK => (by (conv => whnf); first | exact hK | exact ldX_eq rfl hK | exact idmX_eq t rfl hi (by decide) rt rfl hK | exact ldX_eq (r := .int .i64 ((k : Nat) : Int)) (by rw [rt]; rfl) hK | exact callX_pure hofk (pure2 (.int _ _) (.int _ _)) hK | (refine ⟨by decide, by decide, rfl, ?_⟩; (conv => whnf); exact Or.inr hK) | (refine And.intro ⟨rfl, trivial⟩ ?_; (conv => whnf); exact apX_grow (rs := (b :: L).map brV) rfl (by decide) ⟨rfl, rfl⟩ (brV_okc _) ⟨Nat.succ_pos _, hll, by show ((b :: L).length + 1) * 24 ≤ _; omega⟩ hK) | (refine stX_box rfl ?_; (conv => whnf); exact hK))))), (by repeat' (first | exact True.intro | refine And.intro ?_ ?_ | exact Or.inl (by decide +kernel) | decide +kernel | exact Or.inr (fun K hK => (by (conv => whnf); first | exact hK | exact ldX_eq rfl hK | exact idmX_eq t rfl hi (by decide) rt rfl hK | exact ldX_eq (r := .int .i64 ((k : Nat) : Int)) (by rw [rt]; rfl) hK | exact callX_pure hofk (pure2 (.int _ _) (.int _ _)) hK | (refine ⟨by decide, by decide, rfl, ?_⟩; (conv => whnf); exact Or.inr hK) | (refine And.intro ⟨rfl, trivial⟩ ?_; (conv => whnf); exact apX_grow (rs := (b :: L).map brV) rfl (by decide) ⟨rfl, rfl⟩ (brV_okc _) ⟨Nat.succ_pos _, hll, by show ((b :: L).length + 1) * 24 ≤ _; omega⟩ hK) | (refine stX_box rfl ?_; (conv => whnf); exact hK))))), ?_⟩⟩); conv => whnf)
        repeat ((first | refine And.intro rfl (wrapX_i64 (by omega) ?_) | refine And.intro rfl ?_); conv => whnf)
        refine ⟨(t + 1, b :: (L ++ [brOf d.W t k])), by show d.n - (t + 1) < d.n - t; omega, ⟨hi, hnext.symm⟩, ?_, rfl, rfl, rfl, rfl, rfl, rfl, ?_, trivial⟩
        · have eN : (b :: L).length + 1 = (b :: (L ++ [brOf d.W t k])).length := by simp
          have eL : (b :: L).map brV ++ [brV (brOf d.W t k)] = (b :: (L ++ [brOf d.W t k])).map brV := by simp
          exact (congrArg (fun z => Heap.mk [some (.rows [drV d PV] false false), some (.rows [pkV p] false false), some (.rows [[.str [], .str [], .nils]] false false), some (.rows (osV P3) false false), some (.rows [[.str (actsL.getD (p.act % 4) []), .str (qN (p.gain % 20) d.c), .ms 5 0 (z) none]] false false), some (.rows ((b :: L).map brV ++ [brV (brOf d.W t k)]) true false)] []) eN).trans (congrArg (fun z => Heap.mk [some (.rows [drV d PV] false false), some (.rows [pkV p] false false), some (.rows [[.str [], .str [], .nils]] false false), some (.rows (osV P3) false false), some (.rows [[.str (actsL.getD (p.act % 4) []), .str (qN (p.gain % 20) d.c), .ms 5 0 ((b :: (L ++ [brOf d.W t k])).length) none]] false false), some (.rows (z) true false)] []) eL)
        show some (AV.int .i64 _) = some (AV.int .i64 _)
        congr 2
      · have hk0 : ¬ 0 < k := by have : ¬ ((k : Nat) : Int) > 0 := h5; omega
        have hnext : brU d.W P3 (t + 1) = brU d.W P3 t := by rw [brU, hk, if_neg hk0]
        repeat ((first | refine And.intro rfl (wrapX_i64 (by omega) ?_) | refine And.intro rfl ?_); conv => whnf)
        refine ⟨(t + 1, b :: L), by show d.n - (t + 1) < d.n - t; omega, ⟨hi, i2.trans hnext.symm⟩, rfl, rfl, rfl, rfl, rfl, rfl, rfl, ?_, trivial⟩
        show some (AV.int .i64 _) = some (AV.int .i64 _)
        congr 2
    · have hi : ¬ ((t : Nat) : Int) < ((d.n : Nat) : Int) := h4
      obtain rfl : t = d.n := by omega
      repeat ((first | refine ldX_eq rfl ?_ | refine stX_box rfl ?_ | refine And.intro rfl ?_); conv => whnf)
      refine .agg _ _ rfl fun i hi => ?_
      match i, hi with
      | 0, _ => exact fun _ => .pure _ (.str _)
      | 1, _ => exact fun _ => .pure _ (.str _)
      | 2, _ =>
        intro _
        have e : (d.cho p).l = b :: L := by show brU d.W (d.parts p) d.n = _; rw [hparts, ← i2]
        show Frz _ (.ms 5 0 (b :: L).length none) (.vs ((d.cho p).l.map brV) none)
        rw [e]
        exact frz_grown rfl (brV_pure _) (by simp)
end
end Go.Abs
