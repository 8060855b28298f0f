/-
  Steps to a law of this program: SEx1, SEx2, SEx3.
  Conditions: none.
-/
import Derived.Test.YtcgnfpojjjkakaaGreatDoorB28
import Derived.Test.YtcgnfpojjjkakaaGreatDoorB19
import Derived.Test.YtcgnfpojjjkakaaGreatDoorB4
set_option linter.unusedVariables false
set_option linter.unusedSimpArgs false
set_option linter.unusedSectionVars false
namespace Go.Abs
noncomputable section
open Go.Proofs
def exactT : List (TypeId × TI) := [
  (82, { desc := (.struct #[{ name := "Num", type := 80, offset := 0, embedded := false, tag := "", pkgPath := "", byteOffset := 0 }, { name := "Den", type := 80, offset := 1, embedded := false, tag := "", pkgPath := "", byteOffset := 24 }]), size := 2, bytes := 48, zero := [.nils, .nils], cmp := true }),
  (77, { desc := (.struct #[{ name := "n", type := 75, offset := 0, embedded := false, tag := "", pkgPath := "croupier/exact", byteOffset := 0 }, { name := "d", type := 75, offset := 2, embedded := false, tag := "", pkgPath := "croupier/exact", byteOffset := 32 }]), size := 4, bytes := 64, zero := [.bool false, .nils, .bool false, .nils], cmp := true }),
  (80, { desc := (.slice 77), size := 1, bytes := 24, zero := [.nils], cmp := true }),
  (3, { desc := (.int .i64), size := 1, bytes := 8, zero := [.int .i64 0], cmp := true }),
  (4, { desc := .bool, size := 1, bytes := 1, zero := [.bool false], cmp := true }),
  (75, { desc := (.struct #[{ name := "neg", type := 4, offset := 0, embedded := false, tag := "", pkgPath := "croupier/exact", byteOffset := 0 }, { name := "mag", type := 73, offset := 1, embedded := false, tag := "", pkgPath := "croupier/exact", byteOffset := 8 }]), size := 2, bytes := 32, zero := [.bool false, .nils], cmp := true }),
  (9, { desc := .string, size := 1, bytes := 16, zero := [.str []], cmp := true }),
  (23, { desc := (.slice 28), size := 1, bytes := 24, zero := [.nils], cmp := true }),
  (79, { desc := (.slice 77), size := 1, bytes := 24, zero := [.nils], cmp := true }),
  (28, { desc := .string, size := 1, bytes := 16, zero := [.str []], cmp := true }),
  (73, { desc := (.slice 197), size := 1, bytes := 24, zero := [.nils], cmp := true }),
  (58, { desc := (.int .u64), size := 1, bytes := 8, zero := [.int .u64 0], cmp := true }),
  (197, { desc := (.int .u32), size := 1, bytes := 4, zero := [.int .u32 0], cmp := true }),
  (202, { desc := (.struct #[{ name := "addr", type := 199, offset := 0, embedded := false, tag := "", pkgPath := "strings", byteOffset := 0 }, { name := "buf", type := 200, offset := 1, embedded := false, tag := "", pkgPath := "strings", byteOffset := 8 }]), size := 2, bytes := 32, zero := [.nilp, .nils], cmp := true }),
  (184, { desc := (.int .u64), size := 1, bytes := 8, zero := [.int .u64 0], cmp := true }),
  (2, { desc := (.int .i64), size := 1, bytes := 8, zero := [.int .i64 0], cmp := true }),
  (199, { desc := (.pointer 202), size := 1, bytes := 8, zero := [.nilp], cmp := true }),
  (200, { desc := (.slice 5), size := 1, bytes := 24, zero := [.nils], cmp := true }),
  (5, { desc := (.int .u8), size := 1, bytes := 1, zero := [.int .u8 0], cmp := true })]
theorem exactT_ok : TabOK Tryz.prog (tabL exactT) := tabL_ok exactT (by
  intro p hp
  simp only [exactT, List.mem_cons, List.not_mem_nil, or_false] at hp
  rcases hp with rfl | rfl | rfl | rfl | rfl | rfl | rfl | rfl | rfl | rfl | rfl | rfl | rfl | rfl | rfl | rfl | rfl | rfl | rfl <;> kernel_rfl)
theorem mixed : Tryz.prog.follows .mixedOrders = true := by decide +kernel

theorem isNaN_x {a : Int} {h : Heap} {K : AV → Heap → Prop} (hk : K (.bool false) h) : CallX Tryz.prog 189 [.int .i64 a] h K := by
  refine callX_pure (r := .bool false) ?_ (pure1 (.int _ _)) hk
  refine pure_of_call (pure1 (.int _ _)) (.bool _) (call_x exactT_ok mixed Tryz.func189 rfl (by decide +kernel) ?_)
  conv => whnf
  rw [bne_self_eq_false]
  exact .pure _ (.bool _)

theorem isNaN32_x {a : Int} {h : Heap} {K : AV → Heap → Prop} (hk : K (.bool false) h) : CallX Tryz.prog 225 [.int .u32 a] h K := by
  refine callX_pure (r := .bool false) ?_ (pure1 (.int _ _)) hk
  refine pure_of_call (pure1 (.int _ _)) (.bool _) (call_x exactT_ok mixed Tryz.func225 rfl (by decide +kernel) ?_)
  conv => whnf
  rw [bne_self_eq_false]
  exact .pure _ (.bool _)

theorem cmpInt_x {a b : Int} {h : Heap} {K : AV → Heap → Prop} (h1 : a < b → K (.int .i64 (-1)) h) (h2 : a = b → K (.int .i64 0) h) (h3 : b < a → K (.int .i64 1) h) : CallX Tryz.prog 148 [.int .i64 a, .int .i64 b] h K := by
  refine callX_pure (r := .int .i64 (if a < b then -1 else if b < a then 1 else 0)) ?_ (pure2 (.int _ _) (.int _ _)) ?_
  · refine pure_of_call (pure2 (.int _ _) (.int _ _)) (.int _ _) (call_x exactT_ok mixed Tryz.func148 rfl (by decide +kernel) ?_)
    conv => whnf
    repeat ((first | refine condX_true ?_ | refine condX_false ?_ | refine isNaN_x ?_); conv => whnf)
    refine condX_dec (fun h1 => ?_) (fun h1 => ?_) <;> conv => whnf
    · rw [if_pos h1]; exact .pure _ (.int _ _)
    · refine condX_dec (fun h2 => ?_) (fun h2 => ?_) <;> conv => whnf
      · rw [if_neg h1, if_pos h2]; exact .pure _ (.int _ _)
      · rw [if_neg h1, if_neg h2]; exact .pure _ (.int _ _)
  · split
    · exact h1 ‹_›
    · split
      · exact h3 ‹_›
      · exact h2 (by omega)

theorem cmpU32_x {a b : Int} {h : Heap} {K : AV → Heap → Prop} (h1 : a < b → K (.int .i64 (-1)) h) (h2 : a = b → K (.int .i64 0) h) (h3 : b < a → K (.int .i64 1) h) : CallX Tryz.prog 190 [.int .u32 a, .int .u32 b] h K := by
  refine callX_pure (r := .int .i64 (if a < b then -1 else if b < a then 1 else 0)) ?_ (pure2 (.int _ _) (.int _ _)) ?_
  · refine pure_of_call (pure2 (.int _ _) (.int _ _)) (.int _ _) (call_x exactT_ok mixed Tryz.func190 rfl (by decide +kernel) ?_)
    conv => whnf
    repeat ((first | refine condX_true ?_ | refine condX_false ?_ | refine isNaN32_x ?_); conv => whnf)
    refine condX_dec (fun h1 => ?_) (fun h1 => ?_) <;> conv => whnf
    · rw [if_pos h1]; exact .pure _ (.int _ _)
    · refine condX_dec (fun h2 => ?_) (fun h2 => ?_) <;> conv => whnf
      · rw [if_neg h1, if_pos h2]; exact .pure _ (.int _ _)
      · rw [if_neg h1, if_neg h2]; exact .pure _ (.int _ _)
  · split
    · exact h1 ‹_›
    · split
      · exact h3 ‹_›
      · exact h2 (by omega)

theorem compare_pure (m o : List Nat) (x y : AV) (hx : MagV m x) (hy : MagV o y) (hm : m.length < 4611686018427387904) : PureSem Tryz.prog 149 [x, y] (.int .i64 (cmpMag m o)) := by
  refine pure_of_call (pure2 hx.pure hy.pure) (.int _ _) (call_x exactT_ok mixed Tryz.func149 rfl (by decide +kernel) ?_)
  cases hx with
  | nils h0 =>
    subst h0
    cases hy with
    | nils h0 =>
      subst h0
      conv => whnf
      refine cmpInt_x (fun h1 => by omega) (fun h1 => ?_) (fun h1 => by omega)
      conv => whnf
      repeat ((first | refine condX_true ?_ | refine condX_false ?_ | refine condX_t rfl ?_ | refine condX_f rfl ?_ | refine And.intro rfl ?_ | refine wrapX_i64 (by omega) ?_); conv => whnf)
      refine t_inLoop (wpx_ok exactT_ok mixed _ _ _ ?_)
      conv => whnf
      repeat ((first | refine condX_true ?_ | refine condX_false ?_ | refine condX_t rfl ?_ | refine condX_f rfl ?_); conv => whnf)
      exact .pure _ (.int _ _)
    | vs c' =>
      conv => whnf
      repeat ((first | refine condX_true ?_ | refine condX_false ?_ | refine lenX_eq (limbsV_length _) ?_); conv => whnf)
      refine cmpInt_x (fun h1 => ?_) (fun h1 => ?_) (fun h1 => by omega) <;> conv => whnf
      · repeat ((first | refine condX_true ?_ | refine condX_false ?_ | refine condX_t rfl ?_ | refine condX_f rfl ?_); conv => whnf)
        rw [cmpMag, if_pos (by simp; omega)]
        exact .pure _ (.int _ _)
      · repeat ((first | refine condX_true ?_ | refine condX_false ?_ | refine condX_t rfl ?_ | refine condX_f rfl ?_ | refine And.intro rfl ?_ | refine wrapX_i64 (by omega) ?_); conv => whnf)
        refine t_inLoop (wpx_ok exactT_ok mixed _ _ _ ?_)
        conv => whnf
        repeat ((first | refine condX_true ?_ | refine condX_false ?_ | refine condX_t rfl ?_ | refine condX_f rfl ?_); conv => whnf)
        have : o = [] := List.eq_nil_of_length_eq_zero (by omega)
        subst this
        exact .pure _ (.int _ _)
  | vs c =>
    cases hy with
    | nils h0 =>
      subst h0
      conv => whnf
      repeat ((first | refine condX_true ?_ | refine condX_false ?_ | refine lenX_eq (limbsV_length _) ?_); conv => whnf)
      refine cmpInt_x (fun h1 => by omega) (fun h1 => ?_) (fun h1 => ?_) <;> conv => whnf
      · repeat ((first | refine condX_true ?_ | refine condX_false ?_ | refine condX_t rfl ?_ | refine condX_f rfl ?_ | refine lenX_eq (limbsV_length _) ?_ | refine And.intro rfl ?_ | refine wrapX_i64 (by omega) ?_); conv => whnf)
        have : m = [] := List.eq_nil_of_length_eq_zero (by omega)
        subst this
        refine t_inLoop (wpx_ok exactT_ok mixed _ _ _ ?_)
        conv => whnf
        repeat ((first | refine condX_true ?_ | refine condX_false ?_ | refine condX_t rfl ?_ | refine condX_f rfl ?_); conv => whnf)
        exact .pure _ (.int _ _)
      · repeat ((first | refine condX_true ?_ | refine condX_false ?_ | refine condX_t rfl ?_ | refine condX_f rfl ?_); conv => whnf)
        rw [cmpMag, if_neg (by simp), if_pos (by simp; omega)]
        exact .pure _ (.int _ _)
    | vs c' =>
      conv => whnf
      repeat ((first | refine condX_true ?_ | refine condX_false ?_ | refine lenX_eq (limbsV_length _) ?_); conv => whnf)
      refine cmpInt_x (fun h1 => ?_) (fun h1 => ?_) (fun h1 => ?_) <;> conv => whnf
      · repeat ((first | refine condX_true ?_ | refine condX_false ?_); conv => whnf)
        rw [cmpMag, if_pos (by omega)]
        exact .pure _ (.int _ _)
      · repeat ((first | refine condX_true ?_ | refine condX_false ?_ | refine lenX_eq (limbsV_length _) ?_ | refine And.intro rfl ?_ | refine wrapX_i64 (by omega) ?_); conv => whnf)
        refine loop_p exactT_ok mixed 35 (fun k : Nat => k) (fun k => k ≤ m.length ∧ cmpTop m o m.length = cmpTop m o k) (fun k => [(0, .vs (limbsV m) c), (1, .vs (limbsV o) c'), (6, .int .i64 ((k : Int) - 1))]) (fun _ => ⟨[], []⟩)
          ?_ m.length _ ⟨Nat.le_refl _, rfl⟩ rfl rfl ⟨rfl, rfl, rfl, trivial⟩
        rintro k g ⟨hk, he⟩
        conv => whnf
        refine condX_dec (fun h2 => ?_) (fun h2 => ?_) <;> conv => whnf
        · obtain ⟨j, rfl⟩ : ∃ j, k = j + 1 := ⟨k - 1, by omega⟩
          have hj1 : j < m.length := by omega
          have hj2 : j < o.length := by omega
          have em : m.getD j 0 = m[j] := by simp [hj1]
          have eo : o.getD j 0 = o[j] := by simp [hj2]
          have hcase : (m[j] < o[j]) ∨ (m[j] = o[j]) ∨ (o[j] < m[j]) := by omega
          refine Or.inl ⟨by decide +kernel, ?_⟩
          conv => whnf
          rcases hcase with h3 | h3 | h3
          all_goals
            repeat ((first | refine ⟨_, _, fun K hK => (by (conv => whnf); first | exact hK | exact idx_limbs j (by omega) (by omega) hK | exact cmpU32_x (fun _ => hK) (fun _ => by omega) (fun _ => by omega) | exact cmpU32_x (fun _ => by omega) (fun _ => hK) (fun _ => by omega) | exact cmpU32_x (fun _ => by omega) (fun _ => by omega) (fun _ => hK)), Or.inl ⟨rfl, (by repeat' (first | exact True.intro | refine And.intro ?_ ?_ | exact Or.inl (by decide +kernel) | decide +kernel | exact Or.inr (fun K hK => (by (conv => whnf); first | exact hK | exact idx_limbs j (by omega) (by omega) hK | exact cmpU32_x (fun _ => hK) (fun _ => by omega) (fun _ => by omega) | exact cmpU32_x (fun _ => by omega) (fun _ => hK) (fun _ => by omega) | exact cmpU32_x (fun _ => by omega) (fun _ => by omega) (fun _ => hK))))), ?_⟩⟩ | refine ⟨_, _, fun K hK => (by (conv => whnf); first | exact hK | exact idx_limbs j (by omega) (by omega) hK | exact cmpU32_x (fun _ => hK) (fun _ => by omega) (fun _ => by omega) | exact cmpU32_x (fun _ => by omega) (fun _ => hK) (fun _ => by omega) | exact cmpU32_x (fun _ => by omega) (fun _ => by omega) (fun _ => hK)), Or.inr ⟨(by repeat' (first | exact True.intro | refine And.intro ?_ ?_ | exact Or.inl (by decide +kernel) | decide +kernel | exact Or.inr (fun K hK => (by (conv => whnf); first | exact hK | exact idx_limbs j (by omega) (by omega) hK | exact cmpU32_x (fun _ => hK) (fun _ => by omega) (fun _ => by omega) | exact cmpU32_x (fun _ => by omega) (fun _ => hK) (fun _ => by omega) | exact cmpU32_x (fun _ => by omega) (fun _ => by omega) (fun _ => hK))))), (by repeat' (first | exact True.intro | refine And.intro ?_ ?_ | exact Or.inl (by decide +kernel) | decide +kernel | exact Or.inr (fun K hK => (by (conv => whnf); first | exact hK | exact idx_limbs j (by omega) (by omega) hK | exact cmpU32_x (fun _ => hK) (fun _ => by omega) (fun _ => by omega) | exact cmpU32_x (fun _ => by omega) (fun _ => hK) (fun _ => by omega) | exact cmpU32_x (fun _ => by omega) (fun _ => by omega) (fun _ => hK))))), ?_⟩⟩); conv => whnf)
            repeat ((first | refine condX_true ?_ | refine condX_false ?_ | refine And.intro rfl ?_ | refine wrapX_i64 (by omega) ?_); conv => whnf)
          · rw [cmpMag, if_neg (by omega), if_neg (by omega), he, cmpTop, em, eo, if_pos h3]
            exact .pure _ (.int _ _)
          · refine ⟨j, by omega, ⟨by omega, ?_⟩, rfl, rfl, rfl, rfl, ?_, trivial⟩
            · rw [he, cmpTop, em, eo, if_neg (by omega), if_neg (by omega)]
            · show some _ = some _
              congr 2; omega
          · rw [cmpMag, if_neg (by omega), if_neg (by omega), he, cmpTop, em, eo, if_neg (by omega), if_pos h3]
            exact .pure _ (.int _ _)
        · obtain rfl : k = 0 := by omega
          rw [cmpMag, if_neg (by omega), if_neg (by omega), he]
          exact .pure _ (.int _ _)
      · repeat ((first | refine condX_true ?_ | refine condX_false ?_); conv => whnf)
        rw [cmpMag, if_neg (by omega), if_pos (by omega)]
        exact .pure _ (.int _ _)

theorem whole_pure (neg : Bool) (l : List Nat) (c : Option Nat) (hl : l.length < 4611686018427387904) : ∃ c', PureSem Tryz.prog 115 [.bool neg, .vs (limbsV l) c] (.agg [.bool (neg && decide (trim l ≠ [])), .vs (limbsV (trim l)) c']) := by
  refine ⟨c, pure_of_call (pure2 (.bool _) (pure_limbs l c)) (pure_agg2 (.bool _) (pure_limbs _ _)) (call_x exactT_ok mixed Tryz.func115 rfl (by decide +kernel) ?_)⟩
  conv => whnf
  refine ⟨⟨by decide, rfl⟩, ?_⟩
  conv => whnf
  refine loop_p exactT_ok mixed 30 (fun k : Nat => k) (fun k => k ≤ l.length ∧ trim (l.take k) = trim l) (fun k => [(0, .bool neg), (1, .vs (limbsV (l.take k)) c), (4, .ptr 0 0 0)])
    (fun _ => ⟨[some (.rows [[.bool false, .nils]] false false)], []⟩) ?_ l.length _ ⟨Nat.le_refl _, by rw [List.take_length]⟩ rfl rfl ⟨rfl, by rw [List.take_length]; rfl, rfl, trivial⟩
  rintro k g ⟨hk, he⟩
  cases k with
  | zero =>
    conv => whnf
    repeat ((first | refine condX_t rfl ?_ | refine condX_f rfl ?_ | refine lenX_eq rfl ?_); conv => whnf)
    have e0 : trim l = [] := he.symm
    rw [e0]
    cases neg <;> conv => whnf
    all_goals
      repeat ((first | refine condX_t rfl ?_ | refine condX_f rfl ?_ | refine lenX_eq rfl ?_ | refine stX_box rfl ?_ | refine ldX_eq rfl ?_); conv => whnf)
      exact .pure _ (pure_agg2 (.bool _) (pure_limbs _ _))
  | succ j =>
    have hd : decide (((j + 1 : Nat) : Int) > 0) = true := by simp
    have hj : j < l.length := by omega
    conv => whnf
    refine lenX_eq (m := j + 1) (by rw [limbsV_length, List.length_take]; omega) ?_
    conv => whnf
    repeat ((first | refine condX_t (by rw [hd]; rfl) ?_ | refine lenX_eq (m := j + 1) (by rw [limbsV_length, List.length_take]; omega) ?_ | refine And.intro rfl ?_ | refine wrapX_i64 (by omega) ?_ | refine idx_limbs j (by omega) (by rw [List.length_take]; omega) ?_ | refine condX_t hd ?_); conv => whnf)
    by_cases h0 : l[j] = 0
    · refine condX_t (by simp [h0]) ?_
      conv => whnf
      repeat ((first | refine lenX_eq (m := j + 1) (by rw [limbsV_length, List.length_take]; omega) ?_ | refine And.intro rfl ?_ | refine wrapX_i64 (by omega) ?_ | refine slc_limbs0 (r := l.take j) ⟨by omega, by rw [List.length_take]; omega⟩ (by rw [List.take_take]; congr 1; omega) ?_); conv => whnf)
      exact ⟨j, by omega, ⟨by omega, by rw [← he, trim_take_succ hj h0]⟩, rfl, rfl, rfl, rfl, rfl, trivial⟩
    · have et : trim l = l.take (j + 1) := by rw [← he, trim_take_last hj h0]
      have en : decide (trim l ≠ []) = true := by rw [et]; simp; intro h; simp [h] at hj
      refine condX_f (by simp [h0]) ?_
      conv => whnf
      cases neg <;> conv => whnf
      all_goals
        repeat ((first | refine condX_t rfl ?_ | refine condX_f rfl ?_ | refine lenX_eq (m := j + 1) (by rw [limbsV_length, List.length_take]; omega) ?_ | refine stX_box rfl ?_ | refine ldX_eq rfl ?_); conv => whnf)
        rw [en, et]
        try rw [hd]
        exact .pure _ (pure_agg2 (.bool _) (pure_limbs _ _))
end
end Go.Abs

namespace Go.Abs
noncomputable section
open Go.Proofs

set_option maxHeartbeats 1000000 in
theorem plus_lt_vs (a b : List Nat) (ca cB : Option Nat) (oa : okL a) (ob : okL b) (ha : a.length < 1000000000000) (hl : b.length < a.length) :
    PureSem Tryz.prog 178 [.vs (limbsV b) cB, .vs (limbsV a) ca] (.vs (limbsV (plusL a b)) (some (a.length + 1))) := by
  refine pure_of_call (pure2 (pure_limbs _ _) (pure_limbs _ _)) (pure_limbs _ _) (call_x exactT_ok mixed Tryz.func178 rfl (by decide +kernel) ?_)
  conv => whnf
  repeat ((first | refine lenX_eq (limbsV_length _) ?_ | refine condX_true ?_ | refine condX_false ?_); conv => whnf)
  refine condX_t (decide_eq_true (by omega)) ?_
  conv => whnf
  repeat ((first | refine lenX_eq (limbsV_length _) ?_ | refine And.intro rfl ?_ | refine wrapX_i64 (by omega) ?_); conv => whnf)
  refine mkX_eq (n := 0) (m := a.length + 1) rfl (by omega) ⟨by omega, (show 4 * (a.length + 1) ≤ 140737488355328 by omega), by omega⟩ ⟨by decide, rfl⟩ (limbsV_replicate _) ?_
  conv => whnf
  repeat ((first | refine lenX_eq (limbsV_length _) ?_ | refine And.intro rfl ?_ | refine wrapX_i64 (by omega) ?_); conv => whnf)
  refine loop_p exactT_ok mixed 56 (fun i : Nat => a.length - i) (fun i => i ≤ a.length)
    (fun i => [(0, .vs (limbsV a) ca), (1, .vs (limbsV b) cB), (5, .ms 0 0 i (some (a.length + 1))), (6, .int .u32 ((carS (plusT a b) i : Nat) : Int)), (21, .vs (limbsV a) ca), (22, .int .i64 (a.length : Int)), (23, .int .i64 ((i : Nat) : Int))])
    (fun i => ⟨[some (.rows (limbsV (outS (plusT a b) i ++ List.replicate (a.length + 1 - i) 0)) false false)], []⟩) ?_ 0 _ (Nat.zero_le _) rfl rfl ⟨rfl, rfl, rfl, rfl, rfl, rfl, rfl, trivial⟩
  rintro i g hi
  have hc := plus_car oa ob i
  conv => whnf
  refine condX_dec (fun h1 => ?_) (fun h1 => ?_) <;> conv => whnf
  · have hiA : i < a.length := by omega
    have hA := okL_get oa hiA
    have eA : a.getD i 0 = a[i] := by simp [hiA]
    have eS : (outS (plusT a b) i ++ List.replicate (a.length + 1 - i) 0).set i (digS (plusT a b) i) = outS (plusT a b) (i + 1) ++ List.replicate (a.length + 1 - (i + 1)) 0 := by
      rw [outS_succ, show a.length + 1 - i = (a.length + 1 - (i + 1)) + 1 by omega]
      exact set_at _ _ _ _ (outS_length _ _)
    refine idx_limbs i rfl hiA ?_
    conv => whnf
    repeat ((first | refine ldX_eq rfl ?_ | refine And.intro rfl ?_ | refine wrapX_u32 (by omega) ?_ | refine lenX_eq (limbsV_length _) ?_); conv => whnf)
    refine condX_dec (fun h2 => ?_) (fun h2 => ?_) <;> conv => whnf
    · have hiB : i < b.length := by omega
      have hB := okL_get ob hiB
      have eB : b.getD i 0 = b[i] := by simp [hiB]
      have eT : plusT a b i = a[i] + b[i] := by unfold plusT; rw [eA, eB]
      refine idx_limbs i rfl hiB ?_
      conv => whnf
      repeat ((first | refine ldX_eq rfl ?_ | refine And.intro rfl ?_ | refine wrapX_u32 (by omega) ?_); conv => whnf)
      refine divX_nat (plusT a b i + carS (plusT a b) i) 1000000000 (by rw [eT]; push_cast; omega) rfl (by omega) (IntWalk.u32_in _ (by have := Nat.div_le_self (plusT a b i + carS (plusT a b) i) 1000000000; have h3 := plusT_lt oa ob i; omega)) ?_
      conv => whnf
      refine ⟨rfl, remX_nat (plusT a b i + carS (plusT a b) i) 1000000000 (by rw [eT]; push_cast; omega) rfl (by omega) ?_⟩
      conv => whnf
      refine ⟨by decide, by decide, rfl, ?_⟩
      conv => whnf
      refine Or.inr ?_
      conv => whnf
      refine ⟨⟨rfl, trivial⟩, ?_⟩
      conv => whnf
      refine apX_limbs_room (d := digS (plusT a b) i) rfl ⟨rfl, rfl⟩ ⟨by omega, by rw [List.length_append, outS_length, List.length_replicate]; omega, by omega⟩ ?_
      conv => whnf
      repeat ((first | refine And.intro rfl ?_ | refine wrapX_i64 (by omega) ?_); conv => whnf)
      refine ⟨i + 1, by omega, by omega, ?_, rfl, rfl, rfl, rfl, rfl, rfl, rfl, rfl, trivial⟩
      show Heap.mk [some (.rows (limbsV (List.set _ _ _)) false false)] [] = Heap.mk [some (.rows (limbsV (_ ++ _)) false false)] []
      rw [eS]
    · have eB : b.getD i 0 = 0 := by simp [List.getElem?_eq_none (show b.length ≤ i by omega)]
      have eT : plusT a b i = a[i] + 0 := by unfold plusT; rw [eA, eB]
      repeat ((first | refine And.intro rfl ?_); conv => whnf)
      refine divX_nat (plusT a b i + carS (plusT a b) i) 1000000000 (by rw [eT]; push_cast; omega) rfl (by omega) (IntWalk.u32_in _ (by have := Nat.div_le_self (plusT a b i + carS (plusT a b) i) 1000000000; have h3 := plusT_lt oa ob i; omega)) ?_
      conv => whnf
      refine ⟨rfl, remX_nat (plusT a b i + carS (plusT a b) i) 1000000000 (by rw [eT]; push_cast; omega) rfl (by omega) ?_⟩
      conv => whnf
      refine ⟨by decide, by decide, rfl, ?_⟩
      conv => whnf
      refine Or.inr ?_
      conv => whnf
      refine ⟨⟨rfl, trivial⟩, ?_⟩
      conv => whnf
      refine apX_limbs_room (d := digS (plusT a b) i) rfl ⟨rfl, rfl⟩ ⟨by omega, by rw [List.length_append, outS_length, List.length_replicate]; omega, by omega⟩ ?_
      conv => whnf
      repeat ((first | refine And.intro rfl ?_ | refine wrapX_i64 (by omega) ?_); conv => whnf)
      refine ⟨i + 1, by omega, by omega, ?_, rfl, rfl, rfl, rfl, rfl, rfl, rfl, rfl, trivial⟩
      show Heap.mk [some (.rows (limbsV (List.set _ _ _)) false false)] [] = Heap.mk [some (.rows (limbsV (_ ++ _)) false false)] []
      rw [eS]
  · obtain rfl : i = a.length := by omega
    by_cases hz : carS (plusT a b) a.length = 0
    · refine condX_f (by rw [hz]; rfl) ?_
      conv => whnf
      refine frz_limbs rfl (by rw [List.length_append, outS_length]; omega) ?_
      unfold plusL
      rw [if_pos hz, List.drop_zero, List.take_left' (outS_length _ _), List.append_nil]
    · refine condX_t (decide_eq_true (by omega)) ?_
      conv => whnf
      refine ⟨by decide, by decide, rfl, ?_⟩
      conv => whnf
      refine Or.inr ?_
      conv => whnf
      refine ⟨⟨rfl, trivial⟩, ?_⟩
      conv => whnf
      refine apX_limbs_room (d := carS (plusT a b) a.length) rfl ⟨rfl, rfl⟩ ⟨by omega, by rw [List.length_append, outS_length, List.length_replicate]; omega, by omega⟩ ?_
      conv => whnf
      refine frz_limbs rfl (by rw [List.length_set, List.length_append, outS_length, List.length_replicate]; omega) ?_
      have eS : (outS (plusT a b) a.length ++ List.replicate (a.length + 1 - a.length) 0).set a.length (carS (plusT a b) a.length) = outS (plusT a b) a.length ++ [carS (plusT a b) a.length] ++ List.replicate 0 0 := by
        rw [show a.length + 1 - a.length = 0 + 1 by omega]
        exact set_at _ _ _ _ (outS_length _ _)
      rw [eS, List.drop_zero]
      unfold plusL
      rw [if_neg hz, List.replicate_zero, List.append_nil]
      exact List.take_of_length_le (by rw [List.length_append, outS_length]; simp)

set_option maxHeartbeats 1000000 in
theorem plus_ge_vs (a b : List Nat) (ca cB : Option Nat) (oa : okL a) (ob : okL b) (ha : a.length < 1000000000000) (hl : b.length ≤ a.length) :
    PureSem Tryz.prog 178 [.vs (limbsV a) ca, .vs (limbsV b) cB] (.vs (limbsV (plusL a b)) (some (a.length + 1))) := by
  refine pure_of_call (pure2 (pure_limbs _ _) (pure_limbs _ _)) (pure_limbs _ _) (call_x exactT_ok mixed Tryz.func178 rfl (by decide +kernel) ?_)
  conv => whnf
  repeat ((first | refine lenX_eq (limbsV_length _) ?_ | refine condX_true ?_ | refine condX_false ?_); conv => whnf)
  refine condX_f (decide_eq_false (by omega)) ?_
  conv => whnf
  repeat ((first | refine lenX_eq (limbsV_length _) ?_ | refine And.intro rfl ?_ | refine wrapX_i64 (by omega) ?_); conv => whnf)
  refine mkX_eq (n := 0) (m := a.length + 1) rfl (by omega) ⟨by omega, (show 4 * (a.length + 1) ≤ 140737488355328 by omega), by omega⟩ ⟨by decide, rfl⟩ (limbsV_replicate _) ?_
  conv => whnf
  repeat ((first | refine lenX_eq (limbsV_length _) ?_ | refine And.intro rfl ?_ | refine wrapX_i64 (by omega) ?_); conv => whnf)
  refine loop_p exactT_ok mixed 56 (fun i : Nat => a.length - i) (fun i => i ≤ a.length)
    (fun i => [(0, .vs (limbsV a) ca), (1, .vs (limbsV b) cB), (5, .ms 0 0 i (some (a.length + 1))), (6, .int .u32 ((carS (plusT a b) i : Nat) : Int)), (21, .vs (limbsV a) ca), (22, .int .i64 (a.length : Int)), (23, .int .i64 ((i : Nat) : Int))])
    (fun i => ⟨[some (.rows (limbsV (outS (plusT a b) i ++ List.replicate (a.length + 1 - i) 0)) false false)], []⟩) ?_ 0 _ (Nat.zero_le _) rfl rfl ⟨rfl, rfl, rfl, rfl, rfl, rfl, rfl, trivial⟩
  rintro i g hi
  have hc := plus_car oa ob i
  conv => whnf
  refine condX_dec (fun h1 => ?_) (fun h1 => ?_) <;> conv => whnf
  · have hiA : i < a.length := by omega
    have hA := okL_get oa hiA
    have eA : a.getD i 0 = a[i] := by simp [hiA]
    have eS : (outS (plusT a b) i ++ List.replicate (a.length + 1 - i) 0).set i (digS (plusT a b) i) = outS (plusT a b) (i + 1) ++ List.replicate (a.length + 1 - (i + 1)) 0 := by
      rw [outS_succ, show a.length + 1 - i = (a.length + 1 - (i + 1)) + 1 by omega]
      exact set_at _ _ _ _ (outS_length _ _)
    refine idx_limbs i rfl hiA ?_
    conv => whnf
    repeat ((first | refine ldX_eq rfl ?_ | refine And.intro rfl ?_ | refine wrapX_u32 (by omega) ?_ | refine lenX_eq (limbsV_length _) ?_); conv => whnf)
    refine condX_dec (fun h2 => ?_) (fun h2 => ?_) <;> conv => whnf
    · have hiB : i < b.length := by omega
      have hB := okL_get ob hiB
      have eB : b.getD i 0 = b[i] := by simp [hiB]
      have eT : plusT a b i = a[i] + b[i] := by unfold plusT; rw [eA, eB]
      refine idx_limbs i rfl hiB ?_
      conv => whnf
      repeat ((first | refine ldX_eq rfl ?_ | refine And.intro rfl ?_ | refine wrapX_u32 (by omega) ?_); conv => whnf)
      refine divX_nat (plusT a b i + carS (plusT a b) i) 1000000000 (by rw [eT]; push_cast; omega) rfl (by omega) (IntWalk.u32_in _ (by have := Nat.div_le_self (plusT a b i + carS (plusT a b) i) 1000000000; have h3 := plusT_lt oa ob i; omega)) ?_
      conv => whnf
      refine ⟨rfl, remX_nat (plusT a b i + carS (plusT a b) i) 1000000000 (by rw [eT]; push_cast; omega) rfl (by omega) ?_⟩
      conv => whnf
      refine ⟨by decide, by decide, rfl, ?_⟩
      conv => whnf
      refine Or.inr ?_
      conv => whnf
      refine ⟨⟨rfl, trivial⟩, ?_⟩
      conv => whnf
      refine apX_limbs_room (d := digS (plusT a b) i) rfl ⟨rfl, rfl⟩ ⟨by omega, by rw [List.length_append, outS_length, List.length_replicate]; omega, by omega⟩ ?_
      conv => whnf
      repeat ((first | refine And.intro rfl ?_ | refine wrapX_i64 (by omega) ?_); conv => whnf)
      refine ⟨i + 1, by omega, by omega, ?_, rfl, rfl, rfl, rfl, rfl, rfl, rfl, rfl, trivial⟩
      show Heap.mk [some (.rows (limbsV (List.set _ _ _)) false false)] [] = Heap.mk [some (.rows (limbsV (_ ++ _)) false false)] []
      rw [eS]
    · have eB : b.getD i 0 = 0 := by simp [List.getElem?_eq_none (show b.length ≤ i by omega)]
      have eT : plusT a b i = a[i] + 0 := by unfold plusT; rw [eA, eB]
      repeat ((first | refine And.intro rfl ?_); conv => whnf)
      refine divX_nat (plusT a b i + carS (plusT a b) i) 1000000000 (by rw [eT]; push_cast; omega) rfl (by omega) (IntWalk.u32_in _ (by have := Nat.div_le_self (plusT a b i + carS (plusT a b) i) 1000000000; have h3 := plusT_lt oa ob i; omega)) ?_
      conv => whnf
      refine ⟨rfl, remX_nat (plusT a b i + carS (plusT a b) i) 1000000000 (by rw [eT]; push_cast; omega) rfl (by omega) ?_⟩
      conv => whnf
      refine ⟨by decide, by decide, rfl, ?_⟩
      conv => whnf
      refine Or.inr ?_
      conv => whnf
      refine ⟨⟨rfl, trivial⟩, ?_⟩
      conv => whnf
      refine apX_limbs_room (d := digS (plusT a b) i) rfl ⟨rfl, rfl⟩ ⟨by omega, by rw [List.length_append, outS_length, List.length_replicate]; omega, by omega⟩ ?_
      conv => whnf
      repeat ((first | refine And.intro rfl ?_ | refine wrapX_i64 (by omega) ?_); conv => whnf)
      refine ⟨i + 1, by omega, by omega, ?_, rfl, rfl, rfl, rfl, rfl, rfl, rfl, rfl, trivial⟩
      show Heap.mk [some (.rows (limbsV (List.set _ _ _)) false false)] [] = Heap.mk [some (.rows (limbsV (_ ++ _)) false false)] []
      rw [eS]
  · obtain rfl : i = a.length := by omega
    by_cases hz : carS (plusT a b) a.length = 0
    · refine condX_f (by rw [hz]; rfl) ?_
      conv => whnf
      refine frz_limbs rfl (by rw [List.length_append, outS_length]; omega) ?_
      unfold plusL
      rw [if_pos hz, List.drop_zero, List.take_left' (outS_length _ _), List.append_nil]
    · refine condX_t (decide_eq_true (by omega)) ?_
      conv => whnf
      refine ⟨by decide, by decide, rfl, ?_⟩
      conv => whnf
      refine Or.inr ?_
      conv => whnf
      refine ⟨⟨rfl, trivial⟩, ?_⟩
      conv => whnf
      refine apX_limbs_room (d := carS (plusT a b) a.length) rfl ⟨rfl, rfl⟩ ⟨by omega, by rw [List.length_append, outS_length, List.length_replicate]; omega, by omega⟩ ?_
      conv => whnf
      refine frz_limbs rfl (by rw [List.length_set, List.length_append, outS_length, List.length_replicate]; omega) ?_
      have eS : (outS (plusT a b) a.length ++ List.replicate (a.length + 1 - a.length) 0).set a.length (carS (plusT a b) a.length) = outS (plusT a b) a.length ++ [carS (plusT a b) a.length] ++ List.replicate 0 0 := by
        rw [show a.length + 1 - a.length = 0 + 1 by omega]
        exact set_at _ _ _ _ (outS_length _ _)
      rw [eS, List.drop_zero]
      unfold plusL
      rw [if_neg hz, List.replicate_zero, List.append_nil]
      exact List.take_of_length_le (by rw [List.length_append, outS_length]; simp)

set_option maxHeartbeats 1000000 in
theorem plus_lt_nils (a : List Nat) (ca : Option Nat) (oa : okL a) (ha : a.length < 1000000000000) (hl : 0 < a.length) :
    PureSem Tryz.prog 178 [.nils, .vs (limbsV a) ca] (.vs (limbsV (plusL a [])) (some (a.length + 1))) := by
  refine pure_of_call (pure2 .nils (pure_limbs _ _)) (pure_limbs _ _) (call_x exactT_ok mixed Tryz.func178 rfl (by decide +kernel) ?_)
  conv => whnf
  repeat ((first | refine lenX_eq (limbsV_length _) ?_ | refine condX_true ?_ | refine condX_false ?_); conv => whnf)
  refine condX_t (decide_eq_true (by omega)) ?_
  conv => whnf
  repeat ((first | refine lenX_eq (limbsV_length _) ?_ | refine And.intro rfl ?_ | refine wrapX_i64 (by omega) ?_); conv => whnf)
  refine mkX_eq (n := 0) (m := a.length + 1) rfl (by omega) ⟨by omega, (show 4 * (a.length + 1) ≤ 140737488355328 by omega), by omega⟩ ⟨by decide, rfl⟩ (limbsV_replicate _) ?_
  conv => whnf
  repeat ((first | refine lenX_eq (limbsV_length _) ?_ | refine And.intro rfl ?_ | refine wrapX_i64 (by omega) ?_); conv => whnf)
  refine loop_p exactT_ok mixed 56 (fun i : Nat => a.length - i) (fun i => i ≤ a.length)
    (fun i => [(0, .vs (limbsV a) ca), (1, .nils), (5, .ms 0 0 i (some (a.length + 1))), (6, .int .u32 ((carS (plusT a []) i : Nat) : Int)), (21, .vs (limbsV a) ca), (22, .int .i64 (a.length : Int)), (23, .int .i64 ((i : Nat) : Int))])
    (fun i => ⟨[some (.rows (limbsV (outS (plusT a []) i ++ List.replicate (a.length + 1 - i) 0)) false false)], []⟩) ?_ 0 _ (Nat.zero_le _) rfl rfl ⟨rfl, rfl, rfl, rfl, rfl, rfl, rfl, trivial⟩
  rintro i g hi
  have hc := plus_car oa okL_nil i
  conv => whnf
  refine condX_dec (fun h1 => ?_) (fun h1 => ?_) <;> conv => whnf
  · have hiA : i < a.length := by omega
    have hA := okL_get oa hiA
    have eA : a.getD i 0 = a[i] := by simp [hiA]
    have eS : (outS (plusT a []) i ++ List.replicate (a.length + 1 - i) 0).set i (digS (plusT a []) i) = outS (plusT a []) (i + 1) ++ List.replicate (a.length + 1 - (i + 1)) 0 := by
      rw [outS_succ, show a.length + 1 - i = (a.length + 1 - (i + 1)) + 1 by omega]
      exact set_at _ _ _ _ (outS_length _ _)
    refine idx_limbs i rfl hiA ?_
    conv => whnf
    repeat ((first | refine ldX_eq rfl ?_ | refine And.intro rfl ?_ | refine wrapX_u32 (by omega) ?_ | refine lenX_eq (limbsV_length _) ?_); conv => whnf)
    refine condX_f (decide_eq_false (by omega)) ?_
    conv => whnf
    have eB : ([] : List Nat).getD i 0 = 0 := by simp
    have eT : plusT a [] i = a[i] + 0 := by unfold plusT; rw [eA, eB]
    repeat ((first | refine And.intro rfl ?_); conv => whnf)
    refine divX_nat (plusT a [] i + carS (plusT a []) i) 1000000000 (by rw [eT]; push_cast; omega) rfl (by omega) (IntWalk.u32_in _ (by have := Nat.div_le_self (plusT a [] i + carS (plusT a []) i) 1000000000; have h3 := plusT_lt oa okL_nil i; omega)) ?_
    conv => whnf
    refine ⟨rfl, remX_nat (plusT a [] i + carS (plusT a []) i) 1000000000 (by rw [eT]; push_cast; omega) rfl (by omega) ?_⟩
    conv => whnf
    refine ⟨by decide, by decide, rfl, ?_⟩
    conv => whnf
    refine Or.inr ?_
    conv => whnf
    refine ⟨⟨rfl, trivial⟩, ?_⟩
    conv => whnf
    refine apX_limbs_room (d := digS (plusT a []) i) rfl ⟨rfl, rfl⟩ ⟨by omega, by rw [List.length_append, outS_length, List.length_replicate]; omega, by omega⟩ ?_
    conv => whnf
    repeat ((first | refine And.intro rfl ?_ | refine wrapX_i64 (by omega) ?_); conv => whnf)
    refine ⟨i + 1, by omega, by omega, ?_, rfl, rfl, rfl, rfl, rfl, rfl, rfl, rfl, trivial⟩
    show Heap.mk [some (.rows (limbsV (List.set _ _ _)) false false)] [] = Heap.mk [some (.rows (limbsV (_ ++ _)) false false)] []
    rw [eS]
  · obtain rfl : i = a.length := by omega
    by_cases hz : carS (plusT a []) a.length = 0
    · refine condX_f (by rw [hz]; rfl) ?_
      conv => whnf
      refine frz_limbs rfl (by rw [List.length_append, outS_length]; omega) ?_
      unfold plusL
      rw [if_pos hz, List.drop_zero, List.take_left' (outS_length _ _), List.append_nil]
    · refine condX_t (decide_eq_true (by omega)) ?_
      conv => whnf
      refine ⟨by decide, by decide, rfl, ?_⟩
      conv => whnf
      refine Or.inr ?_
      conv => whnf
      refine ⟨⟨rfl, trivial⟩, ?_⟩
      conv => whnf
      refine apX_limbs_room (d := carS (plusT a []) a.length) rfl ⟨rfl, rfl⟩ ⟨by omega, by rw [List.length_append, outS_length, List.length_replicate]; omega, by omega⟩ ?_
      conv => whnf
      refine frz_limbs rfl (by rw [List.length_set, List.length_append, outS_length, List.length_replicate]; omega) ?_
      have eS : (outS (plusT a []) a.length ++ List.replicate (a.length + 1 - a.length) 0).set a.length (carS (plusT a []) a.length) = outS (plusT a []) a.length ++ [carS (plusT a []) a.length] ++ List.replicate 0 0 := by
        rw [show a.length + 1 - a.length = 0 + 1 by omega]
        exact set_at _ _ _ _ (outS_length _ _)
      rw [eS, List.drop_zero]
      unfold plusL
      rw [if_neg hz, List.replicate_zero, List.append_nil]
      exact List.take_of_length_le (by rw [List.length_append, outS_length]; simp)

set_option maxHeartbeats 1000000 in
theorem plus_ge_nils (a : List Nat) (ca : Option Nat) (oa : okL a) (ha : a.length < 1000000000000) (hl : 0 ≤ a.length) :
    PureSem Tryz.prog 178 [.vs (limbsV a) ca, .nils] (.vs (limbsV (plusL a [])) (some (a.length + 1))) := by
  refine pure_of_call (pure2 (pure_limbs _ _) .nils) (pure_limbs _ _) (call_x exactT_ok mixed Tryz.func178 rfl (by decide +kernel) ?_)
  conv => whnf
  repeat ((first | refine lenX_eq (limbsV_length _) ?_ | refine condX_true ?_ | refine condX_false ?_); conv => whnf)
  skip
  repeat ((first | refine lenX_eq (limbsV_length _) ?_ | refine And.intro rfl ?_ | refine wrapX_i64 (by omega) ?_); conv => whnf)
  refine mkX_eq (n := 0) (m := a.length + 1) rfl (by omega) ⟨by omega, (show 4 * (a.length + 1) ≤ 140737488355328 by omega), by omega⟩ ⟨by decide, rfl⟩ (limbsV_replicate _) ?_
  conv => whnf
  repeat ((first | refine lenX_eq (limbsV_length _) ?_ | refine And.intro rfl ?_ | refine wrapX_i64 (by omega) ?_); conv => whnf)
  refine loop_p exactT_ok mixed 56 (fun i : Nat => a.length - i) (fun i => i ≤ a.length)
    (fun i => [(0, .vs (limbsV a) ca), (1, .nils), (5, .ms 0 0 i (some (a.length + 1))), (6, .int .u32 ((carS (plusT a []) i : Nat) : Int)), (21, .vs (limbsV a) ca), (22, .int .i64 (a.length : Int)), (23, .int .i64 ((i : Nat) : Int))])
    (fun i => ⟨[some (.rows (limbsV (outS (plusT a []) i ++ List.replicate (a.length + 1 - i) 0)) false false)], []⟩) ?_ 0 _ (Nat.zero_le _) rfl rfl ⟨rfl, rfl, rfl, rfl, rfl, rfl, rfl, trivial⟩
  rintro i g hi
  have hc := plus_car oa okL_nil i
  conv => whnf
  refine condX_dec (fun h1 => ?_) (fun h1 => ?_) <;> conv => whnf
  · have hiA : i < a.length := by omega
    have hA := okL_get oa hiA
    have eA : a.getD i 0 = a[i] := by simp [hiA]
    have eS : (outS (plusT a []) i ++ List.replicate (a.length + 1 - i) 0).set i (digS (plusT a []) i) = outS (plusT a []) (i + 1) ++ List.replicate (a.length + 1 - (i + 1)) 0 := by
      rw [outS_succ, show a.length + 1 - i = (a.length + 1 - (i + 1)) + 1 by omega]
      exact set_at _ _ _ _ (outS_length _ _)
    refine idx_limbs i rfl hiA ?_
    conv => whnf
    repeat ((first | refine ldX_eq rfl ?_ | refine And.intro rfl ?_ | refine wrapX_u32 (by omega) ?_ | refine lenX_eq (limbsV_length _) ?_); conv => whnf)
    refine condX_f (decide_eq_false (by omega)) ?_
    conv => whnf
    have eB : ([] : List Nat).getD i 0 = 0 := by simp
    have eT : plusT a [] i = a[i] + 0 := by unfold plusT; rw [eA, eB]
    repeat ((first | refine And.intro rfl ?_); conv => whnf)
    refine divX_nat (plusT a [] i + carS (plusT a []) i) 1000000000 (by rw [eT]; push_cast; omega) rfl (by omega) (IntWalk.u32_in _ (by have := Nat.div_le_self (plusT a [] i + carS (plusT a []) i) 1000000000; have h3 := plusT_lt oa okL_nil i; omega)) ?_
    conv => whnf
    refine ⟨rfl, remX_nat (plusT a [] i + carS (plusT a []) i) 1000000000 (by rw [eT]; push_cast; omega) rfl (by omega) ?_⟩
    conv => whnf
    refine ⟨by decide, by decide, rfl, ?_⟩
    conv => whnf
    refine Or.inr ?_
    conv => whnf
    refine ⟨⟨rfl, trivial⟩, ?_⟩
    conv => whnf
    refine apX_limbs_room (d := digS (plusT a []) i) rfl ⟨rfl, rfl⟩ ⟨by omega, by rw [List.length_append, outS_length, List.length_replicate]; omega, by omega⟩ ?_
    conv => whnf
    repeat ((first | refine And.intro rfl ?_ | refine wrapX_i64 (by omega) ?_); conv => whnf)
    refine ⟨i + 1, by omega, by omega, ?_, rfl, rfl, rfl, rfl, rfl, rfl, rfl, rfl, trivial⟩
    show Heap.mk [some (.rows (limbsV (List.set _ _ _)) false false)] [] = Heap.mk [some (.rows (limbsV (_ ++ _)) false false)] []
    rw [eS]
  · obtain rfl : i = a.length := by omega
    by_cases hz : carS (plusT a []) a.length = 0
    · refine condX_f (by rw [hz]; rfl) ?_
      conv => whnf
      refine frz_limbs rfl (by rw [List.length_append, outS_length]; omega) ?_
      unfold plusL
      rw [if_pos hz, List.drop_zero, List.take_left' (outS_length _ _), List.append_nil]
    · refine condX_t (decide_eq_true (by omega)) ?_
      conv => whnf
      refine ⟨by decide, by decide, rfl, ?_⟩
      conv => whnf
      refine Or.inr ?_
      conv => whnf
      refine ⟨⟨rfl, trivial⟩, ?_⟩
      conv => whnf
      refine apX_limbs_room (d := carS (plusT a []) a.length) rfl ⟨rfl, rfl⟩ ⟨by omega, by rw [List.length_append, outS_length, List.length_replicate]; omega, by omega⟩ ?_
      conv => whnf
      refine frz_limbs rfl (by rw [List.length_set, List.length_append, outS_length, List.length_replicate]; omega) ?_
      have eS : (outS (plusT a []) a.length ++ List.replicate (a.length + 1 - a.length) 0).set a.length (carS (plusT a []) a.length) = outS (plusT a []) a.length ++ [carS (plusT a []) a.length] ++ List.replicate 0 0 := by
        rw [show a.length + 1 - a.length = 0 + 1 by omega]
        exact set_at _ _ _ _ (outS_length _ _)
      rw [eS, List.drop_zero]
      unfold plusL
      rw [if_neg hz, List.replicate_zero, List.append_nil]
      exact List.take_of_length_le (by rw [List.length_append, outS_length]; simp)

end
end Go.Abs

namespace Go.Abs
noncomputable section
open Go.Proofs

set_option maxHeartbeats 1000000 in
theorem minus_vs (a b : List Nat) (ca cB : Option Nat) (oa : okL a) (ob : okL b) (ha : a.length < 1000000000000) :
    PureSem Tryz.prog 179 [.vs (limbsV a) ca, .vs (limbsV b) cB] (.vs (limbsV (minusL a b)) (some a.length)) := by
  refine pure_of_call (pure2 (pure_limbs _ _) (pure_limbs _ _)) (pure_limbs _ _) (call_x exactT_ok mixed Tryz.func179 rfl (by decide +kernel) ?_)
  conv => whnf
  repeat ((first | refine lenX_eq (limbsV_length _) ?_); conv => whnf)
  refine mkX_eq (n := 0) (m := a.length) rfl (by omega) ⟨by omega, (show 4 * a.length ≤ 140737488355328 by omega), by omega⟩ ⟨by decide, rfl⟩ (limbsV_replicate _) ?_
  conv => whnf
  repeat ((first | refine lenX_eq (limbsV_length _) ?_ | refine And.intro rfl ?_ | refine wrapX_i64 (by omega) ?_); conv => whnf)
  refine loop_p exactT_ok mixed 46 (fun i : Nat => a.length - i) (fun i => i ≤ a.length)
    (fun i => [(1, .vs (limbsV b) cB), (5, .ms 0 0 i (some a.length)), (6, .int .i64 ((borS (fun k => a.getD k 0) (fun k => b.getD k 0) i : Nat) : Int)), (13, .vs (limbsV a) ca), (14, .int .i64 (a.length : Int)), (15, .int .i64 ((i : Nat) : Int))])
    (fun i => ⟨[some (.rows (limbsV (subS (fun k => a.getD k 0) (fun k => b.getD k 0) i ++ List.replicate (a.length - i) 0)) false false)], []⟩) ?_ 0 _ (Nat.zero_le _) rfl rfl ⟨rfl, rfl, rfl, rfl, rfl, rfl, trivial⟩
  rintro i g hi
  have hc := borS_le (fun k => a.getD k 0) (fun k => b.getD k 0) i
  conv => whnf
  refine condX_dec (fun h1 => ?_) (fun h1 => ?_) <;> conv => whnf
  · have hiA : i < a.length := by omega
    have hA := okL_get oa hiA
    have eA : a.getD i 0 = a[i] := by simp [hiA]
    have eS : (subS (fun k => a.getD k 0) (fun k => b.getD k 0) i ++ List.replicate (a.length - i) 0).set i (difS (fun k => a.getD k 0) (fun k => b.getD k 0) i) = subS (fun k => a.getD k 0) (fun k => b.getD k 0) (i + 1) ++ List.replicate (a.length - (i + 1)) 0 := by
      rw [subS_succ, show a.length - i = (a.length - (i + 1)) + 1 by omega]
      exact set_at _ _ _ _ (subS_length _ _ _)
    refine idx_limbs i rfl hiA ?_
    conv => whnf
    repeat ((first | refine ldX_eq rfl ?_ | refine And.intro rfl ?_ | refine wrapX_i64 (by omega) ?_ | refine lenX_eq (limbsV_length _) ?_); conv => whnf)
    refine condX_dec (fun h2 => ?_) (fun h2 => ?_) <;> conv => whnf
    · have hiB : i < b.length := by omega
      have hB := okL_get ob hiB
      have eB : b.getD i 0 = b[i] := by simp [hiB]
      refine idx_limbs i rfl hiB ?_
      conv => whnf
      repeat ((first | refine ldX_eq rfl ?_ | refine And.intro rfl ?_ | refine wrapX_i64 (by omega) ?_); conv => whnf)
      have hbo : borS (fun k => a.getD k 0) (fun k => b.getD k 0) (i + 1) = if (fun k => a.getD k 0) i < (fun k => b.getD k 0) i + borS (fun k => a.getD k 0) (fun k => b.getD k 0) i then 1 else 0 := rfl
      have hdf : difS (fun k => a.getD k 0) (fun k => b.getD k 0) i = if (fun k => a.getD k 0) i < (fun k => b.getD k 0) i + borS (fun k => a.getD k 0) (fun k => b.getD k 0) i then (fun k => a.getD k 0) i + 1000000000 - ((fun k => b.getD k 0) i + borS (fun k => a.getD k 0) (fun k => b.getD k 0) i) else (fun k => a.getD k 0) i - ((fun k => b.getD k 0) i + borS (fun k => a.getD k 0) (fun k => b.getD k 0) i) := rfl
      simp only [eA, eB] at hbo hdf
      refine condX_dec (fun h3 => ?_) (fun h3 => ?_) <;> conv => whnf
      all_goals
        repeat ((first | refine And.intro rfl ?_ | refine wrapX_i64 (by omega) ?_); conv => whnf)
        refine wrapX_nat (difS (fun k => a.getD k 0) (fun k => b.getD k 0) i) (by split at hdf <;> omega) (IntWalk.u32_in _ (by have := difS_lt (a := fun k => a.getD k 0) (b := fun k => b.getD k 0) (fun i => getD_lt oa i) i; omega)) ?_
        conv => whnf
        refine ⟨by decide, by decide, rfl, ?_⟩
        conv => whnf
        refine Or.inr ?_
        conv => whnf
        refine ⟨⟨rfl, trivial⟩, ?_⟩
        conv => whnf
        refine apX_limbs_room (d := difS (fun k => a.getD k 0) (fun k => b.getD k 0) i) rfl ⟨rfl, rfl⟩ ⟨by omega, by rw [List.length_append, subS_length, List.length_replicate]; omega, by omega⟩ ?_
        conv => whnf
        repeat ((first | refine And.intro rfl ?_ | refine wrapX_i64 (by omega) ?_); conv => whnf)
        refine ⟨i + 1, by omega, by omega, ?_, rfl, rfl, rfl, ?_, rfl, rfl, rfl, trivial⟩
        · show Heap.mk [some (.rows (limbsV (List.set _ _ _)) false false)] [] = Heap.mk [some (.rows (limbsV (_ ++ _)) false false)] []
          rw [eS]
        · show some (AV.int .i64 _) = some (AV.int .i64 _)
          rw [hbo]
          congr 2
          split <;> omega
    · have eB : b.getD i 0 = 0 := by simp [List.getElem?_eq_none (show b.length ≤ i by omega)]
      have hbo : borS (fun k => a.getD k 0) (fun k => b.getD k 0) (i + 1) = if (fun k => a.getD k 0) i < (fun k => b.getD k 0) i + borS (fun k => a.getD k 0) (fun k => b.getD k 0) i then 1 else 0 := rfl
      have hdf : difS (fun k => a.getD k 0) (fun k => b.getD k 0) i = if (fun k => a.getD k 0) i < (fun k => b.getD k 0) i + borS (fun k => a.getD k 0) (fun k => b.getD k 0) i then (fun k => a.getD k 0) i + 1000000000 - ((fun k => b.getD k 0) i + borS (fun k => a.getD k 0) (fun k => b.getD k 0) i) else (fun k => a.getD k 0) i - ((fun k => b.getD k 0) i + borS (fun k => a.getD k 0) (fun k => b.getD k 0) i) := rfl
      simp only [eA, eB] at hbo hdf
      refine condX_dec (fun h3 => ?_) (fun h3 => ?_) <;> conv => whnf
      all_goals
        repeat ((first | refine And.intro rfl ?_ | refine wrapX_i64 (by omega) ?_); conv => whnf)
        refine wrapX_nat (difS (fun k => a.getD k 0) (fun k => b.getD k 0) i) (by split at hdf <;> omega) (IntWalk.u32_in _ (by have := difS_lt (a := fun k => a.getD k 0) (b := fun k => b.getD k 0) (fun i => getD_lt oa i) i; omega)) ?_
        conv => whnf
        refine ⟨by decide, by decide, rfl, ?_⟩
        conv => whnf
        refine Or.inr ?_
        conv => whnf
        refine ⟨⟨rfl, trivial⟩, ?_⟩
        conv => whnf
        refine apX_limbs_room (d := difS (fun k => a.getD k 0) (fun k => b.getD k 0) i) rfl ⟨rfl, rfl⟩ ⟨by omega, by rw [List.length_append, subS_length, List.length_replicate]; omega, by omega⟩ ?_
        conv => whnf
        repeat ((first | refine And.intro rfl ?_ | refine wrapX_i64 (by omega) ?_); conv => whnf)
        refine ⟨i + 1, by omega, by omega, ?_, rfl, rfl, rfl, ?_, rfl, rfl, rfl, trivial⟩
        · show Heap.mk [some (.rows (limbsV (List.set _ _ _)) false false)] [] = Heap.mk [some (.rows (limbsV (_ ++ _)) false false)] []
          rw [eS]
        · show some (AV.int .i64 _) = some (AV.int .i64 _)
          rw [hbo]
          congr 2
          split <;> omega
  · obtain rfl : i = a.length := by omega
    refine frz_limbs rfl (by rw [List.length_append, subS_length]; omega) ?_
    unfold minusL
    rw [List.drop_zero, List.take_left' (subS_length _ _ _)]

set_option maxHeartbeats 1000000 in
theorem minus_nils (a : List Nat) (ca : Option Nat) (oa : okL a) (ha : a.length < 1000000000000) :
    PureSem Tryz.prog 179 [.vs (limbsV a) ca, .nils] (.vs (limbsV (minusL a [])) (some a.length)) := by
  refine pure_of_call (pure2 (pure_limbs _ _) .nils) (pure_limbs _ _) (call_x exactT_ok mixed Tryz.func179 rfl (by decide +kernel) ?_)
  conv => whnf
  repeat ((first | refine lenX_eq (limbsV_length _) ?_); conv => whnf)
  refine mkX_eq (n := 0) (m := a.length) rfl (by omega) ⟨by omega, (show 4 * a.length ≤ 140737488355328 by omega), by omega⟩ ⟨by decide, rfl⟩ (limbsV_replicate _) ?_
  conv => whnf
  repeat ((first | refine lenX_eq (limbsV_length _) ?_ | refine And.intro rfl ?_ | refine wrapX_i64 (by omega) ?_); conv => whnf)
  refine loop_p exactT_ok mixed 46 (fun i : Nat => a.length - i) (fun i => i ≤ a.length)
    (fun i => [(1, .nils), (5, .ms 0 0 i (some a.length)), (6, .int .i64 ((borS (fun k => a.getD k 0) (fun k => ([] : List Nat).getD k 0) i : Nat) : Int)), (13, .vs (limbsV a) ca), (14, .int .i64 (a.length : Int)), (15, .int .i64 ((i : Nat) : Int))])
    (fun i => ⟨[some (.rows (limbsV (subS (fun k => a.getD k 0) (fun k => ([] : List Nat).getD k 0) i ++ List.replicate (a.length - i) 0)) false false)], []⟩) ?_ 0 _ (Nat.zero_le _) rfl rfl ⟨rfl, rfl, rfl, rfl, rfl, rfl, trivial⟩
  rintro i g hi
  have hc := borS_le (fun k => a.getD k 0) (fun k => ([] : List Nat).getD k 0) i
  conv => whnf
  refine condX_dec (fun h1 => ?_) (fun h1 => ?_) <;> conv => whnf
  · have hiA : i < a.length := by omega
    have hA := okL_get oa hiA
    have eA : a.getD i 0 = a[i] := by simp [hiA]
    have eS : (subS (fun k => a.getD k 0) (fun k => ([] : List Nat).getD k 0) i ++ List.replicate (a.length - i) 0).set i (difS (fun k => a.getD k 0) (fun k => ([] : List Nat).getD k 0) i) = subS (fun k => a.getD k 0) (fun k => ([] : List Nat).getD k 0) (i + 1) ++ List.replicate (a.length - (i + 1)) 0 := by
      rw [subS_succ, show a.length - i = (a.length - (i + 1)) + 1 by omega]
      exact set_at _ _ _ _ (subS_length _ _ _)
    refine idx_limbs i rfl hiA ?_
    conv => whnf
    repeat ((first | refine ldX_eq rfl ?_ | refine And.intro rfl ?_ | refine wrapX_i64 (by omega) ?_ | refine lenX_eq (limbsV_length _) ?_); conv => whnf)
    have eB : ([] : List Nat).getD i 0 = 0 := by simp
    try (refine condX_f (decide_eq_false (by omega)) ?_; conv => whnf)
    have hbo : borS (fun k => a.getD k 0) (fun k => ([] : List Nat).getD k 0) (i + 1) = if (fun k => a.getD k 0) i < (fun k => ([] : List Nat).getD k 0) i + borS (fun k => a.getD k 0) (fun k => ([] : List Nat).getD k 0) i then 1 else 0 := rfl
    have hdf : difS (fun k => a.getD k 0) (fun k => ([] : List Nat).getD k 0) i = if (fun k => a.getD k 0) i < (fun k => ([] : List Nat).getD k 0) i + borS (fun k => a.getD k 0) (fun k => ([] : List Nat).getD k 0) i then (fun k => a.getD k 0) i + 1000000000 - ((fun k => ([] : List Nat).getD k 0) i + borS (fun k => a.getD k 0) (fun k => ([] : List Nat).getD k 0) i) else (fun k => a.getD k 0) i - ((fun k => ([] : List Nat).getD k 0) i + borS (fun k => a.getD k 0) (fun k => ([] : List Nat).getD k 0) i) := rfl
    simp only [eA, eB] at hbo hdf
    refine condX_dec (fun h3 => ?_) (fun h3 => ?_) <;> conv => whnf
    all_goals
      repeat ((first | refine And.intro rfl ?_ | refine wrapX_i64 (by omega) ?_); conv => whnf)
      refine wrapX_nat (difS (fun k => a.getD k 0) (fun k => ([] : List Nat).getD k 0) i) (by split at hdf <;> omega) (IntWalk.u32_in _ (by have := difS_lt (a := fun k => a.getD k 0) (b := fun k => ([] : List Nat).getD k 0) (fun i => getD_lt oa i) i; omega)) ?_
      conv => whnf
      refine ⟨by decide, by decide, rfl, ?_⟩
      conv => whnf
      refine Or.inr ?_
      conv => whnf
      refine ⟨⟨rfl, trivial⟩, ?_⟩
      conv => whnf
      refine apX_limbs_room (d := difS (fun k => a.getD k 0) (fun k => ([] : List Nat).getD k 0) i) rfl ⟨rfl, rfl⟩ ⟨by omega, by rw [List.length_append, subS_length, List.length_replicate]; omega, by omega⟩ ?_
      conv => whnf
      repeat ((first | refine And.intro rfl ?_ | refine wrapX_i64 (by omega) ?_); conv => whnf)
      refine ⟨i + 1, by omega, by omega, ?_, rfl, rfl, rfl, ?_, rfl, rfl, rfl, trivial⟩
      · show Heap.mk [some (.rows (limbsV (List.set _ _ _)) false false)] [] = Heap.mk [some (.rows (limbsV (_ ++ _)) false false)] []
        rw [eS]
      · show some (AV.int .i64 _) = some (AV.int .i64 _)
        rw [hbo]
        congr 2
        split <;> omega
  · obtain rfl : i = a.length := by omega
    refine frz_limbs rfl (by rw [List.length_append, subS_length]; omega) ?_
    unfold minusL
    rw [List.drop_zero, List.take_left' (subS_length _ _ _)]
end
end Go.Abs
