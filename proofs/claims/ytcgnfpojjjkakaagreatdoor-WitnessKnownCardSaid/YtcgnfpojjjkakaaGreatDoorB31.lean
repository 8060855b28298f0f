/-
  Steps to a law of this program: SEx10, SEx11, SEx12, SEx13, SEx14, SEx15.
  Conditions: none.
-/
import Derived.Test.YtcgnfpojjjkakaaGreatDoorB30
set_option linter.unusedVariables false
set_option linter.unusedSimpArgs false
set_option linter.unusedSectionVars false
namespace Go.Abs
noncomputable section
open Go.Proofs

set_option maxHeartbeats 1000000 in
theorem scaled_call {l : List Nat} {X : AV} (d : Nat) (hX : MagV l X) (ol : okL l) (hl : l.length < 1000000000000) (hd : d < 1000000000) :
    CallSem Tryz.prog 195 [X, .int .u32 (d : Int)] ⟨[], []⟩ fun r h' => r = .ms 0 0 (l.length + 1) (some (l.length + 1)) ∧ h' = ⟨[some (.rows (limbsV (scaledL l d)) false false)], []⟩ := by
  refine call_x exactT_ok mixed Tryz.func195 rfl (by decide +kernel) ?_
  cases hX with
  | nils h0 =>
    subst h0
    conv => whnf
    repeat ((first | refine And.intro rfl ?_ | refine wrapX_i64 (by omega) ?_); conv => whnf)
    refine mkX_eq (n := 0) (m := 1) rfl rfl ⟨by omega, (show 4 * 1 ≤ 140737488355328 by omega), by omega⟩ ⟨by decide, rfl⟩ (limbsV_replicate _) ?_
    conv => whnf
    refine t_inLoop (wpx_ok exactT_ok mixed _ _ _ ?_)
    conv => whnf
    repeat ((first | refine condX_true ?_ | refine condX_false ?_ | refine condX_f rfl ?_ | refine wrapX_u32 (by omega) ?_); conv => whnf)
    refine ⟨by decide, by decide, rfl, ?_⟩
    conv => whnf
    refine Or.inr ?_
    conv => whnf
    refine ⟨⟨rfl, trivial⟩, ?_⟩
    conv => whnf
    refine apX_limbs_room (d := 0) rfl ⟨rfl, rfl⟩ ⟨by omega, by simp, by omega⟩ ?_
    conv => whnf
    exact ⟨rfl, rfl⟩
  | vs c =>
    conv => whnf
    repeat ((first | refine lenX_eq (limbsV_length _) ?_ | refine And.intro rfl ?_ | refine wrapX_i64 (by omega) ?_); conv => whnf)
    refine mkX_eq (n := 0) (m := l.length + 1) rfl (by omega) ⟨by omega, (show 4 * (l.length + 1) ≤ 140737488355328 by omega), by omega⟩ ⟨by decide, rfl⟩ (limbsV_replicate _) ?_
    conv => whnf
    repeat ((first | refine lenX_eq (limbsV_length _) ?_); conv => whnf)
    refine loop_p exactT_ok mixed 41 (fun i : Nat => l.length - i) (fun i => i ≤ l.length)
      (fun i => [(1, .int .u32 (d : Int)), (5, .ms 0 0 i (some (l.length + 1))), (6, .int .u64 ((carS (scaleT l d) i : Nat) : Int)), (14, .vs (limbsV l) c), (15, .int .i64 (l.length : Int)), (16, .int .i64 ((i : Nat) : Int))])
      (fun i => ⟨[some (.rows (limbsV (outS (scaleT l d) i ++ List.replicate (l.length + 1 - i) 0)) false false)], []⟩) ?_ 0 _ (Nat.zero_le _) rfl rfl ⟨rfl, rfl, rfl, rfl, rfl, rfl, trivial⟩
    rintro i g hi
    have hc := scale_car ol hd i
    have hT := scaleT_le ol hd i
    conv => whnf
    refine condX_dec (fun h1 => ?_) (fun h1 => ?_) <;> conv => whnf
    · have hil : i < l.length := by omega
      have hx := okL_get ol hil
      have eT : scaleT l d i = l[i] * d := by simp [scaleT, hil]
      have eS : (outS (scaleT l d) i ++ List.replicate (l.length + 1 - i) 0).set i (digS (scaleT l d) i) = outS (scaleT l d) (i + 1) ++ List.replicate (l.length + 1 - (i + 1)) 0 := by
        rw [outS_succ, show l.length + 1 - i = (l.length + 1 - (i + 1)) + 1 by omega]
        exact set_at _ _ _ _ (outS_length _ _)
      refine idx_limbs i rfl hil ?_
      conv => whnf
      repeat ((first | refine And.intro rfl ?_ | refine wrapX_u64 (by omega) ?_); conv => whnf)
      refine remX_nat (scaleT l d i + carS (scaleT l d) i) 1000000000 (by rw [eT]; push_cast; omega) rfl (by omega) ?_
      conv => whnf
      refine wrapX_nat (digS (scaleT l d) i) rfl (IntWalk.u32_in _ (by have : digS (scaleT l d) i < 1000000000 := Nat.mod_lt _ (by omega); omega)) ?_
      conv => whnf
      refine ⟨by decide, by decide, rfl, ?_⟩
      conv => whnf
      refine Or.inr ?_
      conv => whnf
      refine ⟨⟨rfl, trivial⟩, ?_⟩
      conv => whnf
      refine apX_limbs_room (d := digS (scaleT l d) i) rfl ⟨rfl, rfl⟩ ⟨by omega, by rw [List.length_append, outS_length, List.length_replicate]; omega, by omega⟩ ?_
      conv => whnf
      refine And.intro rfl (divX_nat (scaleT l d i + carS (scaleT l d) i) 1000000000 (by rw [eT]; push_cast; omega) rfl (by omega) (IntWalk.u64_in _ (by have := Nat.div_le_self (scaleT l d i + carS (scaleT l d) i) 1000000000; omega)) ?_)
      conv => whnf
      repeat ((first | refine And.intro rfl ?_ | refine wrapX_i64 (by omega) ?_); conv => whnf)
      refine ⟨i + 1, by omega, by omega, ?_, rfl, rfl, rfl, rfl, rfl, rfl, rfl, trivial⟩
      show Heap.mk [some (.rows (limbsV (List.set _ _ _)) false false)] [] = Heap.mk [some (.rows (limbsV (_ ++ _)) false false)] []
      rw [eS]
    · obtain rfl : i = l.length := by omega
      repeat ((first | refine wrapX_u32 (by omega) ?_); conv => whnf)
      refine ⟨by decide, by decide, rfl, ?_⟩
      conv => whnf
      refine Or.inr ?_
      conv => whnf
      refine ⟨⟨rfl, trivial⟩, ?_⟩
      conv => whnf
      refine apX_limbs_room (d := carS (scaleT l d) l.length) rfl ⟨rfl, rfl⟩ ⟨by omega, by rw [List.length_append, outS_length, List.length_replicate]; omega, by omega⟩ ?_
      conv => whnf
      refine ⟨rfl, ?_⟩
      have eS : (outS (scaleT l d) l.length ++ List.replicate (l.length + 1 - l.length) 0).set l.length (carS (scaleT l d) l.length) = scaledL l d := by
        rw [show l.length + 1 - l.length = 0 + 1 by omega, set_at _ _ _ _ (outS_length _ _), List.replicate_zero, List.append_nil]
        rfl
      show Heap.mk [some (.rows (limbsV (List.set _ _ _)) false false)] [] = Heap.mk [some (.rows (limbsV _) false false)] []
      rw [eS]
end
end Go.Abs

namespace Go.Abs
noncomputable section
open Go.Proofs

set_option maxHeartbeats 2000000 in
theorem lose_call {L o : List Nat} {capo c : Option Nat} (s len x : Nat) (oL : okL L) (oo : okL o) (hx : x < 1000000000) (hlen : o.length + 1 ≤ len) (hL : s + len ≤ L.length) (hLl : L.length < 4611686018427387904) :
    CallSem Tryz.prog 196 [.ms 0 s len capo, .vs (limbsV o) c, .int .u64 (x : Int)] ⟨[some (.rows (limbsV L) false false)], []⟩
      fun r h' => r = .bool (decide (((loseB L s o x (o.length + 1) : Nat) : Int) > 0)) ∧ h' = ⟨[some (.rows (limbsV (loseP L s o x (o.length + 1))) false false)], []⟩ := by
  refine call_x exactT_ok mixed Tryz.func196 rfl (by decide +kernel) ?_
  conv => whnf
  repeat ((first | refine lenX_eq (limbsV_length _) ?_ | refine And.intro rfl ?_ | refine wrapX_i64 (by omega) ?_); conv => whnf)
  refine loop_p exactT_ok mixed 57 (fun i : Nat => o.length + 1 - i) (fun i => i ≤ o.length + 1)
    (fun i => [(0, .ms 0 s len capo), (1, .vs (limbsV o) c), (2, .int .u64 (x : Int)), (7, .int .u64 ((carS (fun j => x * o.getD j 0) i : Nat) : Int)), (8, .int .i64 ((loseB L s o x i : Nat) : Int)), (14, .int .i64 ((o.length : Int) + 1)), (15, .int .i64 ((i : Nat) : Int))])
    (fun i => ⟨[some (.rows (limbsV (loseP L s o x i)) false false)], []⟩) ?_ 0 _ (Nat.zero_le _) (by rw [loseP_zero]) rfl ⟨rfl, rfl, rfl, rfl, rfl, rfl, rfl, trivial⟩
  rintro i g hi
  have hc := times_car oo hx i
  have hb : loseB L s o x i ≤ 1 := borS_le _ _ i
  have hbu : borS (fun j => L.getD (s + j) 0) (digS (fun j => x * o.getD j 0)) i = loseB L s o x i := rfl
  conv => whnf
  refine condX_dec (fun h1 => ?_) (fun h1 => ?_) <;> conv => whnf
  · have hsi : s + i < L.length := by omega
    have hLi := okL_get oL hsi
    have eL : L.getD (s + i) 0 = L[s + i] := by simp [hsi]
    repeat ((first | refine lenX_eq (limbsV_length _) ?_ | refine And.intro rfl ?_); conv => whnf)
    refine condX_dec (fun h2 => ?_) (fun h2 => ?_) <;> conv => whnf
    · have hio : i < o.length := by omega
      have ho := okL_get oo hio
      have eo : o.getD i 0 = o[i] := by simp [hio]
      have hm : x * o[i] ≤ 999999999 * 999999999 := Nat.mul_le_mul (by omega) (by omega)
      refine idx_limbs i rfl hio ?_
      conv => whnf
      repeat ((first | refine And.intro rfl ?_ | refine wrapX_u64 (by omega) ?_); conv => whnf)
      have hdT : digS (fun j => x * o.getD j 0) i < 1000000000 := Nat.mod_lt _ (by omega)
      have hdg : digS (fun j => x * o.getD j 0) i = (x * o.getD i 0 + carS (fun j => x * o.getD j 0) i) % 1000000000 := rfl
      have hbo : borS (fun j => L.getD (s + j) 0) (digS (fun j => x * o.getD j 0)) (i + 1) = if L.getD (s + i) 0 < digS (fun j => x * o.getD j 0) i + borS (fun j => L.getD (s + j) 0) (digS (fun j => x * o.getD j 0)) i then 1 else 0 := rfl
      have hdf : difS (fun j => L.getD (s + j) 0) (digS (fun j => x * o.getD j 0)) i = if L.getD (s + i) 0 < digS (fun j => x * o.getD j 0) i + borS (fun j => L.getD (s + j) 0) (digS (fun j => x * o.getD j 0)) i then L.getD (s + i) 0 + 1000000000 - (digS (fun j => x * o.getD j 0) i + borS (fun j => L.getD (s + j) 0) (digS (fun j => x * o.getD j 0)) i) else L.getD (s + i) 0 - (digS (fun j => x * o.getD j 0) i + borS (fun j => L.getD (s + j) 0) (digS (fun j => x * o.getD j 0)) i) := rfl
      rw [eL] at hbo hdf
      refine divX_nat (x * o.getD i 0 + carS (fun j => x * o.getD j 0) i) 1000000000 (by rw [eo]; push_cast; omega) rfl (by omega) (IntWalk.u64_in _ (by have := Nat.div_le_self (x * o.getD i 0 + carS (fun j => x * o.getD j 0) i) 1000000000; rw [eo] at *; omega)) ?_
      conv => whnf
      refine idm_limbs i rfl (by omega) (by rw [loseP_length (by omega)]; omega) ?_
      conv => whnf
      refine ld_limbs (x := L[s + i]) (loseP_get hsi) rfl ?_
      conv => whnf
      repeat ((first | refine And.intro rfl ?_ | refine wrapX_i64 (by omega) ?_ | refine remX_nat (x * o.getD i 0 + carS (fun j => x * o.getD j 0) i) 1000000000 (by rw [eo]; push_cast; omega) rfl (by omega) ?_ | refine wrapX_nat (digS (fun j => x * o.getD j 0) i) rfl (IntWalk.i64_in _ (by omega)) ?_); conv => whnf)
      refine condX_dec (fun h3 => ?_) (fun h3 => ?_) <;> conv => whnf
      all_goals
        repeat ((first | refine And.intro rfl ?_ | refine wrapX_i64 (by omega) ?_); conv => whnf)
        refine wrapX_nat (difS (fun j => L.getD (s + j) 0) (digS (fun j => x * o.getD j 0)) i) (by split at hdf <;> omega) (IntWalk.u32_in _ (by split at hdf <;> omega)) ?_
        conv => whnf
        refine idm_limbs i rfl (by omega) (by rw [loseP_length (by omega)]; omega) ?_
        conv => whnf
        refine st_limbs (d := difS (fun j => L.getD (s + j) 0) (digS (fun j => x * o.getD j 0)) i) (by rw [loseP_length (by omega)]; omega) rfl ?_
        conv => whnf
        repeat ((first | refine And.intro rfl ?_ | refine wrapX_i64 (by omega) ?_); conv => whnf)
        refine ⟨i + 1, by omega, by omega, ?_, rfl, rfl, rfl, rfl, rfl, ?_, rfl, rfl, trivial⟩
        · show Heap.mk [some (.rows (limbsV (List.set _ _ _)) false false)] [] = Heap.mk [some (.rows (limbsV _) false false)] []
          rw [loseP_set hsi]
        · show some (AV.int .i64 _) = some (AV.int .i64 _)
          unfold loseB
          rw [hbo]
          congr 2
          split <;> omega
    · have eo : o.getD i 0 = 0 := by simp [List.getElem?_eq_none (show o.length ≤ i by omega)]
      repeat ((first | refine And.intro rfl ?_); conv => whnf)
      have hdT : digS (fun j => x * o.getD j 0) i < 1000000000 := Nat.mod_lt _ (by omega)
      have hdg : digS (fun j => x * o.getD j 0) i = (x * o.getD i 0 + carS (fun j => x * o.getD j 0) i) % 1000000000 := rfl
      have hbo : borS (fun j => L.getD (s + j) 0) (digS (fun j => x * o.getD j 0)) (i + 1) = if L.getD (s + i) 0 < digS (fun j => x * o.getD j 0) i + borS (fun j => L.getD (s + j) 0) (digS (fun j => x * o.getD j 0)) i then 1 else 0 := rfl
      have hdf : difS (fun j => L.getD (s + j) 0) (digS (fun j => x * o.getD j 0)) i = if L.getD (s + i) 0 < digS (fun j => x * o.getD j 0) i + borS (fun j => L.getD (s + j) 0) (digS (fun j => x * o.getD j 0)) i then L.getD (s + i) 0 + 1000000000 - (digS (fun j => x * o.getD j 0) i + borS (fun j => L.getD (s + j) 0) (digS (fun j => x * o.getD j 0)) i) else L.getD (s + i) 0 - (digS (fun j => x * o.getD j 0) i + borS (fun j => L.getD (s + j) 0) (digS (fun j => x * o.getD j 0)) i) := rfl
      rw [eL] at hbo hdf
      refine divX_nat (x * o.getD i 0 + carS (fun j => x * o.getD j 0) i) 1000000000 (by rw [eo]; push_cast; omega) rfl (by omega) (IntWalk.u64_in _ (by have := Nat.div_le_self (x * o.getD i 0 + carS (fun j => x * o.getD j 0) i) 1000000000; rw [eo] at *; omega)) ?_
      conv => whnf
      refine idm_limbs i rfl (by omega) (by rw [loseP_length (by omega)]; omega) ?_
      conv => whnf
      refine ld_limbs (x := L[s + i]) (loseP_get hsi) rfl ?_
      conv => whnf
      repeat ((first | refine And.intro rfl ?_ | refine wrapX_i64 (by omega) ?_ | refine remX_nat (x * o.getD i 0 + carS (fun j => x * o.getD j 0) i) 1000000000 (by rw [eo]; push_cast; omega) rfl (by omega) ?_ | refine wrapX_nat (digS (fun j => x * o.getD j 0) i) rfl (IntWalk.i64_in _ (by omega)) ?_); conv => whnf)
      refine condX_dec (fun h3 => ?_) (fun h3 => ?_) <;> conv => whnf
      all_goals
        repeat ((first | refine And.intro rfl ?_ | refine wrapX_i64 (by omega) ?_); conv => whnf)
        refine wrapX_nat (difS (fun j => L.getD (s + j) 0) (digS (fun j => x * o.getD j 0)) i) (by split at hdf <;> omega) (IntWalk.u32_in _ (by split at hdf <;> omega)) ?_
        conv => whnf
        refine idm_limbs i rfl (by omega) (by rw [loseP_length (by omega)]; omega) ?_
        conv => whnf
        refine st_limbs (d := difS (fun j => L.getD (s + j) 0) (digS (fun j => x * o.getD j 0)) i) (by rw [loseP_length (by omega)]; omega) rfl ?_
        conv => whnf
        repeat ((first | refine And.intro rfl ?_ | refine wrapX_i64 (by omega) ?_); conv => whnf)
        refine ⟨i + 1, by omega, by omega, ?_, rfl, rfl, rfl, rfl, rfl, ?_, rfl, rfl, trivial⟩
        · show Heap.mk [some (.rows (limbsV (List.set _ _ _)) false false)] [] = Heap.mk [some (.rows (limbsV _) false false)] []
          rw [loseP_set hsi]
        · show some (AV.int .i64 _) = some (AV.int .i64 _)
          unfold loseB
          rw [hbo]
          congr 2
          split <;> omega
  · obtain rfl : i = o.length + 1 := by omega
    exact ⟨rfl, rfl⟩
end
end Go.Abs

namespace Go.Abs
noncomputable section
open Go.Proofs

set_option maxHeartbeats 2000000 in
theorem gain_call {L o : List Nat} {capo c : Option Nat} (s len : Nat) (oL : okL L) (oo : okL o) (hlen : o.length + 1 ≤ len) (hL : s + len ≤ L.length) (hLl : L.length < 4611686018427387904) :
    CallSem Tryz.prog 197 [.ms 0 s len capo, .vs (limbsV o) c] ⟨[some (.rows (limbsV L) false false)], []⟩
      fun r h' => r = .tup [] ∧ h' = ⟨[some (.rows (limbsV (gainP L s o (o.length + 1))) false false)], []⟩ := by
  refine call_x exactT_ok mixed Tryz.func197 rfl (by decide +kernel) ?_
  conv => whnf
  repeat ((first | refine lenX_eq (limbsV_length _) ?_ | refine And.intro rfl ?_ | refine wrapX_i64 (by omega) ?_); conv => whnf)
  refine loop_p exactT_ok mixed 37 (fun i : Nat => o.length + 1 - i) (fun i => i ≤ o.length + 1)
    (fun i => [(0, .ms 0 s len capo), (1, .vs (limbsV o) c), (4, .int .u32 ((carS (gainT L s o) i : Nat) : Int)), (9, .int .i64 ((o.length : Int) + 1)), (10, .int .i64 ((i : Nat) : Int))])
    (fun i => ⟨[some (.rows (limbsV (gainP L s o i)) false false)], []⟩) ?_ 0 _ (Nat.zero_le _) (by rw [gainP_zero]) rfl ⟨rfl, rfl, rfl, rfl, rfl, trivial⟩
  rintro i g hi
  have hc := gain_car oL oo s i
  conv => whnf
  refine condX_dec (fun h1 => ?_) (fun h1 => ?_) <;> conv => whnf
  · have hsi : s + i < L.length := by omega
    have hLi := okL_get oL hsi
    have eL : L.getD (s + i) 0 = L[s + i] := by simp [hsi]
    refine idm_limbs i rfl (by omega) (by rw [gainP_length (by omega)]; omega) ?_
    conv => whnf
    refine ld_limbs (x := L[s + i]) (gainP_get hsi) rfl ?_
    conv => whnf
    repeat ((first | refine lenX_eq (limbsV_length _) ?_ | refine And.intro rfl ?_ | refine wrapX_u32 (by omega) ?_); conv => whnf)
    refine condX_dec (fun h2 => ?_) (fun h2 => ?_) <;> conv => whnf
    · have hio : i < o.length := by omega
      have ho := okL_get oo hio
      have eo : o.getD i 0 = o[i] := by simp [hio]
      have eT : gainT L s o i = L[s + i] + o[i] := by unfold gainT; rw [eL, eo]
      refine idx_limbs i rfl hio ?_
      conv => whnf
      repeat ((first | refine And.intro rfl ?_ | refine wrapX_u32 (by omega) ?_); conv => whnf)
      have hT : gainT L s o i ≤ 1999999998 := by rw [eT]; omega
      refine remX_nat (gainT L s o i + carS (gainT L s o) i) 1000000000 (by rw [eT]; push_cast; omega) rfl (by omega) ?_
      conv => whnf
      refine And.intro rfl (divX_nat (gainT L s o i + carS (gainT L s o) i) 1000000000 (by rw [eT]; push_cast; omega) rfl (by omega) (IntWalk.u32_in _ (by have := Nat.div_le_self (gainT L s o i + carS (gainT L s o) i) 1000000000; omega)) ?_)
      conv => whnf
      refine idm_limbs i rfl (by omega) (by rw [gainP_length (by omega)]; omega) ?_
      conv => whnf
      refine st_limbs (d := digS (gainT L s o) i) (by rw [gainP_length (by omega)]; omega) rfl ?_
      conv => whnf
      repeat ((first | refine And.intro rfl ?_ | refine wrapX_i64 (by omega) ?_); conv => whnf)
      refine ⟨i + 1, by omega, by omega, ?_, rfl, rfl, rfl, rfl, rfl, rfl, trivial⟩
      show Heap.mk [some (.rows (limbsV (List.set _ _ _)) false false)] [] = Heap.mk [some (.rows (limbsV _) false false)] []
      rw [gainP_set hsi]
    · have eo : o.getD i 0 = 0 := by simp [List.getElem?_eq_none (show o.length ≤ i by omega)]
      have eT : gainT L s o i = L[s + i] + 0 := by unfold gainT; rw [eL, eo]
      repeat ((first | refine And.intro rfl ?_); conv => whnf)
      have hT : gainT L s o i ≤ 1999999998 := by rw [eT]; omega
      refine remX_nat (gainT L s o i + carS (gainT L s o) i) 1000000000 (by rw [eT]; push_cast; omega) rfl (by omega) ?_
      conv => whnf
      refine And.intro rfl (divX_nat (gainT L s o i + carS (gainT L s o) i) 1000000000 (by rw [eT]; push_cast; omega) rfl (by omega) (IntWalk.u32_in _ (by have := Nat.div_le_self (gainT L s o i + carS (gainT L s o) i) 1000000000; omega)) ?_)
      conv => whnf
      refine idm_limbs i rfl (by omega) (by rw [gainP_length (by omega)]; omega) ?_
      conv => whnf
      refine st_limbs (d := digS (gainT L s o) i) (by rw [gainP_length (by omega)]; omega) rfl ?_
      conv => whnf
      repeat ((first | refine And.intro rfl ?_ | refine wrapX_i64 (by omega) ?_); conv => whnf)
      refine ⟨i + 1, by omega, by omega, ?_, rfl, rfl, rfl, rfl, rfl, rfl, trivial⟩
      show Heap.mk [some (.rows (limbsV (List.set _ _ _)) false false)] [] = Heap.mk [some (.rows (limbsV _) false false)] []
      rw [gainP_set hsi]
  · obtain rfl : i = o.length + 1 := by omega
    exact ⟨rfl, rfl⟩
end
end Go.Abs

namespace Go.Abs
noncomputable section
open Go.Proofs

theorem encF_fuel : ∀ (f g n : Nat), n < f → n < g → encF f n = encF g n
  | 0, _, n, h, _ => by omega
  | f + 1, 0, n, _, h => by omega
  | f + 1, g + 1, n, h1, h2 => by
    unfold encF
    split
    · rfl
    · rename_i h0
      have := Nat.div_lt_self (n := n) (k := 1000000000) (by omega) (by omega)
      rw [encF_fuel f g (n / 1000000000) (by omega) (by omega)]
theorem enc_step {n : Nat} (h : n ≠ 0) : enc n = n % 1000000000 :: enc (n / 1000000000) := by
  have e : enc n = n % 1000000000 :: encF n (n / 1000000000) := by
    show encF (n + 1) n = _
    rw [encF, if_neg h]
  have := Nat.div_lt_self (n := n) (k := 1000000000) (by omega) (by omega)
  rw [e, encF_fuel n (n / 1000000000 + 1) (n / 1000000000) (by omega) (by omega)]
  rfl
def magR : List Nat → AV
  | [] => .nils
  | x :: l => .vs (limbsV (x :: l)) none
theorem magR_pure : ∀ l, Pure (magR l)
  | [] => .nils
  | _ :: _ => pure_limbs _ _
theorem magR_V : ∀ l, MagV l (magR l)
  | [] => .nils rfl
  | _ :: _ => .vs _
def smallH (b : Bool) : List Nat → Heap
  | [] => ⟨[some (.rows [[.bool false, .nils]] false false), some (.rows [[.bool b, .nils]] false false)], []⟩
  | x :: l => ⟨[some (.rows [[.bool false, .nils]] false false), some (.rows [[.bool b, .ms 2 0 (l.length + 1) none]] false false), some (.rows (limbsV (x :: l)) true false)], []⟩

set_option maxHeartbeats 1000000 in
theorem small_pure (n : Int) (hn : -9223372036854775808 ≤ n ∧ n ≤ 9223372036854775807) :
    PureSem Tryz.prog 75 [.int .i64 n] (.agg [.bool (decide (n < 0)), magR (enc n.natAbs)]) := by
  have hlen : (enc n.natAbs).length ≤ 3 := enc_length_lt (by have : (1000000000 : Nat) ^ 3 = 1000000000000000000000000000 := by decide
                                                             omega)
  refine pure_of_call (pure1 (.int _ _)) (pure_agg2 (.bool _) (magR_pure _)) (call_x exactT_ok mixed Tryz.func75 rfl (by decide +kernel) ?_)
  conv => whnf
  repeat ((first | refine ⟨⟨rfl, by decide, rfl⟩, ?_⟩ | refine ⟨⟨by decide, rfl⟩, ?_⟩ | refine stX_box rfl ?_ | refine And.intro rfl ?_); conv => whnf)
  rcases (show n < 0 ∨ 0 ≤ n by omega) with hneg | hpos
  · refine wrapX_eq (w := n + 18446744073709551616) (by rw [show IntKind.u64.wrap n = n % 18446744073709551616 from rfl]; omega) ?_
    conv => whnf
    repeat ((first | refine And.intro rfl ?_ | refine condX_t (decide_eq_true hneg) ?_); conv => whnf)
    refine wrapX_eq (w := ((n.natAbs : Nat) : Int)) (by rw [show IntKind.u64.wrap (0 - (n + 18446744073709551616)) = (0 - (n + 18446744073709551616)) % 18446744073709551616 from rfl]; omega) ?_
    conv => whnf
    refine loop_p exactT_ok mixed 27 (fun p : Nat × List Nat => p.1) (fun p => p.2 ++ enc p.1 = enc n.natAbs ∧ p.1 ≤ 9223372036854775808)
      (fun p => [(2, .ptr 0 0 0), (3, .ptr 1 0 0), (4, .int .u64 ((p.1 : Nat) : Int))])
      (fun p => smallH (decide (n < 0)) p.2) ?_ (n.natAbs, []) _ ⟨rfl, by omega⟩ rfl rfl ⟨rfl, rfl, rfl, trivial⟩
    rintro ⟨m, l⟩ g ⟨hl, hm⟩
    replace hl : l ++ enc m = enc n.natAbs := hl
    replace hm : m ≤ 9223372036854775808 := hm
    have hll : l.length ≤ 3 := by rw [← hl, List.length_append] at hlen; omega
    cases l with
    | nil =>
      conv => whnf
      refine condX_dec (fun h1 => ?_) (fun h1 => ?_) <;> conv => whnf
      · have h0 : m ≠ 0 := by omega
        repeat ((first | refine ldX_eq rfl ?_ | refine And.intro rfl ?_); conv => whnf)
        refine remX_nat m 1000000000 rfl rfl (by omega) ?_
        conv => whnf
        refine wrapX_nat (m % 1000000000) rfl (IntWalk.u32_in _ (by omega)) ?_
        conv => whnf
        refine ⟨by decide, by decide, rfl, ?_⟩
        conv => whnf
        refine Or.inr ?_
        conv => whnf
        refine ⟨⟨rfl, trivial⟩, ?_⟩
        conv => whnf
        refine apX_limbs_nils (d := m % 1000000000) ⟨rfl, rfl⟩ ?_
        conv => whnf
        repeat ((first | refine stX_box rfl ?_); conv => whnf)
        refine And.intro rfl (divX_nat m 1000000000 rfl rfl (by omega) (IntWalk.u64_in _ (by omega)) ?_)
        conv => whnf
        refine ⟨(m / 1000000000, [m % 1000000000]), ?_, ⟨?_, ?_⟩, rfl, rfl, rfl, rfl, rfl, trivial⟩
        · show m / 1000000000 < m
          omega
        · show [m % 1000000000] ++ enc (m / 1000000000) = enc n.natAbs
          rw [← hl, enc_step h0]; rfl
        · show m / 1000000000 ≤ 9223372036854775808
          omega
      · obtain rfl : m = 0 := by omega
        have e : enc n.natAbs = [] := by rw [← hl]; rfl
        repeat ((first | refine ldX_eq rfl ?_ | refine stX_box rfl ?_); conv => whnf)
        show Frz _ _ (.agg [.bool _, magR (enc n.natAbs)])
        rw [e]
        exact .pure _ (pure_agg2 (.bool _) .nils)
    | cons x l =>
      conv => whnf
      refine condX_dec (fun h1 => ?_) (fun h1 => ?_) <;> conv => whnf
      · have h0 : m ≠ 0 := by omega
        repeat ((first | refine ldX_eq rfl ?_ | refine And.intro rfl ?_); conv => whnf)
        refine remX_nat m 1000000000 rfl rfl (by omega) ?_
        conv => whnf
        refine wrapX_nat (m % 1000000000) rfl (IntWalk.u32_in _ (by omega)) ?_
        conv => whnf
        refine ⟨by decide, by decide, rfl, ?_⟩
        conv => whnf
        refine Or.inr ?_
        conv => whnf
        refine ⟨⟨rfl, trivial⟩, ?_⟩
        conv => whnf
        refine apX_limbs_grow (L := x :: l) (d := m % 1000000000) rfl ⟨rfl, rfl⟩ ⟨by omega, rfl, by simp only [List.length_cons] at hll; omega⟩ ?_
        conv => whnf
        repeat ((first | refine stX_box rfl ?_); conv => whnf)
        refine And.intro rfl (divX_nat m 1000000000 rfl rfl (by omega) (IntWalk.u64_in _ (by omega)) ?_)
        conv => whnf
        refine ⟨(m / 1000000000, x :: (l ++ [m % 1000000000])), ?_, ⟨?_, ?_⟩, ?_, rfl, rfl, rfl, rfl, trivial⟩
        · show m / 1000000000 < m
          omega
        · show x :: (l ++ [m % 1000000000]) ++ enc (m / 1000000000) = enc n.natAbs
          rw [← hl, enc_step h0]; simp
        · show m / 1000000000 ≤ 9223372036854775808
          omega
        · show Heap.mk [_, some (.rows [[.bool _, .ms 2 0 (l.length + 1 + 1) none]] false false), _] [] = Heap.mk [_, some (.rows [[.bool _, .ms 2 0 ((l ++ [m % 1000000000]).length + 1) none]] false false), _] []
          rw [show (l ++ [m % 1000000000]).length = l.length + 1 by simp]
          rfl
      · obtain rfl : m = 0 := by omega
        have e : enc n.natAbs = x :: l := by rw [← hl]; simp [enc_zero]
        repeat ((first | refine ldX_eq rfl ?_ | refine stX_box rfl ?_); conv => whnf)
        show Frz _ _ (.agg [.bool _, magR (enc n.natAbs)])
        rw [e]
        exact frz_agg2 (.pure _ (.bool _)) (frz_limbs (L := x :: l) rfl (by simp) (by simp))
  · refine wrapX_eq (w := ((n.natAbs : Nat) : Int)) (by rw [show IntKind.u64.wrap n = n % 18446744073709551616 from rfl]; omega) ?_
    conv => whnf
    repeat ((first | refine And.intro rfl ?_ | refine condX_f (decide_eq_false (by omega)) ?_); conv => whnf)
    refine loop_p exactT_ok mixed 27 (fun p : Nat × List Nat => p.1) (fun p => p.2 ++ enc p.1 = enc n.natAbs ∧ p.1 ≤ 9223372036854775808)
      (fun p => [(2, .ptr 0 0 0), (3, .ptr 1 0 0), (4, .int .u64 ((p.1 : Nat) : Int))])
      (fun p => smallH (decide (n < 0)) p.2) ?_ (n.natAbs, []) _ ⟨rfl, by omega⟩ rfl rfl ⟨rfl, rfl, rfl, trivial⟩
    rintro ⟨m, l⟩ g ⟨hl, hm⟩
    replace hl : l ++ enc m = enc n.natAbs := hl
    replace hm : m ≤ 9223372036854775808 := hm
    have hll : l.length ≤ 3 := by rw [← hl, List.length_append] at hlen; omega
    cases l with
    | nil =>
      conv => whnf
      refine condX_dec (fun h1 => ?_) (fun h1 => ?_) <;> conv => whnf
      · have h0 : m ≠ 0 := by omega
        repeat ((first | refine ldX_eq rfl ?_ | refine And.intro rfl ?_); conv => whnf)
        refine remX_nat m 1000000000 rfl rfl (by omega) ?_
        conv => whnf
        refine wrapX_nat (m % 1000000000) rfl (IntWalk.u32_in _ (by omega)) ?_
        conv => whnf
        refine ⟨by decide, by decide, rfl, ?_⟩
        conv => whnf
        refine Or.inr ?_
        conv => whnf
        refine ⟨⟨rfl, trivial⟩, ?_⟩
        conv => whnf
        refine apX_limbs_nils (d := m % 1000000000) ⟨rfl, rfl⟩ ?_
        conv => whnf
        repeat ((first | refine stX_box rfl ?_); conv => whnf)
        refine And.intro rfl (divX_nat m 1000000000 rfl rfl (by omega) (IntWalk.u64_in _ (by omega)) ?_)
        conv => whnf
        refine ⟨(m / 1000000000, [m % 1000000000]), ?_, ⟨?_, ?_⟩, rfl, rfl, rfl, rfl, rfl, trivial⟩
        · show m / 1000000000 < m
          omega
        · show [m % 1000000000] ++ enc (m / 1000000000) = enc n.natAbs
          rw [← hl, enc_step h0]; rfl
        · show m / 1000000000 ≤ 9223372036854775808
          omega
      · obtain rfl : m = 0 := by omega
        have e : enc n.natAbs = [] := by rw [← hl]; rfl
        repeat ((first | refine ldX_eq rfl ?_ | refine stX_box rfl ?_); conv => whnf)
        show Frz _ _ (.agg [.bool _, magR (enc n.natAbs)])
        rw [e]
        exact .pure _ (pure_agg2 (.bool _) .nils)
    | cons x l =>
      conv => whnf
      refine condX_dec (fun h1 => ?_) (fun h1 => ?_) <;> conv => whnf
      · have h0 : m ≠ 0 := by omega
        repeat ((first | refine ldX_eq rfl ?_ | refine And.intro rfl ?_); conv => whnf)
        refine remX_nat m 1000000000 rfl rfl (by omega) ?_
        conv => whnf
        refine wrapX_nat (m % 1000000000) rfl (IntWalk.u32_in _ (by omega)) ?_
        conv => whnf
        refine ⟨by decide, by decide, rfl, ?_⟩
        conv => whnf
        refine Or.inr ?_
        conv => whnf
        refine ⟨⟨rfl, trivial⟩, ?_⟩
        conv => whnf
        refine apX_limbs_grow (L := x :: l) (d := m % 1000000000) rfl ⟨rfl, rfl⟩ ⟨by omega, rfl, by simp only [List.length_cons] at hll; omega⟩ ?_
        conv => whnf
        repeat ((first | refine stX_box rfl ?_); conv => whnf)
        refine And.intro rfl (divX_nat m 1000000000 rfl rfl (by omega) (IntWalk.u64_in _ (by omega)) ?_)
        conv => whnf
        refine ⟨(m / 1000000000, x :: (l ++ [m % 1000000000])), ?_, ⟨?_, ?_⟩, ?_, rfl, rfl, rfl, rfl, trivial⟩
        · show m / 1000000000 < m
          omega
        · show x :: (l ++ [m % 1000000000]) ++ enc (m / 1000000000) = enc n.natAbs
          rw [← hl, enc_step h0]; simp
        · show m / 1000000000 ≤ 9223372036854775808
          omega
        · show Heap.mk [_, some (.rows [[.bool _, .ms 2 0 (l.length + 1 + 1) none]] false false), _] [] = Heap.mk [_, some (.rows [[.bool _, .ms 2 0 ((l ++ [m % 1000000000]).length + 1) none]] false false), _] []
          rw [show (l ++ [m % 1000000000]).length = l.length + 1 by simp]
          rfl
      · obtain rfl : m = 0 := by omega
        have e : enc n.natAbs = x :: l := by rw [← hl]; simp [enc_zero]
        repeat ((first | refine ldX_eq rfl ?_ | refine stX_box rfl ?_); conv => whnf)
        show Frz _ _ (.agg [.bool _, magR (enc n.natAbs)])
        rw [e]
        exact frz_agg2 (.pure _ (.bool _)) (frz_limbs (L := x :: l) rfl (by simp) (by simp))

theorem small_whole (n : Int) (hn : -9223372036854775808 ≤ n ∧ n ≤ 9223372036854775807) :
    PureSem Tryz.prog 75 [.int .i64 n] (.agg [.bool (decide (n < 0)), magR (enc n.natAbs)]) ∧ WholeV n (.agg [.bool (decide (n < 0)), magR (enc n.natAbs)]) :=
  ⟨small_pure n hn, _, magR_V _, rfl⟩
end
end Go.Abs

namespace Go.Abs
noncomputable section
open Go.Proofs

set_option maxHeartbeats 1000000 in
theorem divided_less {u v : List Nat} {X Y : AV} (hX : MagV u X) (hY : MagV v Y) (hu : u.length < 4611686018427387904) (hc : cmpMag u v < 0) :
    PureSem Tryz.prog 156 [X, Y] (.tup [.nils, X]) := by
  have pX := hX.pure
  have pY := hY.pure
  have hcmp := compare_pure u v X Y hX hY hu
  refine pure_of_call (pure2 pX pY) (pure_tup2 .nils pX) (call_x exactT_ok mixed Tryz.func156 rfl (by decide +kernel) ?_)
  cases hX <;> cases hY
  all_goals
    conv => whnf
    repeat ((first | refine callX_pure hcmp (pure2 pX pY) ?_ | refine condX_t (decide_eq_true hc) ?_ | refine And.intro rfl ?_); conv => whnf)
    exact .pure _ (pure_tup2 .nils pX)

set_option maxHeartbeats 1000000 in
theorem divided_one {u : List Nat} {d : Nat} {X : AV} {c : Option Nat} (hX : MagV u X) (ou : okL u) (hu : u.length < 1000000000000) (hd : 0 < d) (hd2 : d < 1000000000) (hc : ¬ cmpMag u [d] < 0) :
    PureSem Tryz.prog 156 [X, .vs (limbsV [d]) c] (.tup [.vs (limbsV (shortP u d 0)) (some u.length), .vs (limbsV [val u % d]) (some 1)]) := by
  have pX := hX.pure
  have pY := pure_limbs [d] c
  have hcmp := compare_pure u [d] X _ hX (.vs c) (by omega)
  have hsh := short_pure d hX ou hu hd hd2
  refine pure_of_call (pure2 pX pY) (pure_tup2 (pure_limbs _ _) (pure_limbs _ _)) (call_x exactT_ok mixed Tryz.func156 rfl (by decide +kernel) ?_)
  cases hX
  all_goals
    conv => whnf
    repeat ((first | refine callX_pure hcmp (pure2 pX pY) ?_ | refine condX_f (decide_eq_false hc) ?_ | refine lenX_eq (limbsV_length _) ?_ | refine condX_true ?_ | refine condX_t rfl ?_ | refine idx_limbs 0 rfl (by simp) ?_ | refine ldX_eq rfl ?_ | refine callX_pure hsh (pure2 pX (.int _ _)) ?_ | refine And.intro rfl ?_); conv => whnf)
    refine ⟨by decide, by decide, rfl, ?_⟩
    conv => whnf
    refine Or.inl ?_
    conv => whnf
    exact frz_tup2 (.pure _ (pure_limbs _ _)) (frz_limbs (L := [val u % d]) rfl (by simp) (by simp))
end
end Go.Abs

namespace Go.Abs
noncomputable section
open Go.Proofs

set_option maxHeartbeats 2000000 in
theorem lose2_call {L o O : List Nat} {capo c : Option Nat} (s len x : Nat) (hO : O.take o.length = o) (oL : okL L) (oo : okL o) (hx : x < 1000000000) (hlen : o.length + 1 ≤ len) (hL : s + len ≤ L.length) (hLl : L.length < 4611686018427387904) :
    CallSem Tryz.prog 196 [.ms 0 s len capo, .ms 1 0 o.length c, .int .u64 (x : Int)] ⟨[some (.rows (limbsV L) false false), some (.rows (limbsV O) false false)], []⟩
      fun r h' => r = .bool (decide (((loseB L s o x (o.length + 1) : Nat) : Int) > 0)) ∧ h' = ⟨[some (.rows (limbsV (loseP L s o x (o.length + 1))) false false), some (.rows (limbsV O) false false)], []⟩ := by
  have hOl : o.length ≤ O.length := by
    have := congrArg List.length hO
    rw [List.length_take] at this
    omega
  have hget : ∀ (i : Nat) (h : i < o.length), O[0 + i]? = some o[i] := fun i h => by
    have e : (O.take o.length)[i]? = o[i]? := by rw [hO]
    rw [List.getElem?_take_of_lt h] at e
    rw [Nat.zero_add, e, List.getElem?_eq_getElem h]
  refine call_x exactT_ok mixed Tryz.func196 rfl (by decide +kernel) ?_
  conv => whnf
  repeat ((first | refine lenX_eq rfl ?_ | refine And.intro rfl ?_ | refine wrapX_i64 (by omega) ?_); conv => whnf)
  refine loop_p exactT_ok mixed 57 (fun i : Nat => o.length + 1 - i) (fun i => i ≤ o.length + 1)
    (fun i => [(0, .ms 0 s len capo), (1, .ms 1 0 o.length c), (2, .int .u64 (x : Int)), (7, .int .u64 ((carS (fun j => x * o.getD j 0) i : Nat) : Int)), (8, .int .i64 ((loseB L s o x i : Nat) : Int)), (14, .int .i64 ((o.length : Int) + 1)), (15, .int .i64 ((i : Nat) : Int))])
    (fun i => ⟨[some (.rows (limbsV (loseP L s o x i)) false false), some (.rows (limbsV O) false false)], []⟩) ?_ 0 _ (Nat.zero_le _) (by rw [loseP_zero]) rfl ⟨rfl, rfl, rfl, rfl, rfl, rfl, rfl, trivial⟩
  rintro i g hi
  have hc := times_car oo hx i
  have hb : loseB L s o x i ≤ 1 := borS_le _ _ i
  have hbu : borS (fun j => L.getD (s + j) 0) (digS (fun j => x * o.getD j 0)) i = loseB L s o x i := rfl
  conv => whnf
  refine condX_dec (fun h1 => ?_) (fun h1 => ?_) <;> conv => whnf
  · have hsi : s + i < L.length := by omega
    have hLi := okL_get oL hsi
    have eL : L.getD (s + i) 0 = L[s + i] := by simp [hsi]
    repeat ((first | refine lenX_eq rfl ?_ | refine And.intro rfl ?_); conv => whnf)
    refine condX_dec (fun h2 => ?_) (fun h2 => ?_) <;> conv => whnf
    · have hio : i < o.length := by omega
      have ho := okL_get oo hio
      have eo : o.getD i 0 = o[i] := by simp [hio]
      have hm : x * o[i] ≤ 999999999 * 999999999 := Nat.mul_le_mul (by omega) (by omega)
      refine idm_limbs i rfl hio (by omega) ?_
      conv => whnf
      refine ld_limbs (x := o[i]) (hget i hio) rfl ?_
      conv => whnf
      repeat ((first | refine And.intro rfl ?_ | refine wrapX_u64 (by omega) ?_); conv => whnf)
      have hdT : digS (fun j => x * o.getD j 0) i < 1000000000 := Nat.mod_lt _ (by omega)
      have hdg : digS (fun j => x * o.getD j 0) i = (x * o.getD i 0 + carS (fun j => x * o.getD j 0) i) % 1000000000 := rfl
      have hbo : borS (fun j => L.getD (s + j) 0) (digS (fun j => x * o.getD j 0)) (i + 1) = if L.getD (s + i) 0 < digS (fun j => x * o.getD j 0) i + borS (fun j => L.getD (s + j) 0) (digS (fun j => x * o.getD j 0)) i then 1 else 0 := rfl
      have hdf : difS (fun j => L.getD (s + j) 0) (digS (fun j => x * o.getD j 0)) i = if L.getD (s + i) 0 < digS (fun j => x * o.getD j 0) i + borS (fun j => L.getD (s + j) 0) (digS (fun j => x * o.getD j 0)) i then L.getD (s + i) 0 + 1000000000 - (digS (fun j => x * o.getD j 0) i + borS (fun j => L.getD (s + j) 0) (digS (fun j => x * o.getD j 0)) i) else L.getD (s + i) 0 - (digS (fun j => x * o.getD j 0) i + borS (fun j => L.getD (s + j) 0) (digS (fun j => x * o.getD j 0)) i) := rfl
      rw [eL] at hbo hdf
      refine divX_nat (x * o.getD i 0 + carS (fun j => x * o.getD j 0) i) 1000000000 (by rw [eo]; push_cast; omega) rfl (by omega) (IntWalk.u64_in _ (by have := Nat.div_le_self (x * o.getD i 0 + carS (fun j => x * o.getD j 0) i) 1000000000; rw [eo] at *; omega)) ?_
      conv => whnf
      refine idm_limbs i rfl (by omega) (by rw [loseP_length (by omega)]; omega) ?_
      conv => whnf
      refine ld_limbs (x := L[s + i]) (loseP_get hsi) rfl ?_
      conv => whnf
      repeat ((first | refine And.intro rfl ?_ | refine wrapX_i64 (by omega) ?_ | refine remX_nat (x * o.getD i 0 + carS (fun j => x * o.getD j 0) i) 1000000000 (by rw [eo]; push_cast; omega) rfl (by omega) ?_ | refine wrapX_nat (digS (fun j => x * o.getD j 0) i) rfl (IntWalk.i64_in _ (by omega)) ?_); conv => whnf)
      refine condX_dec (fun h3 => ?_) (fun h3 => ?_) <;> conv => whnf
      all_goals
        repeat ((first | refine And.intro rfl ?_ | refine wrapX_i64 (by omega) ?_); conv => whnf)
        refine wrapX_nat (difS (fun j => L.getD (s + j) 0) (digS (fun j => x * o.getD j 0)) i) (by split at hdf <;> omega) (IntWalk.u32_in _ (by split at hdf <;> omega)) ?_
        conv => whnf
        refine idm_limbs i rfl (by omega) (by rw [loseP_length (by omega)]; omega) ?_
        conv => whnf
        refine st_limbs (d := difS (fun j => L.getD (s + j) 0) (digS (fun j => x * o.getD j 0)) i) (by rw [loseP_length (by omega)]; omega) rfl ?_
        conv => whnf
        repeat ((first | refine And.intro rfl ?_ | refine wrapX_i64 (by omega) ?_); conv => whnf)
        refine ⟨i + 1, by omega, by omega, ?_, rfl, rfl, rfl, rfl, rfl, ?_, rfl, rfl, trivial⟩
        · show Heap.mk [some (.rows (limbsV (List.set _ _ _)) false false), _] [] = Heap.mk [some (.rows (limbsV _) false false), _] []
          rw [loseP_set hsi]
        · show some (AV.int .i64 _) = some (AV.int .i64 _)
          unfold loseB
          rw [hbo]
          congr 2
          split <;> omega
    · have eo : o.getD i 0 = 0 := by simp [List.getElem?_eq_none (show o.length ≤ i by omega)]
      repeat ((first | refine And.intro rfl ?_); conv => whnf)
      have hdT : digS (fun j => x * o.getD j 0) i < 1000000000 := Nat.mod_lt _ (by omega)
      have hdg : digS (fun j => x * o.getD j 0) i = (x * o.getD i 0 + carS (fun j => x * o.getD j 0) i) % 1000000000 := rfl
      have hbo : borS (fun j => L.getD (s + j) 0) (digS (fun j => x * o.getD j 0)) (i + 1) = if L.getD (s + i) 0 < digS (fun j => x * o.getD j 0) i + borS (fun j => L.getD (s + j) 0) (digS (fun j => x * o.getD j 0)) i then 1 else 0 := rfl
      have hdf : difS (fun j => L.getD (s + j) 0) (digS (fun j => x * o.getD j 0)) i = if L.getD (s + i) 0 < digS (fun j => x * o.getD j 0) i + borS (fun j => L.getD (s + j) 0) (digS (fun j => x * o.getD j 0)) i then L.getD (s + i) 0 + 1000000000 - (digS (fun j => x * o.getD j 0) i + borS (fun j => L.getD (s + j) 0) (digS (fun j => x * o.getD j 0)) i) else L.getD (s + i) 0 - (digS (fun j => x * o.getD j 0) i + borS (fun j => L.getD (s + j) 0) (digS (fun j => x * o.getD j 0)) i) := rfl
      rw [eL] at hbo hdf
      refine divX_nat (x * o.getD i 0 + carS (fun j => x * o.getD j 0) i) 1000000000 (by rw [eo]; push_cast; omega) rfl (by omega) (IntWalk.u64_in _ (by have := Nat.div_le_self (x * o.getD i 0 + carS (fun j => x * o.getD j 0) i) 1000000000; rw [eo] at *; omega)) ?_
      conv => whnf
      refine idm_limbs i rfl (by omega) (by rw [loseP_length (by omega)]; omega) ?_
      conv => whnf
      refine ld_limbs (x := L[s + i]) (loseP_get hsi) rfl ?_
      conv => whnf
      repeat ((first | refine And.intro rfl ?_ | refine wrapX_i64 (by omega) ?_ | refine remX_nat (x * o.getD i 0 + carS (fun j => x * o.getD j 0) i) 1000000000 (by rw [eo]; push_cast; omega) rfl (by omega) ?_ | refine wrapX_nat (digS (fun j => x * o.getD j 0) i) rfl (IntWalk.i64_in _ (by omega)) ?_); conv => whnf)
      refine condX_dec (fun h3 => ?_) (fun h3 => ?_) <;> conv => whnf
      all_goals
        repeat ((first | refine And.intro rfl ?_ | refine wrapX_i64 (by omega) ?_); conv => whnf)
        refine wrapX_nat (difS (fun j => L.getD (s + j) 0) (digS (fun j => x * o.getD j 0)) i) (by split at hdf <;> omega) (IntWalk.u32_in _ (by split at hdf <;> omega)) ?_
        conv => whnf
        refine idm_limbs i rfl (by omega) (by rw [loseP_length (by omega)]; omega) ?_
        conv => whnf
        refine st_limbs (d := difS (fun j => L.getD (s + j) 0) (digS (fun j => x * o.getD j 0)) i) (by rw [loseP_length (by omega)]; omega) rfl ?_
        conv => whnf
        repeat ((first | refine And.intro rfl ?_ | refine wrapX_i64 (by omega) ?_); conv => whnf)
        refine ⟨i + 1, by omega, by omega, ?_, rfl, rfl, rfl, rfl, rfl, ?_, rfl, rfl, trivial⟩
        · show Heap.mk [some (.rows (limbsV (List.set _ _ _)) false false), _] [] = Heap.mk [some (.rows (limbsV _) false false), _] []
          rw [loseP_set hsi]
        · show some (AV.int .i64 _) = some (AV.int .i64 _)
          unfold loseB
          rw [hbo]
          congr 2
          split <;> omega
  · obtain rfl : i = o.length + 1 := by omega
    exact ⟨rfl, rfl⟩
set_option maxHeartbeats 2000000 in
theorem gain2_call {L o O : List Nat} {capo c : Option Nat} (s len : Nat) (hO : O.take o.length = o) (oL : okL L) (oo : okL o) (hlen : o.length + 1 ≤ len) (hL : s + len ≤ L.length) (hLl : L.length < 4611686018427387904) :
    CallSem Tryz.prog 197 [.ms 0 s len capo, .ms 1 0 o.length c] ⟨[some (.rows (limbsV L) false false), some (.rows (limbsV O) false false)], []⟩
      fun r h' => r = .tup [] ∧ h' = ⟨[some (.rows (limbsV (gainP L s o (o.length + 1))) false false), some (.rows (limbsV O) false false)], []⟩ := by
  have hOl : o.length ≤ O.length := by
    have := congrArg List.length hO
    rw [List.length_take] at this
    omega
  have hget : ∀ (i : Nat) (h : i < o.length), O[0 + i]? = some o[i] := fun i h => by
    have e : (O.take o.length)[i]? = o[i]? := by rw [hO]
    rw [List.getElem?_take_of_lt h] at e
    rw [Nat.zero_add, e, List.getElem?_eq_getElem h]
  refine call_x exactT_ok mixed Tryz.func197 rfl (by decide +kernel) ?_
  conv => whnf
  repeat ((first | refine lenX_eq rfl ?_ | refine And.intro rfl ?_ | refine wrapX_i64 (by omega) ?_); conv => whnf)
  refine loop_p exactT_ok mixed 37 (fun i : Nat => o.length + 1 - i) (fun i => i ≤ o.length + 1)
    (fun i => [(0, .ms 0 s len capo), (1, .ms 1 0 o.length c), (4, .int .u32 ((carS (gainT L s o) i : Nat) : Int)), (9, .int .i64 ((o.length : Int) + 1)), (10, .int .i64 ((i : Nat) : Int))])
    (fun i => ⟨[some (.rows (limbsV (gainP L s o i)) false false), some (.rows (limbsV O) false false)], []⟩) ?_ 0 _ (Nat.zero_le _) (by rw [gainP_zero]) rfl ⟨rfl, rfl, rfl, rfl, rfl, trivial⟩
  rintro i g hi
  have hc := gain_car oL oo s i
  conv => whnf
  refine condX_dec (fun h1 => ?_) (fun h1 => ?_) <;> conv => whnf
  · have hsi : s + i < L.length := by omega
    have hLi := okL_get oL hsi
    have eL : L.getD (s + i) 0 = L[s + i] := by simp [hsi]
    refine idm_limbs i rfl (by omega) (by rw [gainP_length (by omega)]; omega) ?_
    conv => whnf
    refine ld_limbs (x := L[s + i]) (gainP_get hsi) rfl ?_
    conv => whnf
    repeat ((first | refine lenX_eq rfl ?_ | refine And.intro rfl ?_ | refine wrapX_u32 (by omega) ?_); conv => whnf)
    refine condX_dec (fun h2 => ?_) (fun h2 => ?_) <;> conv => whnf
    · have hio : i < o.length := by omega
      have ho := okL_get oo hio
      have eo : o.getD i 0 = o[i] := by simp [hio]
      have eT : gainT L s o i = L[s + i] + o[i] := by unfold gainT; rw [eL, eo]
      refine idm_limbs i rfl hio (by omega) ?_
      conv => whnf
      refine ld_limbs (x := o[i]) (hget i hio) rfl ?_
      conv => whnf
      repeat ((first | refine And.intro rfl ?_ | refine wrapX_u32 (by omega) ?_); conv => whnf)
      have hT : gainT L s o i ≤ 1999999998 := by rw [eT]; omega
      refine remX_nat (gainT L s o i + carS (gainT L s o) i) 1000000000 (by rw [eT]; push_cast; omega) rfl (by omega) ?_
      conv => whnf
      refine And.intro rfl (divX_nat (gainT L s o i + carS (gainT L s o) i) 1000000000 (by rw [eT]; push_cast; omega) rfl (by omega) (IntWalk.u32_in _ (by have := Nat.div_le_self (gainT L s o i + carS (gainT L s o) i) 1000000000; omega)) ?_)
      conv => whnf
      refine idm_limbs i rfl (by omega) (by rw [gainP_length (by omega)]; omega) ?_
      conv => whnf
      refine st_limbs (d := digS (gainT L s o) i) (by rw [gainP_length (by omega)]; omega) rfl ?_
      conv => whnf
      repeat ((first | refine And.intro rfl ?_ | refine wrapX_i64 (by omega) ?_); conv => whnf)
      refine ⟨i + 1, by omega, by omega, ?_, rfl, rfl, rfl, rfl, rfl, rfl, trivial⟩
      show Heap.mk [some (.rows (limbsV (List.set _ _ _)) false false), _] [] = Heap.mk [some (.rows (limbsV _) false false), _] []
      rw [gainP_set hsi]
    · have eo : o.getD i 0 = 0 := by simp [List.getElem?_eq_none (show o.length ≤ i by omega)]
      have eT : gainT L s o i = L[s + i] + 0 := by unfold gainT; rw [eL, eo]
      repeat ((first | refine And.intro rfl ?_); conv => whnf)
      have hT : gainT L s o i ≤ 1999999998 := by rw [eT]; omega
      refine remX_nat (gainT L s o i + carS (gainT L s o) i) 1000000000 (by rw [eT]; push_cast; omega) rfl (by omega) ?_
      conv => whnf
      refine And.intro rfl (divX_nat (gainT L s o i + carS (gainT L s o) i) 1000000000 (by rw [eT]; push_cast; omega) rfl (by omega) (IntWalk.u32_in _ (by have := Nat.div_le_self (gainT L s o i + carS (gainT L s o) i) 1000000000; omega)) ?_)
      conv => whnf
      refine idm_limbs i rfl (by omega) (by rw [gainP_length (by omega)]; omega) ?_
      conv => whnf
      refine st_limbs (d := digS (gainT L s o) i) (by rw [gainP_length (by omega)]; omega) rfl ?_
      conv => whnf
      repeat ((first | refine And.intro rfl ?_ | refine wrapX_i64 (by omega) ?_); conv => whnf)
      refine ⟨i + 1, by omega, by omega, ?_, rfl, rfl, rfl, rfl, rfl, rfl, trivial⟩
      show Heap.mk [some (.rows (limbsV (List.set _ _ _)) false false), _] [] = Heap.mk [some (.rows (limbsV _) false false), _] []
      rw [gainP_set hsi]
  · obtain rfl : i = o.length + 1 := by omega
    exact ⟨rfl, rfl⟩
end
end Go.Abs
