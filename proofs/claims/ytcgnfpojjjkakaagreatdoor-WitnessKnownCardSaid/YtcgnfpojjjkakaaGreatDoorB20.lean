/-
  Steps to a law of this program: AbsDiv3, AbsDiv4, AbsDiv5, AbsEmbed2, AbsPerm, AbsRen.
  Conditions: none.
-/
import Derived.Test.YtcgnfpojjjkakaaGreatDoorB19
import Derived.Test.YtcgnfpojjjkakaaGreatDoorB4
import Derived.Test.YtcgnfpojjjkakaaGreatDoorB18
set_option linter.unusedVariables false
set_option linter.unusedSimpArgs false
set_option linter.unusedSectionVars false
namespace Go.Abs
noncomputable section

theorem divL_take {L o : List Nat} {s x : Nat} (h : s + (o.length + 1) ≤ L.length) : (divL L s o x).take s = L.take s := by
  have h1 : (loseP L s o x (o.length + 1)).take s = L.take s := by
    unfold loseP
    rw [List.append_assoc, List.take_append_of_le_length (by simp; omega), List.take_take, Nat.min_self]
  unfold divL
  split
  · exact h1
  · unfold gainP
    have hl : (loseP L s o x (o.length + 1)).length = L.length := loseP_length h
    rw [List.append_assoc, List.take_append_of_le_length (by simp [hl]; omega), List.take_take, Nat.min_self, h1]
theorem divL_drop {L o : List Nat} {s x : Nat} (h : s + (o.length + 1) ≤ L.length) : (divL L s o x).drop (s + (o.length + 1)) = L.drop (s + (o.length + 1)) := by
  have h1 : (loseP L s o x (o.length + 1)).drop (s + (o.length + 1)) = L.drop (s + (o.length + 1)) := by
    unfold loseP
    rw [List.drop_append_of_le_length (by simp [subS_length]; omega), List.drop_of_length_le (by simp [subS_length]; omega), List.nil_append]
  unfold divL
  split
  · exact h1
  · unfold gainP
    have hl : (loseP L s o x (o.length + 1)).length = L.length := loseP_length h
    rw [List.drop_append_of_le_length (by simp [outS_length, hl]; omega), List.drop_of_length_le (by simp [outS_length]; omega), List.nil_append, h1]

theorem val_split (L : List Nat) {s : Nat} (h : s ≤ L.length) : val L = val (L.take s) + 1000000000 ^ s * val (L.drop s) := by
  have e := val_append (L.take s) (L.drop s)
  rw [List.take_append_drop, List.length_take, Nat.min_eq_left h] at e
  exact e
theorem val_set {Q : List Nat} {s : Nat} (q : Nat) (h : s < Q.length) (h0 : Q[s] = 0) : val (Q.set s q) = val Q + 1000000000 ^ s * q := by
  have e1 := val_split Q (s := s) (by omega)
  have e2 := val_split (Q.set s q) (s := s) (by rw [List.length_set]; omega)
  rw [List.drop_eq_getElem_cons h, h0] at e1
  rw [List.take_set_of_le (Nat.le_refl s), List.drop_eq_getElem_cons (by rw [List.length_set]; exact h), List.getElem_set_self, List.drop_set_of_lt (by omega)] at e2
  simp only [val] at e1 e2
  rw [e2, e1, Nat.mul_add, Nat.mul_add, Nat.mul_zero]
  omega

structure DivI (A : Nat) (o : List Nat) (i : Nat) (L Q : List Nat) : Prop where
  okl : okL L
  okq : okL Q
  rest : val (L.drop i) < val o
  eq : val Q * val o + val L = A
  zero : ∀ j (h : j < Q.length), j < i → Q[j] = 0

theorem DivI.window {A : Nat} {o L Q : List Nat} {s : Nat} (h : DivI A o (s + 1) L Q) (oo : okL o) (hL : s + (o.length + 1) ≤ L.length) :
    val ((L.drop s).take (o.length + 1)) = val (L.drop s) ∧ val (L.drop s) < val o * 1000000000 ∧ val (L.drop (s + (o.length + 1))) = 0 := by
  have hs : s < L.length := by omega
  have e1 : val (L.drop s) = L[s] + 1000000000 * val (L.drop (s + 1)) := by
    rw [List.drop_eq_getElem_cons hs]; rfl
  have hx := okL_get h.okl hs
  have hr := h.rest
  have h2 : val (L.drop s) < val o * 1000000000 := by omega
  have e2 := val_split (L.drop s) (s := o.length + 1) (by rw [List.length_drop]; omega)
  rw [List.drop_drop] at e2
  have h3 : val o * 1000000000 ≤ 1000000000 ^ (o.length + 1) := by
    rw [Nat.pow_succ]; exact Nat.mul_le_mul_right _ (Nat.le_of_lt (val_lt oo))
  have h4 : val (L.drop (s + (o.length + 1))) = 0 := by
    rcases Nat.eq_zero_or_pos (val (L.drop (s + (o.length + 1)))) with h | h
    · exact h
    · have : 1000000000 ^ (o.length + 1) * 1 ≤ 1000000000 ^ (o.length + 1) * val (L.drop (s + (o.length + 1))) := Nat.mul_le_mul_left _ h
      omega
  rw [h4, Nat.mul_zero, Nat.add_zero] at e2
  exact ⟨e2.symm, h2, h4⟩

theorem DivI.step {A : Nat} {o L Q : List Nat} {s x : Nat} (h : DivI A o (s + 1) L Q) (oo : okL o) (h0 : 0 < val o) (hL : s + (o.length + 1) ≤ L.length) (hQ : s < Q.length) (hx : x < 1000000000)
    (h1 : val (L.drop s) / val o ≤ x) (h2 : x ≤ val (L.drop s) / val o + 1) : DivI A o s (divL L s o x) (Q.set s (divQ L s o x)) ∧ (divL L s o x).length = L.length ∧ divQ L s o x < 1000000000 := by
  obtain ⟨w1, w2, w3⟩ := h.window oo hL
  have hr := round_ok h.okl oo hx h0 hL (by rw [w1]; exact h1) (by rw [w1]; exact h2)
  obtain ⟨rq, rv, rl, ro⟩ := hr
  rw [w1] at rq rv
  have hq : divQ L s o x < 1000000000 := by rw [rq]; exact digit_lt w2 h0
  have e3 := val_split ((divL L s o x).drop s) (s := o.length + 1) (by rw [List.length_drop]; omega)
  rw [List.drop_drop, divL_drop hL, w3, Nat.mul_zero, Nat.add_zero, rv] at e3
  have e4 := val_split (divL L s o x) (s := s) (by omega)
  rw [divL_take hL, e3] at e4
  have e5 := val_split L (s := s) (by omega)
  have e6 := val_set (divQ L s o x) hQ (h.zero s hQ (by omega))
  refine ⟨⟨ro, ?_, by rw [e3]; exact Nat.mod_lt _ h0, ?_, ?_⟩, rl, hq⟩
  · intro y hy
    rcases List.mem_or_eq_of_mem_set hy with hy | hy
    · exact h.okq y hy
    · rw [hy]; exact hq
  · have he := h.eq
    rw [e6, e4, rq, Nat.add_mul]
    rw [e5] at he
    have hd : 1000000000 ^ s * val (L.drop s) = 1000000000 ^ s * (val (L.drop s) / val o) * val o + 1000000000 ^ s * (val (L.drop s) % val o) := by
      rw [Nat.mul_assoc, ← Nat.mul_add, Nat.mul_comm (val (L.drop s) / val o), Nat.div_add_mod]
    omega
  · intro j hj hjs
    rw [List.length_set] at hj
    rw [List.getElem_set_ne (by omega)]
    exact h.zero j hj (by omega)

theorem DivI.done {A : Nat} {o L Q : List Nat} (h : DivI A o 0 L Q) (oo : okL o) (hL : o.length ≤ L.length) : val Q = A / val o ∧ val (L.take o.length) = A % val o := by
  have hr := h.rest
  have he := h.eq
  rw [List.drop_zero] at hr
  have e := val_split L hL
  have hv := val_lt oo
  have h4 : val (L.drop o.length) = 0 := by
    rcases Nat.eq_zero_or_pos (val (L.drop o.length)) with h | h
    · exact h
    · have : 1000000000 ^ o.length * 1 ≤ 1000000000 ^ o.length * val (L.drop o.length) := Nat.mul_le_mul_left _ h
      omega
  rw [h4, Nat.mul_zero, Nat.add_zero] at e
  rw [← e, ← he, Nat.mul_comm, Nat.mul_add_div (by omega), Nat.div_eq_of_lt hr, Nat.mul_add_mod, Nat.mod_eq_of_lt hr]
  exact ⟨rfl, rfl⟩
end
end Go.Abs

namespace Go.Abs
noncomputable section

def unitD (o : List Nat) : Nat := 1000000000 / (o.getD (o.length - 1) 0 + 1)
theorem unitD_pos {o : List Nat} (oo : okL o) : 0 < unitD o := Nat.div_pos (by have := getD_lt oo (o.length - 1); omega) (by omega)
theorem val_top {o : List Nat} (oo : okL o) (hn : o ≠ []) : val o < (o.getD (o.length - 1) 0 + 1) * 1000000000 ^ (o.length - 1) := by
  have hl : 0 < o.length := List.length_pos_iff.2 hn
  have e := val_split o (s := o.length - 1) (by omega)
  rw [List.drop_eq_getElem_cons (by omega), List.drop_of_length_le (by omega)] at e
  simp only [val, Nat.mul_zero, Nat.add_zero] at e
  have hv := val_lt (okL_take oo (o.length - 1))
  rw [List.length_take, Nat.min_eq_left (by omega)] at hv
  have eg : o.getD (o.length - 1) 0 = o[o.length - 1] := by
    have h : o.length - 1 < o.length := by omega
    simp [h]
  rw [eg, Nat.add_mul, Nat.one_mul, Nat.mul_comm o[o.length - 1]]
  omega
theorem unit_fits {o : List Nat} (oo : okL o) (hn : o ≠ []) : val o * unitD o < 1000000000 ^ o.length := by
  have hl : 0 < o.length := List.length_pos_iff.2 hn
  have hv := val_top oo hn
  have h1 : (o.getD (o.length - 1) 0 + 1) * unitD o ≤ 1000000000 := Nat.mul_div_le _ _
  have h2 : val o * unitD o < (o.getD (o.length - 1) 0 + 1) * 1000000000 ^ (o.length - 1) * unitD o := Nat.mul_lt_mul_of_pos_right hv (unitD_pos oo)
  have e : (o.getD (o.length - 1) 0 + 1) * 1000000000 ^ (o.length - 1) * unitD o = (o.getD (o.length - 1) 0 + 1) * unitD o * 1000000000 ^ (o.length - 1) := by
    rw [Nat.mul_assoc, Nat.mul_comm (1000000000 ^ (o.length - 1)), ← Nat.mul_assoc]
  have h3 : (o.getD (o.length - 1) 0 + 1) * unitD o * 1000000000 ^ (o.length - 1) ≤ 1000000000 * 1000000000 ^ (o.length - 1) := Nat.mul_le_mul_right _ h1
  have h4 : 1000000000 * 1000000000 ^ (o.length - 1) = 1000000000 ^ o.length := by
    rw [Nat.mul_comm, ← Nat.pow_succ, Nat.succ_eq_add_one, Nat.sub_add_cancel hl]
  omega
theorem val_drop_lt {L : List Nat} {s C : Nat} (h : s ≤ L.length) (hv : val L < 1000000000 ^ s * C) : val (L.drop s) < C := by
  have e := val_split L h
  have : 1000000000 ^ s * val (L.drop s) < 1000000000 ^ s * C := by omega
  exact Nat.lt_of_mul_lt_mul_left this
theorem val_replicate : ∀ n, val (List.replicate n 0) = 0
  | 0 => rfl
  | n + 1 => by rw [List.replicate_succ, val, val_replicate n]

theorem unitD_lt {o : List Nat} (oo : okL o) (nn : Norm o) (hn : o ≠ []) : unitD o < 1000000000 := by
  have h1 := norm_ge nn hn
  have h2 := val_top oo hn
  have h3 : 1 < o.getD (o.length - 1) 0 + 1 := by
    refine Nat.lt_of_mul_lt_mul_right (a := 1000000000 ^ (o.length - 1)) ?_
    omega
  exact Nat.div_lt_self (by omega) h3

theorem DivI.start {u v : List Nat} {d : Nat} (ou : okL u) (hd0 : 0 < d) (hd : d < 1000000000) (nv : Norm v) (hv : v ≠ []) (hl : v.length ≤ u.length) {b : List Nat} (hb : val b = val v * d) :
    DivI (val u * d) b (u.length + 1 - v.length) (scaledL u d) (List.replicate (u.length + 1 - v.length) 0) := by
  have hvl : 0 < v.length := List.length_pos_iff.2 hv
  refine ⟨scaledL_ok ou hd, ?_, ?_, ?_, ?_⟩
  · intro x hx
    rw [List.eq_of_mem_replicate hx]; omega
  · rw [hb]
    refine val_drop_lt (by rw [scaledL_length]; omega) ?_
    rw [scaledL_val, ← Nat.mul_assoc]
    refine Nat.mul_lt_mul_of_pos_right ?_ hd0
    refine Nat.lt_of_lt_of_le (val_lt ou) ?_
    have h1 := norm_ge nv hv
    have h2 : 1000000000 ^ (u.length + 1 - v.length) * 1000000000 ^ (v.length - 1) ≤ 1000000000 ^ (u.length + 1 - v.length) * val v := Nat.mul_le_mul_left _ h1
    rw [← Nat.pow_add, show u.length + 1 - v.length + (v.length - 1) = u.length by omega] at h2
    exact h2
  · rw [val_replicate, scaledL_val]; omega
  · intro j h _
    rw [List.getElem_replicate]

theorem unscale {a b d : Nat} (hd : 0 < d) : a * d / (b * d) = a / b ∧ a * d % (b * d) / d = a % b := by
  refine ⟨Nat.mul_div_mul_right a b hd, ?_⟩
  rw [Nat.mul_mod_mul_right, Nat.mul_div_cancel _ hd]
end
end Go.Abs

namespace Go.Abs
noncomputable section

theorem val_top1 {l : List Nat} {m : Nat} (ol : okL l) (h : l.length = m + 1) : ∃ y, y < 1000000000 ^ m ∧ val l = l.getD m 0 * 1000000000 ^ m + y := by
  have e := val_split l (s := m) (by omega)
  rw [List.drop_eq_getElem_cons (by omega), List.drop_of_length_le (by omega)] at e
  simp only [val, Nat.mul_zero, Nat.add_zero] at e
  have hv := val_lt (okL_take ol m)
  rw [List.length_take, Nat.min_eq_left (by omega)] at hv
  have eg : l.getD m 0 = l[m] := by
    have h : m < l.length := by omega
    simp [h]
  refine ⟨_, hv, ?_⟩
  rw [eg, e, Nat.mul_comm l[m], Nat.add_comm]
theorem val_top2 {l : List Nat} {m : Nat} (ol : okL l) (h : l.length = m + 2) : ∃ y, y < 1000000000 ^ m ∧ val l = (l.getD (m + 1) 0 * 1000000000 + l.getD m 0) * 1000000000 ^ m + y := by
  obtain ⟨y1, h1, e1⟩ := val_top1 ol (m := m + 1) h
  have hl : (l.take (m + 1)).length = m + 1 := by rw [List.length_take]; omega
  obtain ⟨y2, h2, e2⟩ := val_top1 (okL_take ol (m + 1)) (m := m) hl
  have e3 := val_split l (s := m + 1) (by omega)
  have ed : val (l.drop (m + 1)) = l.getD (m + 1) 0 := by
    have hh : m + 1 < l.length := by omega
    rw [List.drop_eq_getElem_cons (by omega), List.drop_of_length_le (by omega)]
    simp [val, hh]
  have eg : (l.take (m + 1)).getD m 0 = l.getD m 0 := by
    simp [List.getD_eq_getElem?_getD, List.getElem?_take_of_lt (show m < m + 1 by omega)]
  rw [eg] at e2
  refine ⟨y2, h2, ?_⟩
  rw [e3, ed, e2, Nat.add_mul, Nat.pow_succ, Nat.mul_comm (1000000000 ^ m * 1000000000), Nat.mul_comm (1000000000 ^ m) 1000000000, ← Nat.mul_assoc]
  omega
theorem top3_arith (t g P y B : Nat) : g * P + y + P * B * t = (t * B + g) * P + y := by
  rw [Nat.add_mul, Nat.mul_comm (P * B), Nat.mul_comm P B, ← Nat.mul_assoc]
  omega
theorem val_top3 {l : List Nat} {m : Nat} (ol : okL l) (h : l.length = m + 3) : ∃ y, y < 1000000000 ^ m ∧ val l = ((l.getD (m + 2) 0 * 1000000000 + l.getD (m + 1) 0) * 1000000000 + l.getD m 0) * 1000000000 ^ m + y := by
  have hl : (l.take (m + 1)).length = m + 1 := by rw [List.length_take]; omega
  have hl2 : (l.drop (m + 1)).length = 0 + 2 := by rw [List.length_drop]; omega
  obtain ⟨y2, h2, e2⟩ := val_top1 (okL_take ol (m + 1)) (m := m) hl
  obtain ⟨y3, h3, e4⟩ := val_top2 (okL_drop ol (m + 1)) (m := 0) hl2
  obtain rfl : y3 = 0 := by rw [Nat.pow_zero] at h3; omega
  have e3 := val_split l (s := m + 1) (by omega)
  have eg : (l.take (m + 1)).getD m 0 = l.getD m 0 := by
    simp [List.getD_eq_getElem?_getD, List.getElem?_take_of_lt (show m < m + 1 by omega)]
  have eg1 : (l.drop (m + 1)).getD (0 + 1) 0 = l.getD (m + 2) 0 := by
    simp [List.getD_eq_getElem?_getD, List.getElem?_drop]
  have eg2 : (l.drop (m + 1)).getD 0 0 = l.getD (m + 1) 0 := by
    simp [List.getD_eq_getElem?_getD, List.getElem?_drop]
  rw [eg1, eg2, Nat.pow_zero, Nat.mul_one, Nat.add_zero] at e4
  rw [eg] at e2
  refine ⟨y2, h2, ?_⟩
  have ep : (1000000000 : Nat) ^ (m + 1) = 1000000000 ^ m * 1000000000 := Nat.pow_succ ..
  rw [e3, e4, e2, ep]
  rw [Nat.add_zero (l.getD (m + 2) 0 * 1000000000 + l.getD (m + 1) 0)]
  exact top3_arith (l.getD (m + 2) 0 * 1000000000 + l.getD (m + 1) 0) (l.getD m 0) (1000000000 ^ m) y2 1000000000

theorem window_getD (L : List Nat) {s k j : Nat} (h : j < k) : ((L.drop s).take k).getD j 0 = L.getD (s + j) 0 := by
  simp [List.getD_eq_getElem?_getD, List.getElem?_take_of_lt h, List.getElem?_drop]

theorem scaled_take {v : List Nat} {d : Nat} (h : val v * d < 1000000000 ^ v.length) : val ((scaledL v d).take v.length) = val v * d := by
  have e := val_split (scaledL v d) (s := v.length) (by rw [scaledL_length]; omega)
  rw [scaledL_val] at e
  rcases Nat.eq_zero_or_pos (val ((scaledL v d).drop v.length)) with h0 | h0
  · rw [h0, Nat.mul_zero] at e; omega
  · have : 1000000000 ^ v.length * 1 ≤ 1000000000 ^ v.length * val ((scaledL v d).drop v.length) := Nat.mul_le_mul_left _ h0
    omega
theorem top_pos {l : List Nat} {m : Nat} (ol : okL l) (h : l.length = m + 1) (hv : 1000000000 ^ m ≤ val l) : 0 < l.getD m 0 := by
  obtain ⟨y, h1, e⟩ := val_top1 ol h
  rcases Nat.eq_zero_or_pos (l.getD m 0) with h0 | h0
  · rw [h0, Nat.zero_mul] at e; omega
  · exact h0

theorem round_first {A s n : Nat} {b L Q : List Nat} (h : DivI A b (s + 1) L Q) (ob : okL b) (hn : b.length = n + 2) (hL : s + (n + 3) ≤ L.length) (ht : 0 < b.getD (n + 1) 0) :
    Guess (val (L.drop s)) (val b) (L.getD (s + (n + 2)) 0 * 1000000000 + L.getD (s + (n + 1)) 0) (b.getD (n + 1) 0)
      (min ((L.getD (s + (n + 2)) 0 * 1000000000 + L.getD (s + (n + 1)) 0) / b.getD (n + 1) 0) 999999999) := by
  obtain ⟨w1, w2, w3⟩ := h.window ob (by rw [hn]; exact hL)
  obtain ⟨x, hx, ex⟩ := val_top2 (okL_take (okL_drop h.okl s) (b.length + 1)) (m := n + 1) (by rw [List.length_take, List.length_drop]; omega)
  obtain ⟨y, hy, ey⟩ := val_top1 ob (m := n + 1) hn
  rw [w1, window_getD L (show n + 1 + 1 < b.length + 1 by omega), window_getD L (show n + 1 < b.length + 1 by omega)] at ex
  exact Guess.first ex hx ey hy ht (getD_lt ob _) (Nat.pow_pos (by omega)) w2
theorem round_lower {A s n g : Nat} {b L Q : List Nat} (h : DivI A b (s + 1) L Q) (ob : okL b) (hn : b.length = n + 2) (hL : s + (n + 3) ≤ L.length)
    (hg : Guess (val (L.drop s)) (val b) (L.getD (s + (n + 2)) 0 * 1000000000 + L.getD (s + (n + 1)) 0) (b.getD (n + 1) 0) g)
    (h1 : (L.getD (s + (n + 2)) 0 * 1000000000 + L.getD (s + (n + 1)) 0 - g * b.getD (n + 1) 0) * 1000000000 + L.getD (s + n) 0 < g * b.getD n 0) (h2 : L.getD (s + (n + 2)) 0 * 1000000000 + L.getD (s + (n + 1)) 0 - g * b.getD (n + 1) 0 < 1000000000) :
    0 < g ∧ Guess (val (L.drop s)) (val b) (L.getD (s + (n + 2)) 0 * 1000000000 + L.getD (s + (n + 1)) 0) (b.getD (n + 1) 0) (g - 1) := by
  obtain ⟨w1, w2, w3⟩ := h.window ob (by rw [hn]; exact hL)
  obtain ⟨x, hx, ex⟩ := val_top3 (okL_take (okL_drop h.okl s) (b.length + 1)) (m := n) (by rw [List.length_take, List.length_drop]; omega)
  obtain ⟨y, hy, ey⟩ := val_top2 ob (m := n) hn
  rw [w1, window_getD L (show n + 2 < b.length + 1 by omega), window_getD L (show n + 1 < b.length + 1 by omega), window_getD L (show n < b.length + 1 by omega)] at ex
  exact hg.lower ex hx ey (by omega) (getD_lt ob _) h1 h2
theorem round_stays {A s n g : Nat} {b L Q : List Nat} (h : DivI A b (s + 1) L Q) (ob : okL b) (hn : b.length = n + 2) (hL : s + (n + 3) ≤ L.length) (ht : 0 < b.getD (n + 1) 0)
    (hg : Guess (val (L.drop s)) (val b) (L.getD (s + (n + 2)) 0 * 1000000000 + L.getD (s + (n + 1)) 0) (b.getD (n + 1) 0) g)
    (h1 : ¬ ((L.getD (s + (n + 2)) 0 * 1000000000 + L.getD (s + (n + 1)) 0 - g * b.getD (n + 1) 0) * 1000000000 + L.getD (s + n) 0 < g * b.getD n 0 ∧ L.getD (s + (n + 2)) 0 * 1000000000 + L.getD (s + (n + 1)) 0 - g * b.getD (n + 1) 0 < 1000000000)) :
    g ≤ val (L.drop s) / val b + 1 := by
  obtain ⟨w1, w2, w3⟩ := h.window ob (by rw [hn]; exact hL)
  obtain ⟨x, hx, ex⟩ := val_top3 (okL_take (okL_drop h.okl s) (b.length + 1)) (m := n) (by rw [List.length_take, List.length_drop]; omega)
  obtain ⟨y, hy, ey⟩ := val_top2 ob (m := n) hn
  rw [w1, window_getD L (show n + 2 < b.length + 1 by omega), window_getD L (show n + 1 < b.length + 1 by omega), window_getD L (show n < b.length + 1 by omega)] at ex
  exact hg.stays ex ey hy ht (getD_lt ob _) h1

def limbsOf : Nat → Nat → List Nat
  | 0, _ => []
  | k + 1, n => n % 1000000000 :: limbsOf k (n / 1000000000)
theorem limbsOf_length : ∀ k n, (limbsOf k n).length = k
  | 0, _ => rfl
  | k + 1, n => by rw [limbsOf, List.length_cons, limbsOf_length k]
theorem limbsOf_ok : ∀ k n, okL (limbsOf k n)
  | 0, _ => okL_nil
  | k + 1, n => fun x hx => by
    rcases List.mem_cons.1 hx with rfl | hx
    · exact Nat.mod_lt _ (by omega)
    · exact limbsOf_ok k _ x hx
theorem limbsOf_eq : ∀ (l : List Nat), okL l → l = limbsOf l.length (val l)
  | [], _ => rfl
  | x :: l, h => by
    have hx := h x List.mem_cons_self
    have ih := limbsOf_eq l fun y hy => h y (List.mem_cons_of_mem _ hy)
    rw [List.length_cons, limbsOf, val, show (x + 1000000000 * val l) % 1000000000 = x by omega, show (x + 1000000000 * val l) / 1000000000 = val l by omega, ← ih]
theorem limbsOf_val : ∀ k n, n < 1000000000 ^ k → val (limbsOf k n) = n
  | 0, n, h => by rw [Nat.pow_zero] at h; rw [limbsOf, val]; omega
  | k + 1, n, h => by
    rw [limbsOf, val, limbsOf_val k _ (by rw [Nat.pow_succ] at h; exact Nat.div_lt_of_lt_mul (by rw [Nat.mul_comm]; exact h))]
    omega
end
end Go.Abs

namespace Go.Abs
noncomputable section
variable [Gl] {P : Program}

omit [Gl] in
theorem ren_limbs (σ : Nat → Nat) (m : Nat) (l : List Nat) (g fz : Bool) : BRen σ m (some (.rows (limbsV l) g fz)) (some (.rows (limbsV l) g fz)) :=
  .rows _ _ g fz rfl (fun i hi hj => rfl) fun i hi hj j h1 h2 => by
    refine .pure _ ?_
    simp [limbsV] at h1 ⊢
    exact .int _ _

theorem call_new {f : FuncId} {args : List AV} {h : Heap} {l : List Nat} {n : Nat} {c : Option Nat} {K : AV → Heap → Prop} (hfz : ∀ (b : Nat) (rs : List (List AV)) (g fz : Bool), h.blk? b = some (.rows rs g fz) → fz = false)
    (ha : ∀ x ∈ args, Pure x) (hc : CallSem P f args ⟨[], []⟩ fun r h' => r = .ms 0 0 n c ∧ h' = ⟨[some (.rows (limbsV l) false false)], []⟩)
    (hk : K (.ms h.blks.length 0 n c) (h.push (.rows (limbsV l) false false))) : CallSem P f args h K := by
  refine call_embed (σ := fun b => h.blks.length + b) (n1 := 0) (h1 := ⟨[], []⟩) ⟨⟨fun b hb => absurd hb (Nat.not_lt_zero _), fun b _ => by simp, fun b c h => by simpa using h⟩, rfl, rfl, ⟨fun b x hb => ?_, fun b x hb => ?_⟩, fun b hb => absurd hb (Nat.not_lt_zero _), fun b rs g fz _ hb => hfz b rs g fz hb⟩ rfl
    (fun i hi hj => .pure _ (ha _ (List.getElem_mem _))) (fun x hx => (ha x hx).lt _ _) hc ?_
  · simp [Heap.blk?] at hb
  · simp [Heap.loop?] at hb
  · rintro r1 h1' ⟨rfl, rfl⟩ _
    refine ⟨_, _, .ms 0 0 n c, ⟨?_, ?_, ?_, ?_, ?_, ?_⟩, hk⟩
    · simp [Heap.push]
    · intro b hb
      obtain rfl : b = 0 := by simp at hb; omega
      have e : (h.push (.rows (limbsV l) false false)).blk? (h.blks.length + 0) = some (.rows (limbsV l) false false) := by simp [Heap.push, Heap.blk?]
      show BRen _ _ (some (.rows (limbsV l) false false)) ((h.push (.rows (limbsV l) false false)).blk? (h.blks.length + 0))
      rw [e]
      exact ren_limbs _ _ _ _ _
    · intro b hb _
      simp [Heap.push, Heap.blk?, List.getElem?_append_left hb]
    · exact Nat.le_refl _
    · intro l' _; rfl
    · intro l' hl'
      show (h.loops[l']?).join = none
      rw [List.getElem?_eq_none hl']; rfl

theorem call_put {f : FuncId} {rest : List AV} {h : Heap} {L L' : List Nat} {B s len : Nat} {c : Option Nat} {R : AV} {K : AV → Heap → Prop} (hb : h.blk? B = some (.rows (limbsV L) false false)) (hB : B < h.blks.length)
    (hfz : ∀ (b : Nat) (rs : List (List AV)) (g fz : Bool), h.blk? b = some (.rows rs g fz) → fz = false) (ha : ∀ x ∈ rest, Pure x)
    (hc : CallSem P f (.ms 0 s len c :: rest) ⟨[some (.rows (limbsV L) false false)], []⟩ fun r h' => r = R ∧ h' = ⟨[some (.rows (limbsV L') false false)], []⟩) (hR : Pure R)
    (hk : K R (h.put B (.rows (limbsV L') false false))) : CallSem P f (.ms B s len c :: rest) h K := by
  refine call_embed (args1 := .ms 0 s len c :: rest) (σ := fun b => if b = 0 then B else h.blks.length + (b - 1)) (n1 := 1) (h1 := ⟨[some (.rows (limbsV L) false false)], []⟩) ⟨⟨fun b hb => ?_, fun b hb => ?_, fun b c h => ?_⟩, rfl, rfl, ⟨fun b x hb => ?_, fun b x hb => ?_⟩, fun b hb' => ?_, fun b rs g fz _ hb => hfz b rs g fz hb⟩ rfl
    (fun i hi hj => ?_) (fun x hx => ?_) hc ?_
  · rw [if_pos (by omega)]; exact hB
  · rw [if_neg (by omega)]
  · split at h <;> split at h <;> omega
  · cases b with
    | zero =>
      obtain rfl : Blk.rows (limbsV L) false false = x := by simpa [Heap.blk?] using hb
      intro r hr y hy
      have : Pure y := by
        simp only [limbsV, List.mem_map] at hr
        obtain ⟨z, _, rfl⟩ := hr
        simp at hy
        rw [hy]; exact .int _ _
      exact this.lt _ _
    | succ b => simp [Heap.blk?] at hb
  · simp [Heap.loop?] at hb
  · obtain rfl : b = 0 := by omega
    show BRen _ _ (some (.rows (limbsV L) false false)) (h.blk? B)
    rw [hb]
    exact ren_limbs _ _ _ _ _
  · cases i with
    | zero => exact .ms 0 s len c
    | succ i => exact .pure _ (ha _ (List.getElem_mem _))
  · rcases List.mem_cons.1 hx with rfl | hx
    · exact .ms _ _ _ _ (by omega)
    · exact (ha x hx).lt _ _
  · rintro r1 h1' ⟨rfl, rfl⟩ _
    refine ⟨_, _, .pure _ hR, ⟨?_, ?_, ?_, ?_, ?_, ?_⟩, hk⟩
    · simp [Heap.put]
    · intro b hb'
      obtain rfl : b = 0 := by simp at hb'; omega
      have e : (h.put B (.rows (limbsV L') false false)).blk? B = some (.rows (limbsV L') false false) := by simp [Heap.put, Heap.blk?, hB]
      show BRen _ _ (some (.rows (limbsV L') false false)) ((h.put B (.rows (limbsV L') false false)).blk? B)
      rw [e]
      exact ren_limbs _ _ _ _ _
    · intro b hb' hne
      have : B ≠ b := hne 0 (by omega)
      simp [Heap.put, Heap.blk?, List.getElem?_set_ne this]
    · exact Nat.le_refl _
    · intro l' _; rfl
    · intro l' hl'
      show (h.loops[l']?).join = none
      rw [List.getElem?_eq_none hl']; rfl

omit [Gl] in
theorem limbs_lt {n m : Nat} (L : List Nat) (g fz : Bool) : (Blk.rows (limbsV L) g fz).Lt n m := fun r hr y hy => by
  have : Pure y := by
    simp only [limbsV, List.mem_map] at hr
    obtain ⟨z, _, rfl⟩ := hr
    simp at hy
    rw [hy]; exact .int _ _
  exact this.lt _ _

theorem call_put2 {f : FuncId} {rest : List AV} {h : Heap} {L L' O : List Nat} {B D s len len2 : Nat} {c c2 : Option Nat} {R : AV} {K : AV → Heap → Prop} (hb : h.blk? B = some (.rows (limbsV L) false false)) (hB : B < h.blks.length)
    (hd : h.blk? D = some (.rows (limbsV O) false false)) (hD : D < h.blks.length) (hne : B ≠ D)
    (hfz : ∀ (b : Nat) (rs : List (List AV)) (g fz : Bool), h.blk? b = some (.rows rs g fz) → fz = false) (ha : ∀ x ∈ rest, Pure x)
    (hc : CallSem P f (.ms 0 s len c :: .ms 1 0 len2 c2 :: rest) ⟨[some (.rows (limbsV L) false false), some (.rows (limbsV O) false false)], []⟩ fun r h' => r = R ∧ h' = ⟨[some (.rows (limbsV L') false false), some (.rows (limbsV O) false false)], []⟩) (hR : Pure R)
    (hk : K R (h.put B (.rows (limbsV L') false false))) : CallSem P f (.ms B s len c :: .ms D 0 len2 c2 :: rest) h K := by
  refine call_embed (args1 := .ms 0 s len c :: .ms 1 0 len2 c2 :: rest) (σ := fun b => if b = 0 then B else if b = 1 then D else h.blks.length + (b - 2)) (n1 := 2) (h1 := ⟨[some (.rows (limbsV L) false false), some (.rows (limbsV O) false false)], []⟩)
    ⟨⟨fun b hb => ?_, fun b hb => ?_, fun b c h => ?_⟩, rfl, rfl, ⟨fun b x hb => ?_, fun b x hb => ?_⟩, fun b hb' => ?_, fun b rs g fz _ hb => hfz b rs g fz hb⟩ rfl
    (fun i hi hj => ?_) (fun x hx => ?_) hc ?_
  · rcases (show b = 0 ∨ b = 1 by omega) with rfl | rfl
    · exact hB
    · exact hD
  · rw [if_neg (by omega), if_neg (by omega)]
  · split at h <;> split at h <;> (try split at h) <;> (try split at h) <;> omega
  · match b, hb with
    | 0, hb =>
      obtain rfl : Blk.rows (limbsV L) false false = x := by simpa [Heap.blk?] using hb
      exact limbs_lt _ _ _
    | 1, hb =>
      obtain rfl : Blk.rows (limbsV O) false false = x := by simpa [Heap.blk?] using hb
      exact limbs_lt _ _ _
    | b + 2, hb => simp [Heap.blk?] at hb
  · simp [Heap.loop?] at hb
  · rcases (show b = 0 ∨ b = 1 by omega) with rfl | rfl
    · show BRen _ _ (some (.rows (limbsV L) false false)) (h.blk? B)
      rw [hb]
      exact ren_limbs _ _ _ _ _
    · show BRen _ _ (some (.rows (limbsV O) false false)) (h.blk? D)
      rw [hd]
      exact ren_limbs _ _ _ _ _
  · match i, hi with
    | 0, _ => exact .ms 0 s len c
    | 1, _ => exact .ms 1 0 len2 c2
    | i + 2, _ => exact .pure _ (ha _ (List.getElem_mem _))
  · rcases List.mem_cons.1 hx with rfl | hx
    · exact .ms _ _ _ _ (by omega)
    · rcases List.mem_cons.1 hx with rfl | hx
      · exact .ms _ _ _ _ (by omega)
      · exact (ha x hx).lt _ _
  · rintro r1 h1' ⟨rfl, rfl⟩ _
    refine ⟨_, _, .pure _ hR, ⟨?_, ?_, ?_, ?_, ?_, ?_⟩, hk⟩
    · simp [Heap.put]
    · intro b hb'
      rcases (show b = 0 ∨ b = 1 by simp at hb'; omega) with rfl | rfl
      · have e : (h.put B (.rows (limbsV L') false false)).blk? B = some (.rows (limbsV L') false false) := by simp [Heap.put, Heap.blk?, hB]
        show BRen _ _ (some (.rows (limbsV L') false false)) ((h.put B (.rows (limbsV L') false false)).blk? B)
        rw [e]
        exact ren_limbs _ _ _ _ _
      · have e : (h.put B (.rows (limbsV L') false false)).blk? D = h.blk? D := by simp [Heap.put, Heap.blk?, List.getElem?_set_ne hne]
        show BRen _ _ (some (.rows (limbsV O) false false)) ((h.put B (.rows (limbsV L') false false)).blk? D)
        rw [e, hd]
        exact ren_limbs _ _ _ _ _
    · intro b hb' hne'
      have : B ≠ b := hne' 0 (by omega)
      simp [Heap.put, Heap.blk?, List.getElem?_set_ne this]
    · exact Nat.le_refl _
    · intro l' _; rfl
    · intro l' hl'
      show (h.loops[l']?).join = none
      rw [List.getElem?_eq_none hl']; rfl
end
end Go.Abs

namespace Go.Abs
noncomputable section
variable [Gl]

section perm
variable {P : Program} {T : Tab} {n m : Nat} {rnd : Option Nat} {ops : Array Oper} {Q : AExit → St → Prop}

def KeepX (ops : Array Oper) (X : List (Nat × Nat)) : Nat → Nat → Array Bool → Prop
  | 0, _, _ => True
  | fuel + 1, t, listed => match (Region.ready .any ops listed)[t % (Region.ready .any ops listed).length]? with
    | none => True
    | some i => (∀ p ∈ X, p.2 = i → on listed p.1 = true) ∧ KeepX ops X fuel (t / (Region.ready .any ops listed).length) (listed.setIfInBounds i true)

omit [Gl] in
theorem on_mono {listed : Array Bool} {i j : Nat} (h : on listed j = true) : on (listed.setIfInBounds i true) j = true := by
  by_cases hi : i < listed.size
  · rw [on_set hi]; split
    · rfl
    · exact h
  · rw [Array.setIfInBounds, dif_neg hi]; exact h
omit [Gl] in
theorem keep_on {a b : Nat} : ∀ (fuel t : Nat) (listed : Array Bool), on listed a = true → KeepX ops [(a, b)] fuel t listed
  | 0, _, _, _ => True.intro
  | fuel + 1, t, listed, h => by
    unfold KeepX
    split
    · trivial
    · exact ⟨fun p hp _ => by simp at hp; subst hp; exact h, keep_on fuel _ _ (on_mono h)⟩
omit [Gl] in
theorem ready_size {i : Nat} {listed : Array Bool} (hi : i ∈ Region.ready .any ops listed) : i < listed.size := by
  have h := (mem_ready.1 hi).1
  rcases Nat.lt_or_ge i listed.size with h1 | h1
  · exact h1
  · simp [Array.getD, Nat.not_lt.2 h1] at h
omit [Gl] in
theorem keep_split {a b : Nat} (hab : a ≠ b) : ∀ (fuel t : Nat) (listed : Array Bool), KeepX ops [(a, b)] fuel t listed ∨ KeepX ops [(b, a)] fuel t listed
  | 0, _, _ => .inl True.intro
  | fuel + 1, t, listed => by
    unfold KeepX
    split
    · exact .inl True.intro
    · rename_i i hi
      have hs := ready_size (List.mem_of_getElem? hi)
      by_cases ha : i = a
      · refine .inl ⟨fun p hp h => ?_, keep_on fuel _ _ (by rw [on_set hs, if_pos ha.symm])⟩
        simp at hp; subst hp
        exact absurd (h.trans ha).symm hab
      · by_cases hb : i = b
        · refine .inr ⟨fun p hp h => ?_, keep_on fuel _ _ (by rw [on_set hs, if_pos hb.symm])⟩
          simp at hp; subst hp
          exact absurd (h.trans hb) hab
        · rcases keep_split hab fuel (t / (Region.ready .any ops listed).length) (listed.setIfInBounds i true) with h | h
          · refine .inl ⟨fun p hp h => ?_, h⟩
            simp at hp; subst hp
            exact absurd h.symm hb
          · refine .inr ⟨fun p hp h => ?_, h⟩
            simp at hp; subst hp
            exact absurd h.symm ha

theorem orders_keep (hT : TabOK P T) (X : List (Nat × Nat)) (Inv : Array Bool → St → Prop)
    (hstep : ∀ listed st i, Inv listed st → i ∈ Region.ready .any ops listed → (∀ p ∈ X, p.2 = i → on listed p.1 = true) → ∃ o, ops[i]? = some o ∧ i < listed.size ∧ listed[i]? = some false ∧
      ((guardA ops st.tmps o = some false ∧ Inv (listed.setIfInBounds i true) { tmps := aput st.tmps o.dst (.tup []), h := st.h }) ∨
       (guardA ops st.tmps o = some true ∧ opW P T st o fun r h' => Inv (listed.setIfInBounds i true) { tmps := aput st.tmps o.dst r, h := h' })))
    (hend : ∀ listed st, Inv listed st → Region.ready .any ops listed = [] → Q .normal st)
    (hzero : ∀ listed st, Inv listed st → left listed = 0 → Region.ready .any ops listed = []) :
    ∀ (fuel t : Nat) (listed : Array Bool) (st : St), Inv listed st → left listed = fuel → KeepX ops X fuel t listed → TodoSem P n m rnd [.inRegion ops (Region.linearise.go .any ops fuel t listed [])] st Q := by
  intro fuel
  induction fuel with
  | zero =>
    intro t listed st hi hl _
    simp only [Region.linearise.go, List.reverse_nil]
    exact todo_region_end (hend listed st hi (hzero listed st hi hl))
  | succ fuel ih =>
    intro t listed st hi hl hk
    unfold KeepX at hk
    simp only [Region.linearise.go]
    change TodoSem P n m rnd [.inRegion ops (match (Region.ready .any ops listed)[t % (Region.ready .any ops listed).length]? with
      | some i => Region.linearise.go .any ops fuel (t / (Region.ready .any ops listed).length) (listed.setIfInBounds i true) [i]
      | none => [].reverse)] st Q
    cases hr : (Region.ready .any ops listed)[t % (Region.ready .any ops listed).length]? with
    | none =>
      have hnil : Region.ready .any ops listed = [] := by
        cases hr' : Region.ready .any ops listed with
        | nil => rfl
        | cons x xs =>
          rw [hr'] at hr
          have hlt : t % (x :: xs).length < (x :: xs).length := Nat.mod_lt _ (by simp)
          rw [List.getElem?_eq_getElem hlt] at hr
          cases hr
      exact todo_region_end (hend listed st hi hnil)
    | some i =>
      simp only []
      rw [hr] at hk
      simp only [] at hk
      rw [linearise_go_acc, List.reverse_singleton, List.singleton_append]
      obtain ⟨o, ho, hlt, hf, hcase⟩ := hstep listed st i hi (List.mem_of_getElem? hr) hk.1
      have hset : left (listed.setIfInBounds i true) = fuel := by
        have := left_set hlt (by rw [Array.getElem?_eq_getElem hlt] at hf; injection hf)
        omega
      rcases hcase with ⟨hg, hinv⟩ | ⟨hg, hop⟩
      · exact todo_op_skip ho hg (ih _ _ _ hinv hset hk.2)
      · refine todo_op ho hg (opW_noDefer hop) fun hh => (opW_sound hT hop hh).mono fun r h' hinv => ih _ _ _ hinv hset hk.2

def ordOps (ops : Array Oper) (π : Nat → Nat) (p q : Nat) : Array Oper :=
  ((List.range ops.size).map fun j => match ops[π j]? with
    | some o => { o with after := (o.after.toList.map fun e => { e with on := π e.on }).toArray ++ (if j = q then #[{ on := p, ground := .data }] else #[]), guard := o.guard.map fun g => (π g.1, g.2) }
    | none => ⟨none, .move (.tmp 0), 0, "", #[], none⟩).toArray

omit [Gl] in
theorem ordOps_size (π : Nat → Nat) (p q : Nat) : (ordOps ops π p q).size = ops.size := by simp [ordOps]
omit [Gl] in
theorem ordOps_get {π : Nat → Nat} {p q : Nat} (inv : ∀ i, π (π i) = i) (hlt : ∀ i, i < ops.size → π i < ops.size) {i : Nat} {o : Oper} (h : ops[i]? = some o) :
    (ordOps ops π p q)[π i]? = some { o with after := (o.after.toList.map fun e => { e with on := π e.on }).toArray ++ (if π i = q then #[{ on := p, ground := .data }] else #[]), guard := o.guard.map fun g => (π g.1, g.2) } := by
  have hi : i < ops.size := (Array.getElem?_eq_some_iff.1 h).1
  have hp := hlt i hi
  unfold ordOps
  rw [List.getElem?_toArray, List.getElem?_map, List.getElem?_range hp]
  simp only [Option.map_some, inv, h]

def permL (π : Nat → Nat) (listed : Array Bool) : Array Bool := ((List.range listed.size).map fun j => on listed (π j)).toArray
omit [Gl] in
theorem permL_size (π : Nat → Nat) (listed : Array Bool) : (permL π listed).size = listed.size := by simp [permL]
omit [Gl] in
theorem permL_get {π : Nat → Nat} {listed : Array Bool} {j : Nat} (hj : j < listed.size) (d : Bool) : (permL π listed).getD j d = on listed (π j) := by
  have : (permL π listed)[j]? = some (on listed (π j)) := by
    unfold permL
    rw [List.getElem?_toArray, List.getElem?_map, List.getElem?_range hj]; rfl
  rw [Array.getD_eq_getD_getElem?, this]; rfl
omit [Gl] in
theorem permL_set {π : Nat → Nat} (inv : ∀ i, π (π i) = i) {listed : Array Bool} {i : Nat} (hi : i < listed.size) (hp : π i < listed.size) : permL π (listed.setIfInBounds i true) = (permL π listed).setIfInBounds (π i) true := by
  apply Array.ext
  · simp [permL]
  · intro j h1 h2
    have hj : j < listed.size := by simpa [permL] using h1
    have e1 : (permL π (listed.setIfInBounds i true))[j] = on (listed.setIfInBounds i true) (π j) := by
      simp [permL]
    rw [e1, on_set hi, Array.getElem_setIfInBounds]
    · have e2 : (permL π listed)[j]'(by rw [permL_size]; exact hj) = on listed (π j) := by simp [permL]
      by_cases h : π j = i
      · rw [if_pos h, if_pos (by rw [← h, inv])]
      · rw [if_neg h, if_neg (fun e => h (by rw [← e, inv])), e2]
    · rw [permL_size]; exact hj

theorem opW_after {o : Oper} {a : Array Edge} {g : Option (Nat × Bool)} {st : St} {K : AV → Heap → Prop} : opW P T st { o with after := a, guard := g } K → opW P T st o K := fun h => by
  cases o; exact h

theorem perm_sound {π : Nat → Nat} {p q : Nat} (inv : ∀ i, π (π i) = i) (hlt : ∀ i, i < ops.size → π i < ops.size) {A0 : List AV} {V : Nat → AV} {isW : Nat → Bool} {H : Nat → Heap}
    (pl : Plan P T (ordOps ops π p q) A0 V isW H) (hp : p < ops.size) (hT : TabOK P T) {t : Nat} (hk : KeepX ops [(π p, π q)] ops.size t (Array.replicate ops.size false)) (hq : Q .normal ⟨XT (ordOps ops π p q) V A0 (ordOps ops π p q).size, H (ordOps ops π p q).size⟩) :
    TodoSem P n m rnd [.inRegion ops (Region.linearise .any ops t)] ⟨A0, H 0⟩ Q := by
  have hlt' : ∀ i, π i < ops.size → i < ops.size := fun i h => by have := hlt _ h; rwa [inv] at this
  refine orders_keep hT [(π p, π q)] (fun listed st => Inv pl (permL π listed) st) ?_ ?_ ?_ ops.size t _ _ ?_ ?_ hk
  · intro listed st i hi hr hx
    have hs : listed.size = ops.size := by have := hi.size; rwa [permL_size, ordOps_size] at this
    obtain ⟨hun, o, ho, hall⟩ := mem_ready.1 hr
    have hio : i < ops.size := (Array.getElem?_eq_some_iff.1 ho).1
    have hpi := hlt i hio
    have hget := ordOps_get (p := p) (q := q) inv hlt ho
    have hr' : π i ∈ Region.ready .any (ordOps ops π p q) (permL π listed) := by
      refine mem_ready.2 ⟨?_, _, hget, ?_⟩
      · rw [permL_get (by omega), inv]
        have : i < listed.size := by omega
        simpa [on, Array.getD, this] using hun
      · intro e he hb
        simp only [Array.mem_append, List.mem_toArray, List.mem_map, Array.mem_toList_iff] at he
        rcases he with ⟨e', he', rfl⟩ | he
        · have h1 := hall e' he' hb
          have h2 : e'.on < listed.size := by
            rcases Nat.lt_or_ge e'.on listed.size with h | h
            · exact h
            · simp [Array.getD, Nat.not_lt.2 h] at h1
          show (permL π listed).getD (π e'.on) false = true
          rw [permL_get (by rw [hs]; exact hlt _ (by omega)), inv]
          exact h1
        · split at he
          · rename_i hpq
            simp at he
            subst he
            show (permL π listed).getD p false = true
            rw [permL_get (by omega)]
            exact hx (π p, π q) (by simp) (by show π q = i; rw [← hpq, inv])
          · simp at he
    obtain ⟨o', ho', hl', hf', hcase⟩ := inv_step pl (permL π listed) st (π i) hi hr'
    rw [hget] at ho'
    injection ho' with ho'
    have hls : i < listed.size := by omega
    refine ⟨o, ho, hls, by have : listed[i] = false := by simpa [Array.getD, hls] using hun
                           rw [Array.getElem?_eq_getElem hls, this], ?_⟩
    have hg : guardA (ordOps ops π p q) st.tmps o' = guardA ops st.tmps o := by
      rw [← ho']
      unfold guardA
      cases hgo : o.guard with
      | none => rfl
      | some gw =>
        obtain ⟨j, want⟩ := gw
        simp only [Option.map_some]
        have : ((ordOps ops π p q)[π j]?).bind (·.dst) = (ops[j]?).bind (·.dst) := by
          cases hoj : ops[j]? with
          | some oj => rw [ordOps_get inv hlt hoj]; rfl
          | none =>
            have : (ordOps ops π p q)[π j]? = none := by
              rw [Array.getElem?_eq_none_iff, ordOps_size]
              rw [Array.getElem?_eq_none_iff] at hoj
              rcases Nat.lt_or_ge (π j) ops.size with h | h
              · have := hlt' _ h; omega
              · exact h
            rw [this]
        rw [this]
    have hset : permL π (listed.setIfInBounds i true) = (permL π listed).setIfInBounds (π i) true := permL_set inv hls (by omega)
    have hd : o'.dst = o.dst := by rw [← ho']
    rcases hcase with ⟨h1, h2⟩ | ⟨h1, h2⟩
    · refine .inl ⟨hg ▸ h1, ?_⟩
      rw [hset, ← hd]; exact h2
    · refine .inr ⟨hg ▸ h1, ?_⟩
      rw [hset]
      rw [← ho'] at h2
      exact opW_after h2
  · intro listed st hi hr
    have hs : listed.size = ops.size := by have := hi.size; rwa [permL_size, ordOps_size] at this
    have hall0 : ∀ j, j < (ordOps ops π p q).size → on (permL π listed) j = true := by
      intro j
      induction j using Nat.strongRecOn with
      | ind j ih =>
        intro hj
        rw [ordOps_size] at hj
        cases hon : on (permL π listed) j with
        | true => rfl
        | false =>
          exfalso
          have hpj := hlt j hj
          have hun : on listed (π j) = false := by rw [← hon]; exact (permL_get (π := π) (listed := listed) (by omega) false).symm
          have hlp : π j < listed.size := by omega
          have hmem : π j ∈ Region.ready .any ops listed := by
            refine mem_ready.2 ⟨by simpa [on, Array.getD, hlp] using hun, ops[π j], Array.getElem?_eq_getElem hpj, fun e he hb => ?_⟩
            have hget := ordOps_get (p := p) (q := q) inv hlt (Array.getElem?_eq_getElem hpj)
            have hb' : Bef (ordOps ops π p q) (π e.on) j := by
              refine .edge _ { e with on := π e.on } j (by rw [inv] at hget; exact hget) ?_ hb
              simp only [Array.mem_append, List.mem_toArray, List.mem_map, Array.mem_toList_iff]
              exact .inl ⟨e, he, rfl⟩
            have hlt2 := pl.back _ _ hb'
            have := ih _ hlt2 (by rw [ordOps_size]; omega)
            have e2 : on (permL π listed) (π e.on) = on listed (π (π e.on)) := permL_get (π := π) (listed := listed) (by omega) false
            rw [e2, inv] at this
            exact this
          rw [hr] at hmem
          cases hmem
    obtain ⟨p', hp', h1, h2⟩ := hi.heap
    have e1 : st.tmps = XT (ordOps ops π p q) V A0 (ordOps ops π p q).size := by
      rw [hi.tmps]
      exact tmk_all _ _ hall0 _ (Nat.le_refl _)
    have e2 : st.h = H (ordOps ops π p q).size := by
      rw [h1]
      refine (pl.range (ordOps ops π p q).size hp' (Nat.le_refl _) fun w h3 h4 => ?_).symm
      cases hw : isW w with
      | false => rfl
      | true => have := (h2 w h4 hw).1 (hall0 w h4); omega
    obtain ⟨tm, hs'⟩ := st
    simp only at e1 e2
    rw [e1, e2]; exact hq
  · intro listed st hi hl
    cases hr : Region.ready .any ops listed with
    | nil => rfl
    | cons i r =>
      exfalso
      have hi' : i ∈ Region.ready .any ops listed := by rw [hr]; exact List.mem_cons_self
      obtain ⟨hun, o, ho, _⟩ := mem_ready.1 hi'
      have hlt : i < listed.size := ready_size hi'
      have hff : listed[i] = false := by simpa [Array.getD, hlt] using hun
      have := left_set hlt hff
      omega
  · have hoff : ∀ j, on (permL π (Array.replicate ops.size false)) j = false := fun j => by
      by_cases hj : j < ops.size
      · have e := permL_get (π := π) (listed := Array.replicate ops.size false) (j := j) (by simpa using hj) false
        show (permL π (Array.replicate ops.size false)).getD j false = false
        rw [e]
        simp [on, Array.getD]
      · simp [on, Array.getD, permL_size, hj]
    refine ⟨by simp [permL_size, ordOps_size], fun i hi => ?_, ?_, 0, Nat.zero_le _, rfl, fun w hw _ => ?_⟩
    · rw [hoff] at hi; cases hi
    · show A0 = _
      rw [tmk_stop _ 0 (fun j _ => hoff j) (ordOps ops π p q).size (Nat.zero_le _)]
      rfl
    · rw [hoff]; simp
  · simp [left, Array.toList_replicate]
theorem plan_zero {t : Nat} {ops : Array Oper} {A0 : List AV} {H : Nat → Heap} {h : Heap} (h0 : H 0 = h) (g : TodoSem P n m rnd [.inRegion ops (Region.linearise .any ops t)] ⟨A0, H 0⟩ Q) : TodoSem P n m rnd [.inRegion ops (Region.linearise .any ops t)] ⟨A0, h⟩ Q := h0 ▸ g

def swapN (a b i : Nat) : Nat := if i = a then b else if i = b then a else i
omit [Gl] in
theorem swapN_inv (a b i : Nat) : swapN a b (swapN a b i) = i := by
  unfold swapN
  by_cases h1 : i = a
  · rw [if_pos h1]
    by_cases h2 : b = a
    · rw [if_pos h2, h1, h2]
    · rw [if_neg h2, if_pos rfl, h1]
  · rw [if_neg h1]
    by_cases h2 : i = b
    · rw [if_pos h2, if_pos rfl, h2]
    · rw [if_neg h2, if_neg h1, if_neg h2]

variable [Bare] [FH]
theorem region_two (hT : TabOK P T) (hm : P.follows .mixedOrders = true) {id : Nat} (a b : Nat) (hab : a < b) (hb : b < ops.size) {A0 : List AV} {h : Heap}
    (dA : drawB (ordOps ops (fun i => i) a b) = true) (dB : drawB (ordOps ops (swapN a b) a b) = true)
    (hA : opsD P T (ordOps ops (fun i => i) a b) Q (ordOps ops (fun i => i) a b).toList 0 [] [] ⟨A0, h⟩) (hB : opsD P T (ordOps ops (swapN a b) a b) Q (ordOps ops (swapN a b) a b).toList 0 [] [] ⟨A0, h⟩) :
    TodoSem P n m rnd [.code (.region id ops true)] ⟨A0, h⟩ Q := by
  refine t_region_draw hm fun t => ?_
  rcases keep_split (ops := ops) (a := a) (b := b) (by omega) ops.size t (Array.replicate ops.size false) with hk | hk
  · obtain ⟨V, isW, H, pl, h0, hq⟩ := opsD_plan dA hA
    exact plan_zero h0 (perm_sound (π := fun i => i) (fun _ => rfl) (fun _ h => h) pl (by omega) hT hk hq)
  · obtain ⟨V, isW, H, pl, h0, hq⟩ := opsD_plan dB hB
    have e1 : swapN a b a = b := by unfold swapN; rw [if_pos rfl]
    have e2 : swapN a b b = a := by unfold swapN; rw [if_neg (by omega), if_pos rfl]
    exact plan_zero h0 (perm_sound (π := swapN a b) (swapN_inv a b) (fun i hi => by unfold swapN; split; · exact hb
                                                                                    · split
                                                                                      · omega
                                                                                      · exact hi) pl (by omega) hT (by rw [e1, e2]; exact hk) hq)
end perm
end
end Go.Abs

namespace Go.Abs
noncomputable section
variable [Gl]

inductive RenF (σ : Nat → Nat) (N : Nat) : AV → AV → Prop where
  | same (x : AV) (M : Nat) (h : Lt N M x) : RenF σ N x x
  | agg (cs ds : List AV) (hl : cs.length = ds.length) (hh : ∀ (i : Nat) (hi : i < cs.length) (hj : i < ds.length), RenF σ N cs[i] ds[i]) : RenF σ N (.agg cs) (.agg ds)
  | tup (cs ds : List AV) (hl : cs.length = ds.length) (hh : ∀ (i : Nat) (hi : i < cs.length) (hj : i < ds.length), RenF σ N cs[i] ds[i]) : RenF σ N (.tup cs) (.tup ds)
  | ptr (b i j : Nat) : RenF σ N (.ptr b i j) (.ptr (σ b) i j)
  | ms (b i l : Nat) (c : Option Nat) : RenF σ N (.ms b i l c) (.ms (σ b) i l c)
  | mp (b : Nat) : RenF σ N (.mp b) (.mp (σ b))

def Env.turn (E : Env) (σ : Nat → Nat) : Env := { F := E.F, ρ := fun b => E.ρ (σ b), lam := E.lam }

structure PermN (σ τ : Nat → Nat) (N : Nat) : Prop where
  st : ∀ b, σ (τ b) = b
  ts : ∀ b, τ (σ b) = b
  fix : ∀ b, b < N → σ b = b

omit [Gl] in
theorem turn_keeps {σ τ : Nat → Nat} {N : Nat} (hp : PermN σ τ N) (E : Env) (w : World) (M : Nat) : Keeps N M E w (E.turn σ) w :=
  ⟨fun B o v h1 h2 => ⟨h1, h2⟩, fun b hb Ls' h => ⟨Ls', by rw [← h]; show E.ρ b = E.ρ (σ b); rw [hp.fix b hb], fun L hL => ⟨L, hL, rfl, rfl, rfl, rfl, Nat.le_refl _⟩⟩, fun l _ o h => h⟩

omit [Gl] in
theorem RenF.VR {σ τ : Nat → Nat} {N : Nat} (hp : PermN σ τ N) {E : Env} {w : World} {x y : AV} (h : RenF σ N x y) : ∀ v, Abs.VR E w y v → Abs.VR (E.turn σ) w x v := by
  induction h with
  | same x M h => exact fun v hv => hv.keep (turn_keeps hp E w M) h
  | agg cs ds hl hh ih => intro v hv; cases hv with | agg _ vs hs hv => exact .agg _ vs (by omega) fun i hi hj => ih i hi (by omega) _ (hv i (by omega) hj)
  | tup cs ds hl hh ih => intro v hv; cases hv with | tup _ vs hs hv => exact .tup _ vs (by omega) fun i hi hj => ih i hi (by omega) _ (hv i (by omega) hj)
  | ptr b i j => intro v hv; cases hv with | ptr _ _ _ a hv => exact .ptr _ _ _ a hv
  | ms b i l c => intro v hv; cases hv with | ms _ _ _ _ a l c hv => exact .ms _ _ _ _ a l c hv
  | mp b => intro v hv; cases hv with | mp _ r hv => exact .mp _ r hv

omit [Gl] in
theorem RenF.lt {σ : Nat → Nat} {N L M : Nat} (hσ : ∀ b, σ b < L → b < L) {x y : AV} (h : RenF σ N x y) : Lt L M y → Lt L M x := by
  induction h with
  | same x M' h => exact fun h => h
  | agg cs ds hl hh ih => intro hx; cases hx with | agg _ hx => exact .agg _ fun i hi => ih i hi (by omega) (hx i (by omega))
  | tup cs ds hl hh ih => intro hx; cases hx with | tup _ hx => exact .tup _ fun i hi => ih i hi (by omega) (hx i (by omega))
  | ptr b i j => intro hx; cases hx with | ptr _ _ _ hx => exact .ptr _ _ _ (hσ b hx)
  | ms b i l c => intro hx; cases hx with | ms _ _ _ _ hx => exact .ms _ _ _ _ (hσ b hx)
  | mp b => intro hx; cases hx with | mp _ hx => exact .mp _ (hσ b hx)

inductive BRenF (σ : Nat → Nat) (N : Nat) : Option Blk → Option Blk → Prop where
  | dead : BRenF σ N none none
  | same (x : Blk) (M : Nat) (h : x.Lt N M) : BRenF σ N (some x) (some x)
  | rows (rs rs' : List (List AV)) (g fz : Bool) (hl : rs.length = rs'.length) (hl' : ∀ (i : Nat) (hi : i < rs.length) (hj : i < rs'.length), rs[i].length = rs'[i].length)
      (hh : ∀ (i : Nat) (hi : i < rs.length) (hj : i < rs'.length) (j : Nat) (h1 : j < rs[i].length) (h2 : j < rs'[i].length), RenF σ N rs[i][j] rs'[i][j]) : BRenF σ N (some (.rows rs g fz)) (some (.rows rs' g fz))

structure RenSt (σ τ : Nat → Nat) (N : Nat) (s0 s : St) : Prop where
  perm : PermN σ τ N
  len : s0.h.blks.length = s.h.blks.length
  low : N ≤ s.h.blks.length
  into : ∀ b, σ b < s.h.blks.length → b < s.h.blks.length
  blks : ∀ b, BRenF σ N (s0.h.blk? b) (s.h.blk? (σ b))
  loops : s0.h.loops = s.h.loops
  ltl : ∀ l r, s.h.loop? l = some r → ∃ M, ∀ x ∈ r.tmps, Lt N M x
  tlen : s0.tmps.length = s.tmps.length
  tmps : ∀ (i : Nat) (hi : i < s0.tmps.length) (hj : i < s.tmps.length), RenF σ N s0.tmps[i] s.tmps[i]

omit [Gl] in
theorem turn_foot {σ τ : Nat → Nat} {N : Nat} (hp : PermN σ τ N) {E : Env} {B : Nat} : foot (E.turn σ) B ↔ foot E B := by
  constructor
  · rintro (⟨b, Ls, L, h1, h2, h3⟩ | ⟨l, h⟩)
    · exact .inl ⟨σ b, Ls, L, h1, h2, h3⟩
    · exact .inr ⟨l, h⟩
  · rintro (⟨b, Ls, L, h1, h2, h3⟩ | ⟨l, h⟩)
    · exact .inl ⟨τ b, Ls, L, by show E.ρ (σ (τ b)) = _; rw [hp.st]; exact h1, h2, h3⟩
    · exact .inr ⟨l, h⟩

theorem RowsAt.turn {σ τ : Nat → Nat} {N : Nat} (hp : PermN σ τ N) {E : Env} {w : World} {Ls : List Loc} {rs rs' : List (List AV)} {g fz : Bool}
    (hl : rs.length = rs'.length) (hl' : ∀ (i : Nat) (hi : i < rs.length) (hj : i < rs'.length), rs[i].length = rs'[i].length)
    (hh : ∀ (i : Nat) (hi : i < rs.length) (hj : i < rs'.length) (j : Nat) (h1 : j < rs[i].length) (h2 : j < rs'[i].length), RenF σ N rs[i][j] rs'[i][j])
    (h : RowsAt E w Ls rs' g fz) : RowsAt (E.turn σ) w Ls rs g fz := by
  refine ⟨h.one, ?_, fun L hL => ?_, h.apart⟩
  · obtain ⟨L, h1, h2⟩ := h.now; exact ⟨L, h1, by omega⟩
  · have la := h.all L hL
    obtain ⟨arr, el, a1, a2, a3⟩ := la.lies
    refine ⟨⟨arr, el, a1, a2, fun i hi hi' j hj => ?_⟩, by have := la.len; omega, la.fits, fun i hi => by rw [hl' i hi (by omega)]; exact la.sz i (by omega), la.own, la.free⟩
    obtain ⟨v, b1, b2, b3⟩ := a3 i (by omega) hi' j (by rw [← hl' i hi (by omega)]; exact hj)
    exact ⟨v, b1, (hh i hi (by omega) j hj _).VR hp v b2, b3⟩

theorem turn_StR {σ τ : Nat → Nat} {N : Nat} {s0 s : St} (hr : RenSt σ τ N s0 s) {E : Env} {w : World} {tmps : Array Value} (h : StR E w s tmps) : StR (E.turn σ) w s0 tmps := by
  have hp := hr.perm
  have hh := h.heap
  have hloop : ∀ l, s0.h.loop? l = s.h.loop? l := fun l => by unfold Heap.loop?; rw [hr.loops]
  have hll : s0.h.loops.length = s.h.loops.length := by rw [hr.loops]
  refine ⟨⟨fun b hb => ?_, fun b rs g fz hb => ?_, fun b es hb => ?_, fun b b' Ls Ls' L L' hne h2 h3 => ?_, fun l hl => ?_, fun l r hl => ?_, hh.lapart, ⟨fun b x hb => ?_, fun l r hl x hx => ?_⟩, hh.inside, ⟨fun g row hg => ?_⟩⟩, ⟨by rw [hr.tlen]; exact h.tmps.size, fun i hi hj => ?_⟩, fun x hx => ?_⟩
  · have hb' := hr.blks b
    rw [hb] at hb'
    generalize hx : s.h.blk? (σ b) = y at hb'
    cases hb'
    exact hh.dead _ hx
  · have hb' := hr.blks b
    rw [hb] at hb'
    generalize hx : s.h.blk? (σ b) = y at hb'
    cases hb' with
    | same _ M hlt =>
      obtain ⟨Ls, a1, a2⟩ := hh.rows _ _ _ _ hx
      exact ⟨Ls, a1, a2.turn hp rfl (fun _ _ _ => rfl) fun i hi hj j h1 h2 => .same _ M (hlt _ (List.getElem_mem _) _ (List.getElem_mem _))⟩
    | rows _ rs' _ _ e1 e2 e3 =>
      obtain ⟨Ls, a1, a2⟩ := hh.rows _ _ _ _ hx
      exact ⟨Ls, a1, a2.turn hp e1 e2 e3⟩
  · have hb' := hr.blks b
    rw [hb] at hb'
    generalize hx : s.h.blk? (σ b) = y at hb'
    cases hb' with
    | same _ M hlt =>
      obtain ⟨Ls, a1, ⟨L, ces, clock, c1, c2, c3, c4, c5⟩⟩ := hh.maps _ _ hx
      exact ⟨Ls, a1, ⟨L, ces, clock, c1, c2, c3, c4, fun i hi hj => ⟨(c5 i hi hj).1.keep (turn_keeps hp E w M) (hlt _ (List.getElem_mem hi)).1, (c5 i hi hj).2.keep (turn_keeps hp E w M) (hlt _ (List.getElem_mem hi)).2⟩⟩⟩
  · exact hh.apart (σ b) (σ b') Ls Ls' L L' (fun e => hne (by rw [← hp.ts b, ← hp.ts b', e])) h2 h3
  · rw [hloop] at hl; exact hh.deadl l hl
  · rw [hloop] at hl
    obtain ⟨o, q1, ⟨ct, df, fi, q2, q3⟩⟩ := hh.loops l r hl
    obtain ⟨M, hM⟩ := hr.ltl l r hl
    exact ⟨o, q1, ⟨ct, df, fi, q2, q3.size, fun i hi hj => (q3.val i hi hj).keep (turn_keeps hp E w M) (hM _ (List.getElem_mem hi))⟩⟩
  · have hb' := hr.blks b
    rw [hb] at hb'
    generalize hx2 : s.h.blk? (σ b) = y at hb'
    have hlt := hh.lt
    rw [hr.len, hll]
    cases hb' with
    | same _ M _ => exact hlt.blks _ _ hx2
    | rows rs rs' g fz e1 e2 e3 =>
      have h1 := hlt.blks _ _ hx2
      intro r hrm x hxm
      obtain ⟨i, hi, rfl⟩ := List.getElem_of_mem hrm
      obtain ⟨j, hj, rfl⟩ := List.getElem_of_mem hxm
      exact (e3 i hi (by omega) j hj (by rw [← e2 i hi (by omega)]; exact hj)).lt hr.into (h1 _ (List.getElem_mem _) _ (List.getElem_mem _))
  · rw [hloop] at hl
    rw [hr.len, hll]
    exact hh.lt.loops l r hl x hx
  · obtain ⟨x0, x1, x2, x3⟩ := hh.globs.ok g row hg
    exact ⟨x0, x1, fun hf => x2 ((turn_foot hp).1 hf), x3⟩
  · exact (hr.tmps i hi (by have := h.tmps.size; omega)).VR hp _ (h.tmps.val i (by have := hr.tlen; omega) hj)
  · rw [hr.len, hll]
    obtain ⟨i, hi, rfl⟩ := List.getElem_of_mem hx
    have hj : i < s.tmps.length := by have := hr.tlen; omega
    exact (hr.tmps i hi hj).lt hr.into (h.lt _ (List.getElem_mem hj))

theorem turn_ext {σ τ : Nat → Nat} {N n m : Nat} (hp : PermN σ τ N) (hn : n ≤ N) (E : Env) (w : World) : Ext n m E w (E.turn σ) w := by
  have k := turn_keeps hp E w m
  exact ⟨⟨k.cells, fun b hb => k.refs b (by omega), k.loops⟩, Nat.le_refl _, rfl, rfl, rfl, fun _ _ _ => rfl, fun B _ hF => .inl hF, fun B _ hf => (turn_foot hp).1 hf⟩

theorem todo_ren {P : Program} {n m : Nat} {rnd : Option Nat} {items : List Item} {st : St} {Q : AExit → St → Prop}
    (h : TodoSem P n m rnd items st (fun e s => ∃ σ τ N s0, st.h.blks.length ≤ N ∧ RenSt σ τ N s0 s ∧ Q e s0)) : TodoSem P n m rnd items st Q :=
  ⟨fun b E w tmps ds base h1 h2 hb h3 h4 h5 k cs => by
    obtain ⟨e, s, E', w', tmps', ds', ⟨σ, τ, N, s0, hN, hr, hq⟩, r1, r2, r3, r4, r5, r6⟩ := h.run b E w tmps ds base h1 h2 hb h3 h4 h5 k cs
    have x : Ext n m E' w' (E'.turn σ) w' := turn_ext hr.perm (by omega) E' w'
    refine ⟨e, s0, E'.turn σ, w', tmps', ds', hq, turn_StR hr r1, r2.ext x, Ext.trans (Nat.le_refl n) (Nat.le_refl m) r3 x, by rw [hr.len]; exact r4, by rw [hr.loops]; exact r5, r6⟩⟩
end
end Go.Abs
