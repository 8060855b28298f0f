/-
  Steps to a law of this program: SMd0, SMd1, SMd2, SMd3, SMd4, SMd5, SMd6, SMd7.
  Conditions: none.
-/
import Derived.Test.YtpdnijifmebnbaaGreatDoorB25
import Derived.Test.YtpdnijifmebnbaaGreatDoorB19
import Derived.Test.YtpdnijifmebnbaaGreatDoorB4
import Derived.Test.YtpdnijifmebnbaaGreatDoorB18
import Derived.Test.YtpdnijifmebnbaaGreatDoorB20
set_option linter.unusedVariables false
set_option linter.unusedSimpArgs false
set_option linter.unusedSectionVars false
namespace Go.Abs
noncomputable section
open Go.Proofs

theorem mixed : Tryz.prog.follows .mixedOrders = true := by decide +kernel

theorem pure_vp1 {x : AV} (h : Pure x) : Pure (.vp [x] 0) := .vp _ _ fun i hi => by
  have : i = 0 := by simpa using hi
  subst this; exact h
theorem pure_fn1 {f : Fn} {x : AV} (h : Pure x) : Pure (.fn f [] [x]) := .fn _ _ _ (fun i hi => by simp at hi) fun i hi => by
  have : i = 0 := by simpa using hi
  subst this; exact h

def nofz : List (Option Blk) → Bool
  | [] => true
  | some (.rows _ _ true) :: _ => false
  | _ :: l => nofz l
theorem nofz_ok : ∀ {l : List (Option Blk)} {lp : List (Option ALoop)}, nofz l = true → ∀ (b : Nat) (rs : List (List AV)) (g fz : Bool), (Heap.mk l lp).blk? b = some (.rows rs g fz) → fz = false
  | [], _, _, b, rs, g, fz, h => by simp [Heap.blk?] at h
  | x :: l, lp, hn, b, rs, g, fz, h => by
    cases b with
    | zero =>
      have e : x = some (.rows rs g fz) := by simpa [Heap.blk?] using h
      subst e
      cases fz with
      | true => cases hn
      | false => rfl
    | succ b =>
      have e : (Heap.mk l lp).blk? b = some (.rows rs g fz) := by simpa [Heap.blk?] using h
      refine nofz_ok (l := l) (lp := lp) ?_ b rs g fz e
      unfold nofz at hn
      split at hn
      · rename_i h; cases h
      · cases hn
      · rename_i h; cases h; exact hn
end
end Go.Abs

namespace Go.Abs
noncomputable section
open Go.Proofs

def modelT : List (TypeId × TI) := [
  (3, { desc := (.int .i64), size := 1, bytes := 8, zero := [.int .i64 0], cmp := true }),
  (36, { desc := (.struct #[{ name := "Owner", type := 33, offset := 0, embedded := false, tag := "", pkgPath := "", byteOffset := 0 }, { name := "Choices", type := 34, offset := 1, embedded := false, tag := "", pkgPath := "", byteOffset := 24 }]), size := 2, bytes := 48, zero := [.nils, .nils], cmp := true }),
  (43, { desc := (.int .i64), size := 1, bytes := 8, zero := [.int .i64 0], cmp := true }),
  (4, { desc := .bool, size := 1, bytes := 1, zero := [.bool false], cmp := true }),
  (62, { desc := (.slice 67), size := 1, bytes := 24, zero := [.nils], cmp := true }),
  (67, { desc := (.struct #[{ name := "To", type := 3, offset := 0, embedded := false, tag := "", pkgPath := "", byteOffset := 0 }, { name := "P", type := 25, offset := 1, embedded := false, tag := "", pkgPath := "", byteOffset := 8 }]), size := 2, bytes := 24, zero := [.int .i64 0, .str []], cmp := true }),
  (33, { desc := (.slice 3), size := 1, bytes := 24, zero := [.nils], cmp := true }),
  (34, { desc := (.slice 61), size := 1, bytes := 24, zero := [.nils], cmp := true }),
  (61, { desc := (.slice 64), size := 1, bytes := 24, zero := [.nils], cmp := true }),
  (64, { desc := (.struct #[{ name := "Act", type := 9, offset := 0, embedded := false, tag := "", pkgPath := "", byteOffset := 0 }, { name := "Gain", type := 25, offset := 1, embedded := false, tag := "", pkgPath := "", byteOffset := 16 }, { name := "Next", type := 62, offset := 2, embedded := false, tag := "", pkgPath := "", byteOffset := 32 }]), size := 3, bytes := 56, zero := [.str [], .str [], .nils], cmp := true }),
  (127, { desc := (.struct #[{ name := "Model", type := 36, offset := 0, embedded := true, tag := "", pkgPath := "", byteOffset := 0 }, { name := "p", type := 3, offset := 2, embedded := false, tag := "", pkgPath := "croupier/model", byteOffset := 48 }, { name := "gains", type := 3, offset := 3, embedded := false, tag := "", pkgPath := "croupier/model", byteOffset := 56 }]), size := 4, bytes := 64, zero := [.nils, .nils, .int .i64 0, .int .i64 0], cmp := true }),
  (129, { desc := (.array 5 128), size := 5, bytes := 40, zero := [.nilf, .nilf, .nilf, .nilf, .nilf], cmp := true }),
  (9, { desc := .string, size := 1, bytes := 16, zero := [.str []], cmp := true }),
  (145, { desc := (.slice 5), size := 1, bytes := 24, zero := [.nils], cmp := true }),
  (103, { desc := (.pointer 127), size := 1, bytes := 8, zero := [.nilp], cmp := true }),
  (25, { desc := .string, size := 1, bytes := 16, zero := [.str []], cmp := true }),
  (5, { desc := (.int .u8), size := 1, bytes := 1, zero := [.int .u8 0], cmp := true }),
  (128, { desc := (.func #[103] #[4] false), size := 1, bytes := 8, zero := [.nilf], cmp := true })]
theorem modelT_ok : TabOK Tryz.prog (tabL modelT) := tabL_ok modelT (by
  intro p hp
  simp only [modelT, List.mem_cons, List.not_mem_nil, or_false] at hp
  rcases hp with rfl | rfl | rfl | rfl | rfl | rfl | rfl | rfl | rfl | rfl | rfl | rfl | rfl | rfl | rfl | rfl | rfl | rfl <;> kernel_rfl)

theorem mgcd_pure (a b : Nat) : PureSem Tryz.prog 121 [.int .i64 ((a : Nat) : Int), .int .i64 ((b : Nat) : Int)] (.int .i64 ((Nat.gcd a b : Nat) : Int)) := by
  refine pure_of_call (pure2 (.int _ _) (.int _ _)) (.int _ _) (call_x modelT_ok mixed Tryz.func121 rfl (by decide +kernel) ?_)
  conv => whnf
  refine loop_p modelT_ok mixed 12 (fun p : Nat × Nat => p.2) (fun p => Nat.gcd p.1 p.2 = Nat.gcd a b) (fun p => [(0, .int .i64 ((p.1 : Nat) : Int)), (1, .int .i64 ((p.2 : Nat) : Int))])
    (fun _ => ⟨[], []⟩) ?_ (a, b) _ rfl rfl rfl ⟨rfl, rfl, trivial⟩
  rintro ⟨x, y⟩ g hg
  replace hg : Nat.gcd x y = Nat.gcd a b := hg
  conv => whnf
  refine condX_dec (fun h1 => ?_) (fun h1 => ?_) <;> conv => whnf
  · replace h1 : ((y : Nat) : Int) > 0 := h1
    refine Or.inl ⟨by decide +kernel, ?_⟩
    conv => whnf
    repeat ((first
      | refine ⟨_, _, fun K hK => (by (conv => whnf); exact hK), Or.inl ⟨rfl, True.intro, ?_⟩⟩
      | refine ⟨_, _, fun K hK => (by (conv => whnf); exact And.intro rfl (remX_nat x y rfl rfl (by omega) hK)), Or.inl ⟨rfl, True.intro, ?_⟩⟩); conv => whnf)
    refine ⟨(y, x % y), Nat.mod_lt _ (by omega), ?_, rfl, rfl, rfl, rfl, trivial⟩
    rw [← hg]
    show Nat.gcd y (x % y) = Nat.gcd x y
    rw [Nat.gcd_comm y, ← Nat.gcd_rec, Nat.gcd_comm]
  · replace h1 : ¬ ((y : Nat) : Int) > 0 := h1
    obtain rfl : y = 0 := by omega
    rw [Nat.gcd_zero_right] at hg
    subst hg
    conv => whnf
    exact .pure _ (.int _ _)
end
end Go.Abs

namespace Go.Abs
noncomputable section
open Go.Proofs


theorem idxX_at {es : List (List AV)} {sz : Nat} {i : Int} {K : AV → Prop} {row : List AV} (k : Nat) (hi : i = k) (hr : es[k]? = some row) (hl : row.length = sz) (h : K (.vp row 0)) : idxX es sz i K := by
  subst hi
  obtain ⟨hk, _⟩ := List.getElem?_eq_some_iff.1 hr
  exact ⟨⟨by omega, by omega⟩, row, by simpa using hr, hl, h⟩

theorem blk_last (A : List (Option Blk)) (L : List (Option ALoop)) (x : Blk) : (Heap.mk (A ++ [some x]) L).blk? A.length = some x := by simp [Heap.blk?]
theorem put_last (A : List (Option Blk)) (L : List (Option ALoop)) (x y : Blk) : (Heap.mk (A ++ [some x]) L).put A.length y = ⟨A ++ [some y], L⟩ := by simp [Heap.put]

theorem blk_set (A : List (Option Blk)) (L : List (Option ALoop)) (x y : Blk) : (Heap.mk ((A ++ [some x]).set A.length (some y)) L).blk? A.length = some y := by simp [Heap.blk?]
theorem le_set (B : List (Option Blk)) (k : Nat) (L : List (Option ALoop)) (x y : Blk) : (Heap.mk (B ++ nones (k + 1)) L).le ⟨((B ++ nones k) ++ [some x]).set (B ++ nones k).length (some y), L⟩ := by
  refine ⟨by simp, rfl, fun b z hb => ?_⟩
  rw [blk?_dead] at hb
  have hl := blk?_lt hb
  have hl' : b < B.length := hl
  unfold Heap.blk? at hb ⊢
  simp only at hb ⊢
  rw [List.getElem?_set_ne (by simp; omega), List.append_assoc, List.getElem?_append_left hl']
  exact hb

abbrev ChR := List (List AV) × Option Nat
def allV : Nat → List ChR → List (List AV)
  | _, [] => []
  | s, r :: rest => (r.1.map fun ch => [.int .i64 ((s : Nat) : Int), .agg ch]) ++ allV (s + 1) rest

def rowsV (rows : List ChR) : List (List AV) := rows.map fun r => [.vs r.1 r.2]

def ChC (ch : List AV) : Prop := ∃ a g ns c, ch = [.str a, .str g, .vs ns c] ∧ ∀ row ∈ ns, ∀ x ∈ row, Pure x

attribute [local irreducible] Heap.blk?
set_option maxHeartbeats 1000000 in
theorem all_iter {O : AV} {rows : List ChR} {cc : Option Nat} (hc : ∀ r ∈ rows, ∀ ch ∈ r.1, ChC ch) (hn : rows.length < 4611686018427387904) (hn2 : ∀ r ∈ rows, r.1.length < 4611686018427387904) :
    IterSemD Tryz.prog 87 [.vp [O, .vs (rowsV rows) cc] 0] (allV 0 rows) := ⟨fun B L lp K hR => by
  letI : FH := fhHead
  refine call_x modelT_ok mixed Tryz.func87 rfl (by decide +kernel) ?_
  conv => whnf
  have hlr : (rowsV rows).length = rows.length := by simp [rowsV]
  repeat ((first | refine lenX_eq hlr ?_ | refine And.intro rfl ?_); conv => whnf)
  refine loop_p modelT_ok mixed 28 (fun a : Nat × Nat × List (Option Blk) × List (Option ALoop) => rows.length - a.1)
    (fun a => a.1 ≤ rows.length ∧ a.2.2.1.length = B.length ∧ RoundsD Tryz.prog lp (allV a.1 (rows.drop a.1)) a.2.2.1 a.2.2.2 K)
    (fun a => [(0, .yld lp), (8, .vs (rowsV rows) cc), (9, .int .i64 ((rows.length : Nat) : Int)), (10, .int .i64 ((a.1 : Nat) : Int))]) (fun a => ⟨a.2.2.1 ++ nones a.2.1, a.2.2.2⟩) ?_ (0, 0, B, L) _
    ⟨Nat.zero_le _, rfl, hR⟩ (by show (Heap.mk B L) = ⟨B ++ [], L⟩; rw [List.append_nil]) rfl ⟨rfl, rfl, rfl, rfl, trivial⟩
  rintro ⟨s, k, B1, L1⟩ g ⟨h1, h2, h3⟩
  simp only at h1 h2 h3
  conv => whnf
  refine condX_dec (fun h4 => ?_) (fun h4 => ?_) <;> conv => whnf
  · have hs : s < rows.length := by have : ((s : Nat) : Int) < ((rows.length : Nat) : Int) := h4; omega
    obtain ⟨⟨cs, cap⟩, hrw⟩ : ∃ r : ChR, rows[s] = r := ⟨_, rfl⟩
    have hi : (rowsV rows)[s]? = some [.vs cs cap] := by simp [rowsV, hs, hrw]
    have hmem : ((cs, cap) : ChR) ∈ rows := hrw ▸ List.getElem_mem hs
    have hd : rows.drop s = (cs, cap) :: rows.drop (s + 1) := by rw [List.drop_eq_getElem_cons hs, hrw]
    rw [hd] at h3
    refine idxX_at s rfl hi rfl ?_
    conv => whnf
    refine lenX_eq rfl ?_
    conv => whnf
    refine loop_p modelT_ok mixed 28 (fun a : Nat × Nat × List (Option Blk) × List (Option ALoop) => cs.length - a.1)
      (fun a => a.1 ≤ cs.length ∧ a.2.2.1.length = B.length ∧ RoundsD Tryz.prog lp (((cs.drop a.1).map fun ch => [.int .i64 ((s : Nat) : Int), .agg ch]) ++ allV (s + 1) (rows.drop (s + 1))) a.2.2.1 a.2.2.2 K)
      (fun a => [(0, .yld lp), (3, .int .i64 ((s : Nat) : Int)), (8, .vs (rowsV rows) cc), (9, .int .i64 ((rows.length : Nat) : Int)), (10, .int .i64 ((s : Nat) : Int)), (15, .vs cs cap), (16, .int .i64 ((cs.length : Nat) : Int)), (17, .int .i64 ((a.1 : Nat) : Int))])
      (fun a => ⟨a.2.2.1 ++ nones a.2.1, a.2.2.2⟩) ?_ (0, k, B1, L1) _ ⟨Nat.zero_le _, h2, h3⟩ rfl rfl ⟨rfl, rfl, rfl, rfl, rfl, rfl, rfl, rfl, trivial⟩
    rintro ⟨j, k2, B2, L2⟩ g2 ⟨i1, i2, i3⟩
    simp only at i1 i2 i3
    conv => whnf
    refine condX_dec (fun h5 => ?_) (fun h5 => ?_) <;> conv => whnf
    · have hj : j < cs.length := by have : ((j : Nat) : Int) < ((cs.length : Nat) : Int) := h5; omega
      obtain ⟨ch, hch⟩ : ∃ ch, cs[j] = ch := ⟨_, rfl⟩
      have hcj : cs[j]? = some ch := by rw [List.getElem?_eq_getElem hj, hch]
      have hck := hc _ hmem ch (hch ▸ List.getElem_mem hj)
      obtain ⟨ca, cg, ns, nc, rfl, hns⟩ := hck
      refine idxX_at j rfl hcj rfl ?_
      conv => whnf
      refine And.intro ⟨by decide, rfl⟩ ?_
      conv => whnf
      generalize hq : Heap.blk? _ _ = q
      obtain rfl := hq.symm.trans (blk_last (B2 ++ nones k2) L2 _)
      conv => whnf
      refine stX_box rfl ?_
      conv => whnf
      generalize hq : Heap.blk? _ _ = q
      obtain rfl := hq.symm.trans (blk_set (B2 ++ nones k2) L2 _ _)
      conv => whnf
      refine ldX_eq rfl ?_
      conv => whnf
      have hd2 : cs.drop j = [.str ca, .str cg, .vs ns nc] :: cs.drop (j + 1) := by rw [List.drop_eq_getElem_cons hj, hch]
      rw [hd2, List.map_cons, List.cons_append] at i3
      refine ⟨callV_weak (le_set B2 k2 L2 _ _) (callV_mono (fun r h' hq => ?_) (i3 (k2 + 1)))⟩
      obtain ⟨B', L', e1, rfl, hq⟩ := hq
      have hcl := hn2 _ hmem
      simp only at hcl
      rcases hq with ⟨rfl, hq⟩ | ⟨rfl, hq⟩ <;> conv => whnf
      · repeat ((first | refine condX_false ?_ | refine condX_f rfl ?_ | refine And.intro rfl ?_ | refine wrapX_i64 (by omega) ?_); conv => whnf)
        refine ⟨(j + 1, k2 + 1, B', L'), by show cs.length - (j + 1) < cs.length - j; omega, ⟨hj, e1.trans i2, hq⟩, rfl, rfl, rfl, rfl, rfl, rfl, rfl, rfl, rfl, ?_, trivial⟩
        show some (AV.int .i64 _) = some (AV.int .i64 _)
        congr 2
      · repeat ((first | refine condX_true ?_ | refine condX_t rfl ?_); conv => whnf)
        exact ⟨rfl, B', L', k2 + 1, e1.trans i2, rfl, hq⟩
    · have hj : ¬ ((j : Nat) : Int) < ((cs.length : Nat) : Int) := h5
      obtain rfl : j = cs.length := by omega
      rw [List.drop_length] at i3
      repeat ((first | refine And.intro rfl ?_ | refine wrapX_i64 (by omega) ?_); conv => whnf)
      refine ⟨(s + 1, k2, B2, L2), by show rows.length - (s + 1) < rows.length - s; omega, ⟨hs, i2, i3⟩, rfl, rfl, rfl, rfl, rfl, rfl, trivial⟩
  · have hs : ¬ ((s : Nat) : Int) < ((rows.length : Nat) : Int) := h4
    obtain rfl : s = rows.length := by omega
    rw [List.drop_length] at h3
    exact ⟨rfl, B1, L1, k, h2, rfl, h3⟩⟩
end
end Go.Abs

namespace Go.Abs
noncomputable section
open Go.Proofs
set_option maxRecDepth 100000

theorem all_pure {rows : List ChR} {os : List (List AV)} {oc cc : Option Nat} (ho : ∀ r ∈ os, ∀ x ∈ r, Pure x) (hc : ∀ r ∈ rows, ∀ ch ∈ r.1, ChC ch) :
    PureSem Tryz.prog 69 [.agg [.vs os oc, .vs (rowsV rows) cc]] (.fn (.func 87) [] [.vp [.vs os oc, .vs (rowsV rows) cc] 0]) := by
  have pO : Pure (.vs os oc) := .vs _ _ fun i hi j hj => ho _ (List.getElem_mem hi) _ (List.getElem_mem hj)
  have pC : Pure (.vs (rowsV rows) cc) := .vs _ _ fun i hi j hj => by
    have hi' : i < rows.length := by simpa [rowsV] using hi
    have e : (rowsV rows)[i] = [.vs rows[i].1 rows[i].2] := by simp [rowsV]
    have hj0 : j = 0 := by simp only [e] at hj; simpa using hj
    subst hj0
    have e2 : (rowsV rows)[i][0] = .vs rows[i].1 rows[i].2 := by simp only [e, List.getElem_cons_zero]
    rw [e2]
    refine .vs _ _ fun p hp q hq => ?_
    obtain ⟨a, g, ns, c, hch, hns⟩ := hc _ (List.getElem_mem hi') _ (List.getElem_mem hp)
    have hm : rows[i].1[p][q] ∈ [AV.str a, .str g, .vs ns c] := by rw [← hch]; exact List.getElem_mem _
    simp only [List.mem_cons, List.not_mem_nil, or_false] at hm
    rcases hm with h | h | h <;> rw [h]
    · exact .str _
    · exact .str _
    · exact .vs _ _ fun x hx y hy => hns _ (List.getElem_mem hx) _ (List.getElem_mem hy)
  have pA : Pure (.agg [.vs os oc, .vs (rowsV rows) cc]) := pure_agg2 pO pC
  have pF : Pure (.fn (.func 87) [] [.vp [.vs os oc, .vs (rowsV rows) cc] 0]) := pure_fn1 (.vp _ _ fun i hi => by
    match i, hi with
    | 0, _ => exact pO
    | 1, _ => exact pC)
  refine pure_of_call (pure1 pA) pF (call_x modelT_ok mixed Tryz.func69 rfl (by decide +kernel) ?_)
  conv => whnf
  refine And.intro ⟨rfl, by decide, rfl⟩ ?_
  conv => whnf
  refine .fn _ _ _ _ _ rfl rfl (fun i hi => by simp at hi) fun i hi hj => ?_
  have : i = 0 := by simpa using hi
  subst this
  refine .ptr 0 0 0 [[_, _]] false false _ rfl (by simp) rfl fun t h1 h2 => ?_
  match t, h1 with
  | 0, _ => exact .pure _ pO
  | 1, _ => exact .pure _ pC

def SmallOf (q : List UInt8) (n d : Nat) : Prop := PureSem Tryz.prog 101 [.str q] (.tup [.int .i64 ((n : Nat) : Int), .int .i64 ((d : Nat) : Int), .bool true])

def GainV (D : Nat) (v : List AV) : Prop := ∃ s a g ns c n d, v = [.int .i64 s, .agg [.str a, .str g, .vs ns c]] ∧ SmallOf g n d ∧ 0 < d ∧ d ∣ D ∧ (∀ row ∈ ns, ∀ x ∈ row, Pure x)

def cellH (os : List (List AV)) (oc : Option Nat) (rows : List ChR) (cc : Option Nat) (p g : Nat) : Option Blk :=
  some (.rows [[.vs os oc, .vs (rowsV rows) cc, .int .i64 ((p : Nat) : Int), .int .i64 ((g : Nat) : Int)]] false false)

theorem rows_lt {n m : Nat} {row : List AV} {g fz : Bool} (h : ∀ y ∈ row, Lt n m y) : (Blk.rows [row] g fz).Lt n m := fun r hr y hy => by
  obtain rfl : r = row := by simpa using hr
  exact h y hy

theorem ltB3 {os : List (List AV)} {oc : Option Nat} {rows : List ChR} {cc : Option Nat} {p : Nat} (pM : Pure (.agg [.vs os oc, .vs (rowsV rows) cc])) (g : Nat) :
    LtB [cellH os oc rows cc p g, some (.rows [[.ptr 0 0 0]] false false), some (.rows [[.bool false]] false false)] := by
  intro b x hb
  cases pM with
  | agg _ h =>
    have h0 : Pure (.vs os oc) := h 0 (by simp)
    have h1 : Pure (.vs (rowsV rows) cc) := h 1 (by simp)
    match b, hb with
    | 0, hb =>
      obtain rfl : Blk.rows [[.vs os oc, .vs (rowsV rows) cc, .int .i64 ((p : Nat) : Int), .int .i64 ((g : Nat) : Int)]] false false = x := by simpa [Heap.blk?, cellH] using hb
      refine rows_lt fun y hy => ?_
      simp only [List.mem_cons, List.not_mem_nil, or_false] at hy
      rcases hy with rfl | rfl | rfl | rfl
      · exact h0.lt _ _
      · exact h1.lt _ _
      · exact .int _ _
      · exact .int _ _
    | 1, hb =>
      obtain rfl : Blk.rows [[.ptr 0 0 0]] false false = x := by simpa [Heap.blk?] using hb
      refine rows_lt fun y hy => ?_
      obtain rfl : y = .ptr 0 0 0 := by simpa using hy
      exact .ptr _ _ _ (by simp)
    | 2, hb =>
      obtain rfl : Blk.rows [[.bool false]] false false = x := by simpa [Heap.blk?] using hb
      refine rows_lt fun y hy => ?_
      obtain rfl : y = .bool false := by simpa using hy
      exact .bool _
    | b + 3, hb => simp [Heap.blk?] at hb

set_option maxHeartbeats 2000000 in
theorem gained_call {rows : List ChR} {os : List (List AV)} {oc cc : Option Nat} {p g0 D : Nat} (ho : ∀ r ∈ os, ∀ x ∈ r, Pure x) (hc : ∀ r ∈ rows, ∀ ch ∈ r.1, ChC ch) (hn : rows.length < 4611686018427387904) (hn2 : ∀ r ∈ rows, r.1.length < 4611686018427387904)
    (hD : D ≤ 9999 ∧ 0 < D) (hv : ∀ v ∈ allV 0 rows, GainV D v) :
    CallSem Tryz.prog 79 [.ptr 0 0 0] ⟨[cellH os oc rows cc p g0], []⟩ fun r h' => r = .bool true ∧ ∃ g G, h' = ⟨cellH os oc rows cc p g :: G, [none]⟩ := by
  have hall := all_pure (oc := oc) (cc := cc) ho hc
  have hit := all_iter (O := .vs os oc) (cc := cc) hc hn hn2
  refine call_x modelT_ok mixed Tryz.func79 rfl (by decide +kernel) ?_
  have pM : Pure (.agg [.vs os oc, .vs (rowsV rows) cc]) := by
    cases hall.pure with
    | fn _ _ _ _ h2 =>
      have := h2 0 (by simp)
      cases this with
      | vp _ _ h => exact .agg _ fun i hi => h i hi
  conv => whnf
  repeat ((first | refine And.intro ⟨rfl, by decide, rfl⟩ ?_ | refine And.intro ⟨by decide, rfl⟩ ?_ | refine ldX_eq rfl ?_ | refine stX_box rfl ?_ | refine callX_pure hall (pure1 pM) ?_); conv => whnf)
  refine range_iterD hit rfl (fun _ h => by cases h) (fun vs B => (∀ v ∈ vs, GainV D v) ∧ ∃ g, 0 < g ∧ g ∣ D ∧ B = [cellH os oc rows cc p g, some (.rows [[.ptr 0 0 0]] false false), some (.rows [[.bool false]] false false)])
    ⟨hv, 1, by omega, Nat.one_dvd _, rfl⟩ (ltB3 pM 1) ?_ ?_
  · rintro v vs B ⟨hv', g, hg0, hgD, rfl⟩ -
    obtain ⟨s, a, gq, ns, c, n, d, rfl, hsm, hd0, hdD, hns⟩ := hv' _ List.mem_cons_self
    have pCh : Pure (.agg [.str a, .str gq, .vs ns c]) := .agg _ fun i hi => by
      match i, hi with
      | 0, _ => exact .str _
      | 1, _ => exact .str _
      | 2, _ => exact .vs _ _ fun x hx y hy => hns _ (List.getElem_mem hx) _ (List.getElem_mem hy)
    refine ⟨rfl, fun x hx => ?_, fun r => run_x modelT_ok mixed ?_⟩
    · simp only [List.mem_cons, List.not_mem_nil, or_false] at hx
      rcases hx with rfl | rfl
      · exact .int _ _
      · exact pCh
    conv => whnf
    repeat ((first | refine And.intro ⟨by decide, rfl⟩ ?_ | refine ldX_eq rfl ?_ | refine stX_box rfl ?_); conv => whnf)
    refine ⟨rfl, _, rfl, fun r' => run_x modelT_ok mixed ?_⟩
    conv => whnf
    repeat ((first | refine ldX_eq rfl ?_ | refine stX_box rfl ?_ | refine callX_pure hsm (pure1 (.str _)) ?_ | refine condX_t rfl ?_ | refine condX_f rfl ?_ | refine condX_f (decide_eq_false (by omega)) ?_ | refine condX_t (by simp only [beq_false, Bool.not_eq_true', decide_eq_false_iff_not]; omega) ?_ | refine And.intro rfl ?_); conv => whnf)
    have hgD' : g ≤ D := Nat.le_of_dvd hD.2 hgD
    have hlcm : g / Nat.gcd g d * d = Nat.lcm g d := by rw [Nat.lcm_eq_mul_div, Nat.div_mul_right_comm (Nat.gcd_dvd_left g d)]
    have hl0 : 0 < Nat.lcm g d := Nat.lcm_pos hg0 hd0
    have hlD : Nat.lcm g d ∣ D := Nat.lcm_dvd hgD hdD
    have hl1 : Nat.lcm g d ≤ D := Nat.le_of_dvd hD.2 hlD
    have hgc : Nat.gcd g d ≠ 0 := by have := Nat.gcd_pos_of_pos_left d hg0; omega
    have hq : g / Nat.gcd g d ≤ g := Nat.div_le_self _ _
    have hw1 : IntKind.i64.wrap ((g / Nat.gcd g d : Nat) : Int) = ((g / Nat.gcd g d : Nat) : Int) := by
      generalize g / Nat.gcd g d = q at hq
      exact IntWalk.i64_in _ (by omega)
    have hw2 : IntKind.i64.wrap ((Nat.lcm g d : Nat) : Int) = ((Nat.lcm g d : Nat) : Int) := IntWalk.i64_in _ (by omega)
    have hmul : ((g / Nat.gcd g d : Nat) : Int) * ((d : Nat) : Int) = ((Nat.lcm g d : Nat) : Int) := by rw [← Int.natCast_mul, hlcm]
    refine callX_of (call_x modelT_ok mixed Tryz.func102 rfl (by decide +kernel) ?_)
    conv => whnf
    refine Or.inl ⟨by decide +kernel, ?_⟩
    conv => whnf
    repeat ((first | refine ⟨_, _, fun K hK => (by (conv => whnf); first | exact hK | exact ldX_eq rfl hK | exact callX_pure (mgcd_pure g d) (pure2 (.int _ _) (.int _ _)) hK | exact And.intro rfl (divX_nat g (Nat.gcd g d) rfl rfl hgc hw1 hK) | exact And.intro rfl (wrapX_nat (Nat.lcm g d) hmul hw2 hK) | (refine stX_box rfl ?_; (conv => whnf); exact hK)), Or.inl ⟨rfl, (by repeat' (first | exact True.intro | refine And.intro ?_ ?_ | exact Or.inl (by decide +kernel) | decide +kernel | exact Or.inr (fun K hK => (by (conv => whnf); first | exact hK | exact ldX_eq rfl hK | exact callX_pure (mgcd_pure g d) (pure2 (.int _ _) (.int _ _)) hK | exact And.intro rfl (divX_nat g (Nat.gcd g d) rfl rfl hgc hw1 hK) | exact And.intro rfl (wrapX_nat (Nat.lcm g d) hmul hw2 hK) | (refine stX_box rfl ?_; (conv => whnf); exact hK))))), ?_⟩⟩ | refine ⟨_, _, fun K hK => (by (conv => whnf); first | exact hK | exact ldX_eq rfl hK | exact callX_pure (mgcd_pure g d) (pure2 (.int _ _) (.int _ _)) hK | exact And.intro rfl (divX_nat g (Nat.gcd g d) rfl rfl hgc hw1 hK) | exact And.intro rfl (wrapX_nat (Nat.lcm g d) hmul hw2 hK) | (refine stX_box rfl ?_; (conv => whnf); exact hK)), Or.inr ⟨(by repeat' (first | exact True.intro | refine And.intro ?_ ?_ | exact Or.inl (by decide +kernel) | decide +kernel | exact Or.inr (fun K hK => (by (conv => whnf); first | exact hK | exact ldX_eq rfl hK | exact callX_pure (mgcd_pure g d) (pure2 (.int _ _) (.int _ _)) hK | exact And.intro rfl (divX_nat g (Nat.gcd g d) rfl rfl hgc hw1 hK) | exact And.intro rfl (wrapX_nat (Nat.lcm g d) hmul hw2 hK) | (refine stX_box rfl ?_; (conv => whnf); exact hK))))), (by repeat' (first | exact True.intro | refine And.intro ?_ ?_ | exact Or.inl (by decide +kernel) | decide +kernel | exact Or.inr (fun K hK => (by (conv => whnf); first | exact hK | exact ldX_eq rfl hK | exact callX_pure (mgcd_pure g d) (pure2 (.int _ _) (.int _ _)) hK | exact And.intro rfl (divX_nat g (Nat.gcd g d) rfl rfl hgc hw1 hK) | exact And.intro rfl (wrapX_nat (Nat.lcm g d) hmul hw2 hK) | (refine stX_box rfl ?_; (conv => whnf); exact hK))))), ?_⟩⟩); conv => whnf)
    have hle : decide (((Nat.lcm g d : Nat) : Int) ≤ 9999) = true := decide_eq_true (by omega)
    repeat ((first | refine ldX_eq rfl ?_ | refine And.intro rfl ?_ | refine condX_f (decide_eq_false (by omega)) ?_ | refine condX_f (by rw [hle]; rfl) ?_ | refine condX_t rfl ?_ | refine condX_f rfl ?_); conv => whnf)
    exact ⟨[cellH os oc rows cc p (Nat.lcm g d), _, _], [_], rfl, rfl, ltB3 pM _, fun v hv => hv' v (List.mem_cons_of_mem _ hv), Nat.lcm g d, hl0, hlD, rfl⟩
  · rintro B ⟨-, g, hg0, hgD, rfl⟩ -
    conv => whnf
    repeat ((first | refine ldX_eq rfl ?_ | refine stX_box rfl ?_ | refine And.intro rfl ?_); conv => whnf)
    exact ⟨g, _, rfl⟩
end
end Go.Abs

namespace Go.Abs
noncomputable section
open Go.Proofs
set_option maxRecDepth 100000

def ActOf (a : List UInt8) : Prop := a.length ≤ 8 ∧ PureSem Tryz.prog 99 [.vs (a.map fun b => [.int .u8 b.toNat]) none, .fn (.func 100) [] []] (.bool false)

def NameV (v : List AV) : Prop := ∃ s a g ns c, v = [.int .i64 s, .agg [.str a, .str g, .vs ns c]] ∧ ActOf a ∧ (∀ row ∈ ns, ∀ x ∈ row, Pure x)

theorem cell_lt {os : List (List AV)} {oc : Option Nat} {rows : List ChR} {cc : Option Nat} {p g n m : Nat} (pM : Pure (.agg [.vs os oc, .vs (rowsV rows) cc])) {x : Blk} (hx : cellH os oc rows cc p g = some x) : x.Lt n m := by
  cases pM with
  | agg _ hq =>
    have h0 : Pure (.vs os oc) := hq 0 (by simp)
    have h1 : Pure (.vs (rowsV rows) cc) := hq 1 (by simp)
    obtain rfl : Blk.rows [[.vs os oc, .vs (rowsV rows) cc, .int .i64 ((p : Nat) : Int), .int .i64 ((g : Nat) : Int)]] false false = x := by simpa [cellH] using hx
    refine rows_lt fun y hy => ?_
    simp only [List.mem_cons, List.not_mem_nil, or_false] at hy
    rcases hy with rfl | rfl | rfl | rfl
    · exact h0.lt _ _
    · exact h1.lt _ _
    · exact .int _ _
    · exact .int _ _

theorem ltB1 {os : List (List AV)} {oc : Option Nat} {rows : List ChR} {cc : Option Nat} {p : Nat} (pM : Pure (.agg [.vs os oc, .vs (rowsV rows) cc])) (g : Nat) : LtB [cellH os oc rows cc p g]
  | 0, _, hb => cell_lt pM (by simpa [Heap.blk?, cellH] using hb)
  | b + 1, _, hb => by simp [Heap.blk?] at hb

theorem ltB2 {os : List (List AV)} {oc : Option Nat} {rows : List ChR} {cc : Option Nat} {p : Nat} (pM : Pure (.agg [.vs os oc, .vs (rowsV rows) cc])) (g : Nat) :
    LtB [cellH os oc rows cc p g, some (.rows [[.bool false]] false false)]
  | 0, _, hb => cell_lt pM (by simpa [Heap.blk?, cellH] using hb)
  | 1, x, hb => by
    obtain rfl : Blk.rows [[.bool false]] false false = x := by simpa [Heap.blk?] using hb
    refine rows_lt fun y hy => ?_
    obtain rfl : y = .bool false := by simpa using hy
    exact .bool _
  | b + 2, _, hb => by simp [Heap.blk?] at hb

set_option maxHeartbeats 2000000 in
theorem named_call {rows : List ChR} {os : List (List AV)} {oc cc : Option Nat} {p g0 : Nat} (ho : ∀ r ∈ os, ∀ x ∈ r, Pure x) (hc : ∀ r ∈ rows, ∀ ch ∈ r.1, ChC ch) (hn : rows.length < 4611686018427387904) (hn2 : ∀ r ∈ rows, r.1.length < 4611686018427387904)
    (hv : ∀ v ∈ allV 0 rows, NameV v) :
    CallSem Tryz.prog 78 [.ptr 0 0 0] ⟨[cellH os oc rows cc p g0], []⟩ fun r h' => r = .bool true ∧ ∃ G, h' = ⟨cellH os oc rows cc p g0 :: G, [none]⟩ := by
  have hall := all_pure (oc := oc) (cc := cc) ho hc
  have hit := all_iter (O := .vs os oc) (cc := cc) hc hn hn2
  refine call_x modelT_ok mixed Tryz.func78 rfl (by decide +kernel) ?_
  have pM : Pure (.agg [.vs os oc, .vs (rowsV rows) cc]) := by
    cases hall.pure with
    | fn _ _ _ _ h2 =>
      have := h2 0 (by simp)
      cases this with
      | vp _ _ h => exact .agg _ fun i hi => h i hi
  conv => whnf
  repeat ((first | refine And.intro ⟨rfl, by decide, rfl⟩ ?_ | refine And.intro ⟨by decide, rfl⟩ ?_ | refine ldX_eq rfl ?_ | refine stX_box rfl ?_ | refine callX_pure hall (pure1 pM) ?_); conv => whnf)
  refine range_iterD hit rfl (fun _ h => by cases h) (fun vs B => (∀ v ∈ vs, NameV v) ∧ B = [cellH os oc rows cc p g0, some (.rows [[.bool false]] false false)])
    ⟨hv, rfl⟩ (ltB2 pM g0) ?_ ?_
  · rintro v vs B ⟨hv', rfl⟩ -
    obtain ⟨s, a, gq, ns, c, rfl, ⟨ha1, ha2⟩, hns⟩ := hv' _ List.mem_cons_self
    have pCh : Pure (.agg [.str a, .str gq, .vs ns c]) := .agg _ fun i hi => by
      match i, hi with
      | 0, _ => exact .str _
      | 1, _ => exact .str _
      | 2, _ => exact .vs _ _ fun x hx y hy => hns _ (List.getElem_mem hx) _ (List.getElem_mem hy)
    refine ⟨rfl, fun x hx => ?_, fun r => run_x modelT_ok mixed ?_⟩
    · simp only [List.mem_cons, List.not_mem_nil, or_false] at hx
      rcases hx with rfl | rfl
      · exact .int _ _
      · exact pCh
    conv => whnf
    repeat ((first | refine And.intro ⟨by decide, rfl⟩ ?_ | refine ldX_eq rfl ?_ | refine stX_box rfl ?_); conv => whnf)
    refine ⟨rfl, _, rfl, fun r' => run_x modelT_ok mixed ?_⟩
    conv => whnf
    repeat ((first | refine ldX_eq rfl ?_ | refine stX_box rfl ?_ | refine condX_t rfl ?_ | refine condX_f rfl ?_ | refine condX_f (decide_eq_false (by omega)) ?_ | refine condX_t (by simp only [beq_false, Bool.not_eq_true', decide_eq_false_iff_not]; omega) ?_ | refine And.intro rfl ?_ | refine lenX_eq rfl ?_); conv => whnf)
    refine Or.inr ?_
    conv => whnf
    have pB : Pure (.vs (a.map fun b => [.int .u8 b.toNat]) none) := .vs _ _ fun i hi j hj => by
      have e : (a.map fun b => [AV.int .u8 b.toNat])[i] = [.int .u8 (a[i]'(by simpa using hi)).toNat] := by simp
      have : j = 0 := by simp only [e] at hj; simpa using hj
      subst this
      simp only [e, List.getElem_cons_zero]
      exact .int _ _
    repeat ((first | refine condX_t (by simp only [beq_false, Bool.not_eq_true', decide_eq_false_iff_not]; omega) ?_ | refine condX_f (decide_eq_false (by omega)) ?_ | refine condX_t rfl ?_ | refine condX_f rfl ?_ | refine And.intro rfl ?_ | refine callX_pure ha2 (pure2 pB (.fn _ _ _ (fun i hi => by simp at hi) (fun i hi => by simp at hi))) ?_ | refine condX_f (decide_eq_false (by omega)) ?_ | refine condX_t rfl ?_ | refine condX_f rfl ?_); conv => whnf)
    exact ⟨[cellH os oc rows cc p g0, _], [_], rfl, rfl, ltB2 pM _, fun v hv => hv' v (List.mem_cons_of_mem _ hv), rfl⟩
  · rintro B ⟨-, rfl⟩ -
    conv => whnf
    repeat ((first | refine ldX_eq rfl ?_ | refine stX_box rfl ?_ | refine And.intro rfl ?_); conv => whnf)
    exact ⟨_, rfl⟩
end
end Go.Abs

namespace Go.Abs
noncomputable section
open Go.Proofs

structure Br where
  to : Nat
  p : List UInt8
  n : Nat
  d : Nat

def brV (b : Br) : List AV := [.int .i64 ((b.to : Nat) : Int), .str b.p]
def BrOK (D : Nat) (b : Br) : Prop := SmallOf b.p b.n b.d ∧ 1 ≤ b.n ∧ 0 < b.d ∧ b.d ∣ D
def sumB (M : Nat) (l : List Br) : Nat := (l.map fun b => b.n * (M / b.d)).sum
def lastB (l : List Br) : Nat → Int
  | 0 => -1
  | i + 1 => match l[i]? with | some b => b.to | none => 0

structure SprOK (N D : Nat) (l : List Br) : Prop where
  ok : ∀ b ∈ l, BrOK D b
  inc : ∀ (i : Nat) (hi : i < l.length), lastB l i < (l[i].to : Int)
  lt : ∀ b ∈ l, b.to < N
  sum : ∀ M, 0 < M → (∀ b ∈ l, b.d ∣ M) → sumB M l = M
  len : l.length < 4611686018427387904

theorem sumB_take (M : Nat) (l : List Br) (i : Nat) (hi : i < l.length) : sumB M (l.take (i + 1)) = sumB M (l.take i) + l[i].n * (M / l[i].d) := by
  unfold sumB
  rw [List.take_succ_eq_append_getElem hi, List.map_append, List.sum_append]
  simp
theorem sumB_le (M : Nat) (l : List Br) (i : Nat) : sumB M (l.take i) ≤ sumB M l := by
  have h : sumB M l = sumB M (l.take i) + sumB M (l.drop i) := by
    unfold sumB
    rw [← List.sum_append, ← List.map_append, List.take_append_drop]
  omega

set_option maxHeartbeats 1000000 in
theorem meet_p {os : List (List AV)} {oc : Option Nat} {rows : List ChR} {cc : Option Nat} {p g d D : Nat} {t : Int} {q : List UInt8} {K : AV → Heap → Prop} (hD : D ≤ 9999 ∧ 0 < D) (hp0 : 0 < p) (hpD : p ∣ D) (hd0 : 0 < d) (hdD : d ∣ D)
    (hk : K (.bool true) ⟨[cellH os oc rows cc (Nat.lcm p d) g, some (.rows [[.int .i64 t, .str q]] false false)], []⟩) :
    CallSem Tryz.prog 102 [.ptr 0 0 2, .int .i64 ((d : Nat) : Int)] ⟨[cellH os oc rows cc p g, some (.rows [[.int .i64 t, .str q]] false false)], []⟩ K := by
  have hgD' : p ≤ D := Nat.le_of_dvd hD.2 hpD
  have hlcm : p / Nat.gcd p d * d = Nat.lcm p d := by rw [Nat.lcm_eq_mul_div, Nat.div_mul_right_comm (Nat.gcd_dvd_left p d)]
  have hlD : Nat.lcm p d ∣ D := Nat.lcm_dvd hpD hdD
  have hl1 : Nat.lcm p d ≤ D := Nat.le_of_dvd hD.2 hlD
  have hgc : Nat.gcd p d ≠ 0 := by have := Nat.gcd_pos_of_pos_left d hp0; omega
  have hq : p / Nat.gcd p d ≤ p := Nat.div_le_self _ _
  have hw1 : IntKind.i64.wrap ((p / Nat.gcd p d : Nat) : Int) = ((p / Nat.gcd p d : Nat) : Int) := by
    generalize p / Nat.gcd p d = q at hq
    exact IntWalk.i64_in _ (by omega)
  have hw2 : IntKind.i64.wrap ((Nat.lcm p d : Nat) : Int) = ((Nat.lcm p d : Nat) : Int) := IntWalk.i64_in _ (by omega)
  have hmul : ((p / Nat.gcd p d : Nat) : Int) * ((d : Nat) : Int) = ((Nat.lcm p d : Nat) : Int) := by rw [← Int.natCast_mul, hlcm]
  refine call_x modelT_ok mixed Tryz.func102 rfl (by decide +kernel) ?_
  conv => whnf
  refine Or.inl ⟨by decide +kernel, ?_⟩
  conv => whnf
  repeat ((first | refine ⟨_, _, fun K hK => (by (conv => whnf); first | exact hK | exact ldX_eq rfl hK | exact callX_pure (mgcd_pure p d) (pure2 (.int _ _) (.int _ _)) hK | exact And.intro rfl (divX_nat p (Nat.gcd p d) rfl rfl hgc hw1 hK) | exact And.intro rfl (wrapX_nat (Nat.lcm p d) hmul hw2 hK) | (refine stX_box rfl ?_; (conv => whnf); exact hK)), Or.inl ⟨rfl, (by repeat' (first | exact True.intro | refine And.intro ?_ ?_ | exact Or.inl (by decide +kernel) | decide +kernel | exact Or.inr (fun K hK => (by (conv => whnf); first | exact hK | exact ldX_eq rfl hK | exact callX_pure (mgcd_pure p d) (pure2 (.int _ _) (.int _ _)) hK | exact And.intro rfl (divX_nat p (Nat.gcd p d) rfl rfl hgc hw1 hK) | exact And.intro rfl (wrapX_nat (Nat.lcm p d) hmul hw2 hK) | (refine stX_box rfl ?_; (conv => whnf); exact hK))))), ?_⟩⟩ | refine ⟨_, _, fun K hK => (by (conv => whnf); first | exact hK | exact ldX_eq rfl hK | exact callX_pure (mgcd_pure p d) (pure2 (.int _ _) (.int _ _)) hK | exact And.intro rfl (divX_nat p (Nat.gcd p d) rfl rfl hgc hw1 hK) | exact And.intro rfl (wrapX_nat (Nat.lcm p d) hmul hw2 hK) | (refine stX_box rfl ?_; (conv => whnf); exact hK)), Or.inr ⟨(by repeat' (first | exact True.intro | refine And.intro ?_ ?_ | exact Or.inl (by decide +kernel) | decide +kernel | exact Or.inr (fun K hK => (by (conv => whnf); first | exact hK | exact ldX_eq rfl hK | exact callX_pure (mgcd_pure p d) (pure2 (.int _ _) (.int _ _)) hK | exact And.intro rfl (divX_nat p (Nat.gcd p d) rfl rfl hgc hw1 hK) | exact And.intro rfl (wrapX_nat (Nat.lcm p d) hmul hw2 hK) | (refine stX_box rfl ?_; (conv => whnf); exact hK))))), (by repeat' (first | exact True.intro | refine And.intro ?_ ?_ | exact Or.inl (by decide +kernel) | decide +kernel | exact Or.inr (fun K hK => (by (conv => whnf); first | exact hK | exact ldX_eq rfl hK | exact callX_pure (mgcd_pure p d) (pure2 (.int _ _) (.int _ _)) hK | exact And.intro rfl (divX_nat p (Nat.gcd p d) rfl rfl hgc hw1 hK) | exact And.intro rfl (wrapX_nat (Nat.lcm p d) hmul hw2 hK) | (refine stX_box rfl ?_; (conv => whnf); exact hK))))), ?_⟩⟩); conv => whnf)
  have hle : decide (((Nat.lcm p d : Nat) : Int) ≤ 9999) = true := decide_eq_true (by omega)
  repeat ((first | refine ldX_eq rfl ?_ | refine And.intro rfl ?_); conv => whnf)
  rw [hle]
  exact hk

set_option maxHeartbeats 4000000 in
set_option maxRecDepth 100000 in
theorem spread_call {os : List (List AV)} {oc : Option Nat} {rows : List ChR} {cc bc : Option Nat} {p0 g D : Nat} {l : List Br} (pM : Pure (.agg [.vs os oc, .vs (rowsV rows) cc])) (hD : D ≤ 9999 ∧ 0 < D) (hp0 : 0 < p0) (hpD : p0 ∣ D) (hl : SprOK os.length D l)
    (hos : os.length < 4611686018427387904) :
    CallSem Tryz.prog 103 [.ptr 0 0 0, .vs (l.map brV) bc] ⟨[cellH os oc rows cc p0 g], []⟩ fun r h' => r = .bool true ∧ ∃ p, (0 < p ∧ p ∣ D) ∧ ∃ G, h' = ⟨cellH os oc rows cc p g :: G, []⟩ := by
  have hlen : (l.map brV).length = l.length := by simp
  have pL : Pure (.vs (l.map brV) bc) := .vs _ _ fun i hi j hj => by
    have hi' : i < l.length := by simpa using hi
    have e : (l.map brV)[i] = brV l[i] := by simp
    have hm : (l.map brV)[i][j] ∈ brV l[i] := by rw [← e]; exact List.getElem_mem _
    simp only [brV, List.mem_cons, List.not_mem_nil, or_false] at hm
    rcases hm with h | h <;> rw [h]
    · exact .int _ _
    · exact .str _
  refine call_x modelT_ok mixed Tryz.func103 rfl (by decide +kernel) ?_
  conv => whnf
  repeat ((first | refine lenX_eq hlen ?_ | refine And.intro rfl ?_); conv => whnf)
  refine loop_g modelT_ok mixed 94 (fun a : Nat × Nat => l.length - a.1) (fun a => a.1 ≤ l.length ∧ 0 < a.2 ∧ a.2 ∣ D ∧ ∀ b ∈ l.take a.1, b.d ∣ a.2)
    (fun a => [(0, .ptr 0 0 0), (1, .vs (l.map brV) bc), (5, .int .i64 (lastB l a.1)), (17, .vs (l.map brV) bc), (18, .int .i64 ((l.length : Nat) : Int)), (19, .int .i64 ((a.1 : Nat) : Int))])
    (fun a => ⟨[cellH os oc rows cc a.2 g], []⟩) ?_ ?_ (0, p0) _ ⟨Nat.zero_le _, hp0, hpD, fun b hb => by simp at hb⟩ rfl rfl ⟨rfl, rfl, rfl, rfl, rfl, rfl, trivial⟩
  · rintro ⟨i, p⟩ -
    refine ⟨rfl, fun q hq => ?_, ⟨ltB1 (p := p) pM g, fun l r h => by simp [Heap.loop?] at h⟩, Nat.le_refl _⟩
    simp only [List.mem_cons, List.not_mem_nil, or_false] at hq
    rcases hq with rfl | rfl | rfl | rfl | rfl | rfl
    · exact .ptr _ _ _ (by simp)
    · exact pL.lt _ _
    · exact .int _ _
    · exact pL.lt _ _
    · exact .int _ _
    · exact .int _ _
  · rintro ⟨i, p⟩ g1 ⟨i1, i2, i3, i4⟩
    simp only at i1 i2 i3 i4
    conv => whnf
    refine condX_dec (fun h4 => ?_) (fun h4 => ?_) <;> conv => whnf
    · have hi : i < l.length := by have : ((i : Nat) : Int) < ((l.length : Nat) : Int) := h4; omega
      obtain ⟨b, hb⟩ : ∃ b, l[i] = b := ⟨_, rfl⟩
      have hmem : b ∈ l := hb ▸ List.getElem_mem hi
      have hbi : (l.map brV)[i]? = some [.int .i64 ((b.to : Nat) : Int), .str b.p] := by simp [hi, hb, brV]
      obtain ⟨hsm, hn1, hd0, hdD⟩ := hl.ok b hmem
      have hto := hl.lt b hmem
      have hinc := hl.inc i hi
      rw [hb] at hinc
      have hll := hl.len
      refine idxX_at i rfl hbi rfl ?_
      conv => whnf
      repeat ((first | refine And.intro ⟨by decide, rfl⟩ ?_ | refine ldX_eq rfl ?_ | refine stX_box rfl ?_ | refine callX_pure hsm (pure1 (.str _)) ?_ | refine condX_t rfl ?_ | refine condX_f rfl ?_ | refine And.intro rfl ?_); conv => whnf)
      have hlast : ¬ ((b.to : Nat) : Int) ≤ lastB l i := by omega
      have hcount : ¬ ((b.to : Nat) : Int) ≥ ((os.length : Nat) : Int) := by omega
      have hone : ¬ ((b.n : Nat) : Int) < 1 := by omega
      refine Or.inl ⟨by decide +kernel, ?_⟩
      conv => whnf
      repeat ((first | refine condX_t (by rw [decide_eq_false hlast]; rfl) ?_ | refine condX_t (by rw [decide_eq_false hcount]; rfl) ?_ | refine condX_t (by rw [decide_eq_false hone]; rfl) ?_ | refine condX_t rfl ?_ | refine ⟨_, _, fun K hK => (by (conv => whnf); first | exact hK | exact ldX_eq rfl hK | exact condX_f (decide_eq_false hlast) hK | exact condX_f (decide_eq_false hcount) hK | exact condX_f (decide_eq_false hone) hK | exact condX_f rfl hK | exact lenX_eq rfl hK | exact callX_of (meet_p hD i2 i3 hd0 hdD hK) | (refine stX_box rfl ?_; (conv => whnf); exact hK)), Or.inl ⟨rfl, (by repeat' (first | exact True.intro | refine And.intro ?_ ?_ | exact Or.inl (by decide +kernel) | decide +kernel | exact Or.inr (fun K hK => (by (conv => whnf); first | exact hK | exact ldX_eq rfl hK | exact condX_f (decide_eq_false hlast) hK | exact condX_f (decide_eq_false hcount) hK | exact condX_f (decide_eq_false hone) hK | exact condX_f rfl hK | exact lenX_eq rfl hK | exact callX_of (meet_p hD i2 i3 hd0 hdD hK) | (refine stX_box rfl ?_; (conv => whnf); exact hK))))), ?_⟩⟩ | refine ⟨_, _, fun K hK => (by (conv => whnf); first | exact hK | exact ldX_eq rfl hK | exact condX_f (decide_eq_false hlast) hK | exact condX_f (decide_eq_false hcount) hK | exact condX_f (decide_eq_false hone) hK | exact condX_f rfl hK | exact lenX_eq rfl hK | exact callX_of (meet_p hD i2 i3 hd0 hdD hK) | (refine stX_box rfl ?_; (conv => whnf); exact hK)), Or.inr ⟨(by repeat' (first | exact True.intro | refine And.intro ?_ ?_ | exact Or.inl (by decide +kernel) | decide +kernel | exact Or.inr (fun K hK => (by (conv => whnf); first | exact hK | exact ldX_eq rfl hK | exact condX_f (decide_eq_false hlast) hK | exact condX_f (decide_eq_false hcount) hK | exact condX_f (decide_eq_false hone) hK | exact condX_f rfl hK | exact lenX_eq rfl hK | exact callX_of (meet_p hD i2 i3 hd0 hdD hK) | (refine stX_box rfl ?_; (conv => whnf); exact hK))))), (by repeat' (first | exact True.intro | refine And.intro ?_ ?_ | exact Or.inl (by decide +kernel) | decide +kernel | exact Or.inr (fun K hK => (by (conv => whnf); first | exact hK | exact ldX_eq rfl hK | exact condX_f (decide_eq_false hlast) hK | exact condX_f (decide_eq_false hcount) hK | exact condX_f (decide_eq_false hone) hK | exact condX_f rfl hK | exact lenX_eq rfl hK | exact callX_of (meet_p hD i2 i3 hd0 hdD hK) | (refine stX_box rfl ?_; (conv => whnf); exact hK))))), ?_⟩⟩); conv => whnf)
      repeat ((first | refine condX_f rfl ?_ | refine ldX_eq rfl ?_ | refine And.intro rfl ?_ | refine wrapX_i64 (by omega) ?_); conv => whnf)
      have hlD : Nat.lcm p b.d ∣ D := Nat.lcm_dvd i3 hdD
      refine ⟨(i + 1, Nat.lcm p b.d), [_], by show l.length - (i + 1) < l.length - i; omega, ⟨hi, Nat.lcm_pos i2 hd0, hlD, fun b' hb' => ?_⟩, rfl, rfl, rfl, rfl, ?_, rfl, rfl, ?_, trivial⟩
      · rw [List.take_succ_eq_append_getElem hi, hb] at hb'
        rcases List.mem_append.1 hb' with h | h
        · exact Nat.dvd_trans (i4 b' h) (Nat.dvd_lcm_left p b.d)
        · obtain rfl : b' = b := by simpa using h
          exact Nat.dvd_lcm_right p b'.d
      · show some (AV.int .i64 ((b.to : Nat) : Int)) = some (AV.int .i64 (lastB l (i + 1)))
        simp [lastB, hi, hb]
      · show some (AV.int .i64 _) = some (AV.int .i64 _)
        congr 2
    · have hi : ¬ ((i : Nat) : Int) < ((l.length : Nat) : Int) := h4
      obtain rfl : i = l.length := by omega
      rw [List.take_length] at i4
      have hsum := hl.sum p i2 i4
      have hpD' : p ≤ D := Nat.le_of_dvd hD.2 i3
      have hll := hl.len
      refine lenX_eq hlen ?_
      conv => whnf
      refine loop_g modelT_ok mixed 94 (fun a : Nat => l.length - a) (fun a => a ≤ l.length)
        (fun a => [(0, .ptr 0 0 0), (11, .int .i64 ((sumB p (l.take a) : Nat) : Int)), (64, .vs (l.map brV) bc), (65, .int .i64 ((l.length : Nat) : Int)), (66, .int .i64 ((a : Nat) : Int))])
        (fun _ => ⟨[cellH os oc rows cc p g], []⟩) ?_ ?_ 0 _ (Nat.zero_le _) rfl rfl ⟨rfl, rfl, rfl, rfl, rfl, trivial⟩
      · rintro a -
        refine ⟨rfl, fun q hq => ?_, ⟨ltB1 (p := p) pM g, fun l r h => by simp [Heap.loop?] at h⟩, Nat.le_refl _⟩
        simp only [List.mem_cons, List.not_mem_nil, or_false] at hq
        rcases hq with rfl | rfl | rfl | rfl | rfl
        · exact .ptr _ _ _ (by simp)
        · exact .int _ _
        · exact pL.lt _ _
        · exact .int _ _
        · exact .int _ _
      · rintro i g2 j1
        replace j1 : i ≤ l.length := j1
        conv => whnf
        refine condX_dec (fun h5 => ?_) (fun h5 => ?_) <;> conv => whnf
        · have hi2 : i < l.length := by have : ((i : Nat) : Int) < ((l.length : Nat) : Int) := h5; omega
          obtain ⟨b, hb⟩ : ∃ b, l[i] = b := ⟨_, rfl⟩
          have hmem : b ∈ l := hb ▸ List.getElem_mem hi2
          have hbi : (l.map brV)[i]? = some [.int .i64 ((b.to : Nat) : Int), .str b.p] := by simp [hi2, hb, brV]
          obtain ⟨hsm, hn1, hd0, hdD⟩ := hl.ok b hmem
          have htake := sumB_take p l i hi2
          rw [hb] at htake
          have hle := sumB_le p l (i + 1)
          rw [hsum] at hle
          refine idxX_at i rfl hbi rfl ?_
          conv => whnf
          have hq : p / b.d ≤ p := Nat.div_le_self _ _
          have hw1 : IntKind.i64.wrap ((p / b.d : Nat) : Int) = ((p / b.d : Nat) : Int) := by
            generalize p / b.d = q at hq
            exact IntWalk.i64_in _ (by omega)
          have hterm : b.n * (p / b.d) ≤ p := by omega
          have hw2 : IntKind.i64.wrap ((b.n * (p / b.d) : Nat) : Int) = ((b.n * (p / b.d) : Nat) : Int) := by
            generalize b.n * (p / b.d) = q at hterm
            exact IntWalk.i64_in _ (by omega)
          have hw3 : IntKind.i64.wrap ((sumB p (l.take (i + 1)) : Nat) : Int) = ((sumB p (l.take (i + 1)) : Nat) : Int) := IntWalk.i64_in _ (by omega)
          repeat ((first | refine And.intro ⟨by decide, rfl⟩ ?_ | refine ldX_eq rfl ?_ | refine stX_box rfl ?_ | refine callX_pure hsm (pure1 (.str _)) ?_ | refine And.intro rfl (divX_nat p b.d rfl rfl (by omega) hw1 ?_) | refine And.intro rfl (wrapX_nat (b.n * (p / b.d)) (Int.natCast_mul _ _).symm hw2 ?_) | refine And.intro rfl (wrapX_nat (sumB p (l.take (i + 1))) (by rw [htake]; exact (Int.natCast_add _ _).symm) hw3 ?_) | refine And.intro rfl (wrapX_i64 (by omega) ?_) | refine condX_t rfl ?_ | refine condX_f rfl ?_ | refine And.intro rfl ?_); conv => whnf)
          refine ⟨i + 1, [_], by show l.length - (i + 1) < l.length - i; omega, hi2, rfl, rfl, rfl, rfl, rfl, rfl, ?_, trivial⟩
          show some (AV.int .i64 _) = some (AV.int .i64 _)
          congr 2
        · have hi2 : ¬ ((i : Nat) : Int) < ((l.length : Nat) : Int) := h5
          obtain rfl : i = l.length := by omega
          refine ldX_eq rfl ?_
          conv => whnf
          refine ⟨?_, p, ⟨i2, i3⟩, [], rfl⟩
          rw [List.take_length, hsum]
          simp
end
end Go.Abs

namespace Go.Abs
noncomputable section
open Go.Proofs
set_option maxRecDepth 100000

theorem pM_of {os : List (List AV)} {oc : Option Nat} {rows : List ChR} {cc : Option Nat} {f : Fn} (h : Pure (.fn f [] [.vp [.vs os oc, .vs (rowsV rows) cc] 0])) : Pure (.agg [.vs os oc, .vs (rowsV rows) cc]) := by
  cases h with
  | fn _ _ _ _ h2 =>
    have := h2 0 (by simp)
    cases this with
    | vp _ _ h => exact .agg _ fun i hi => h i hi

theorem cell_pure {os : List (List AV)} {oc : Option Nat} {rows : List ChR} {cc : Option Nat} {p g : Nat} (pM : Pure (.agg [.vs os oc, .vs (rowsV rows) cc])) :
    ∀ x ∈ [AV.vs os oc, .vs (rowsV rows) cc, .int .i64 ((p : Nat) : Int), .int .i64 ((g : Nat) : Int)], Pure x := fun x hx => by
  cases pM with
  | agg _ hq =>
    have h0 : Pure (.vs os oc) := hq 0 (by simp)
    have h1 : Pure (.vs (rowsV rows) cc) := hq 1 (by simp)
    simp only [List.mem_cons, List.not_mem_nil, or_false] at hx
    rcases hx with rfl | rfl | rfl | rfl
    · exact h0
    · exact h1
    · exact .int _ _
    · exact .int _ _

theorem pL_of (l : List Br) (bc : Option Nat) : Pure (.vs (l.map brV) bc) := .vs _ _ fun i hi j hj => by
  have hi' : i < l.length := by simpa using hi
  have e : (l.map brV)[i] = brV l[i] := by simp
  have hm : (l.map brV)[i][j] ∈ brV l[i] := by rw [← e]; exact List.getElem_mem _
  simp only [brV, List.mem_cons, List.not_mem_nil, or_false] at hm
  rcases hm with h | h <;> rw [h]
  · exact .int _ _
  · exact .str _

theorem spread_at {os : List (List AV)} {oc : Option Nat} {rows : List ChR} {cc bc : Option Nat} {p0 g D : Nat} {l : List Br} {h : Heap} {B : Nat} {K : AV → Heap → Prop} (pM : Pure (.agg [.vs os oc, .vs (rowsV rows) cc])) (hD : D ≤ 9999 ∧ 0 < D) (hp0 : 0 < p0) (hpD : p0 ∣ D) (hl : SprOK os.length D l)
    (hos : os.length < 4611686018427387904) (hb : h.blk? B = cellH os oc rows cc p0 g) (hB : B < h.blks.length) (hfz : ∀ (b : Nat) (rs : List (List AV)) (g fz : Bool), h.blk? b = some (.rows rs g fz) → fz = false)
    (hk : ∀ p, (0 < p ∧ p ∣ D) → K (.bool true) (h.put B (.rows [[.vs os oc, .vs (rowsV rows) cc, .int .i64 ((p : Nat) : Int), .int .i64 ((g : Nat) : Int)]] false false))) :
    CallSem Tryz.prog 103 [.ptr B 0 0, .vs (l.map brV) bc] h K := by
  refine call_cell (Φ := fun p : Nat => 0 < p ∧ p ∣ D) (row' := fun p => [.vs os oc, .vs (rowsV rows) cc, .int .i64 ((p : Nat) : Int), .int .i64 ((g : Nat) : Int)]) (R := .bool true) hb hB hfz (pure1 (pL_of l bc)) (cell_pure pM) (fun _ _ => cell_pure pM) ?_ (.bool _) hk
  refine call_drop (spread_call (bc := bc) pM hD hp0 hpD hl hos) rfl ?_
  rintro r h' ⟨rfl, p, hp, G, rfl⟩
  exact ⟨[cellH os oc rows cc p g], G, 0, rfl, Nat.le_refl _, ltB1 pM g, .bool _, rfl, p, hp, rfl⟩

def SprV (N D : Nat) (v : List AV) : Prop := ∃ s a g l c, v = [.int .i64 s, .agg [.str a, .str g, .vs (l.map brV) c]] ∧ SprOK N D l

set_option maxHeartbeats 4000000 in
set_option maxRecDepth 100000 in
theorem branched_call {rows : List ChR} {os : List (List AV)} {oc cc : Option Nat} {p0 g D : Nat} (ho : ∀ r ∈ os, ∀ x ∈ r, Pure x) (hc : ∀ r ∈ rows, ∀ ch ∈ r.1, ChC ch) (hn : rows.length < 4611686018427387904) (hn2 : ∀ r ∈ rows, r.1.length < 4611686018427387904)
    (hos : os.length < 4611686018427387904) (hD : D ≤ 9999 ∧ 0 < D) (hv : ∀ v ∈ allV 0 rows, SprV os.length D v) :
    CallSem Tryz.prog 80 [.ptr 0 0 0] ⟨[cellH os oc rows cc p0 g], []⟩ fun r h' => r = .bool true ∧ ∃ p G, h' = ⟨cellH os oc rows cc p g :: G, [none]⟩ := by
  have hall := all_pure (oc := oc) (cc := cc) ho hc
  have hit := all_iter (O := .vs os oc) (cc := cc) hc hn hn2
  have pM := pM_of hall.pure
  refine call_x modelT_ok mixed Tryz.func80 rfl (by decide +kernel) ?_
  conv => whnf
  repeat ((first | refine And.intro ⟨rfl, by decide, rfl⟩ ?_ | refine And.intro ⟨by decide, rfl⟩ ?_ | refine ldX_eq rfl ?_ | refine stX_box rfl ?_ | refine callX_pure hall (pure1 pM) ?_); conv => whnf)
  refine range_iterD hit rfl (fun _ h => by cases h) (fun vs B => (∀ v ∈ vs, SprV os.length D v) ∧ ∃ p, 0 < p ∧ p ∣ D ∧ B = [cellH os oc rows cc p g, some (.rows [[.ptr 0 0 0]] false false), some (.rows [[.bool false]] false false)])
    ⟨hv, 1, by omega, Nat.one_dvd _, rfl⟩ (ltB3 (p := 1) pM g) ?_ ?_
  · rintro v vs B ⟨hv', p, hp0, hpD, rfl⟩ -
    obtain ⟨s, a, gq, l, c, rfl, hl⟩ := hv' _ List.mem_cons_self
    have pCh : Pure (.agg [.str a, .str gq, .vs (l.map brV) c]) := .agg _ fun i hi => by
      match i, hi with
      | 0, _ => exact .str _
      | 1, _ => exact .str _
      | 2, _ => exact pL_of l c
    refine ⟨rfl, fun x hx => ?_, fun r => run_x modelT_ok mixed ?_⟩
    · simp only [List.mem_cons, List.not_mem_nil, or_false] at hx
      rcases hx with rfl | rfl
      · exact .int _ _
      · exact pCh
    conv => whnf
    repeat ((first | refine And.intro ⟨by decide, rfl⟩ ?_ | refine ldX_eq rfl ?_ | refine stX_box rfl ?_); conv => whnf)
    refine ⟨rfl, _, rfl, fun r' => run_x modelT_ok mixed ?_⟩
    conv => whnf
    repeat ((first | refine ldX_eq rfl ?_ | refine stX_box rfl ?_ | refine And.intro rfl ?_); conv => whnf)
    refine callX_of (spread_at pM hD hp0 hpD hl hos rfl (by simp) (nofz_ok rfl) fun p' hp' => ?_)
    conv => whnf
    repeat ((first | refine condX_f rfl ?_ | refine And.intro rfl ?_); conv => whnf)
    exact ⟨[cellH os oc rows cc p' g, _, _], [_], rfl, rfl, ltB3 (p := p') pM _, fun v hv => hv' v (List.mem_cons_of_mem _ hv), p', hp'.1, hp'.2, rfl⟩
  · rintro B ⟨-, p, hp0, hpD, rfl⟩ -
    conv => whnf
    repeat ((first | refine ldX_eq rfl ?_ | refine stX_box rfl ?_ | refine And.intro rfl ?_); conv => whnf)
    exact ⟨p, _, rfl⟩
end
end Go.Abs

namespace Go.Abs
noncomputable section
open Go.Proofs

def osV (os : List Nat) : List (List AV) := os.map fun o => [.int .i64 ((o : Nat) : Int)]
def byV (a : List UInt8) : List (List AV) := a.map fun b => [.int .u8 b.toNat]
theorem pure_fn0 (g : FuncId) : Pure (.fn (.func g) [] []) := .fn _ _ _ (fun i hi => by simp at hi) fun i hi => by simp at hi

theorem idx_none_int {l : List Nat} {c : Option Nat} {g : FuncId} (hl : l.length < 4611686018427387904) (hp : Pure (.vs (osV l) c)) (hg : ∀ z ∈ l, PureSem Tryz.prog g [.int .i64 ((z : Nat) : Int)] (.bool false)) (hz : ∀ z ∈ l, Pure (.int .i64 ((z : Nat) : Int))) :
    PureSem Tryz.prog 116 [.vs (osV l) c, .fn (.func g) [] []] (.int .i64 (-1)) := by
  have hlen : (osV l).length = l.length := by simp [osV]
  refine pure_of_call (pure2 hp (pure_fn0 g)) (.int _ _) (call_x modelT_ok mixed Tryz.func116 rfl (by decide +kernel) ?_)
  conv => whnf
  refine lenX_eq hlen ?_
  conv => whnf
  refine loop_p modelT_ok mixed 19 (fun i : Nat => l.length - i) (fun i => i ≤ l.length) (fun i => [(0, .vs (osV l) c), (1, .fn (.func g) [] []), (7, .int .i64 ((l.length : Nat) : Int)), (8, .int .i64 ((i : Nat) : Int))])
    (fun _ => ⟨[], []⟩) ?_ 0 _ (Nat.zero_le _) rfl rfl ⟨rfl, rfl, rfl, rfl, trivial⟩
  rintro i g1 i1
  replace i1 : i ≤ l.length := i1
  conv => whnf
  refine condX_dec (fun h4 => ?_) (fun h4 => ?_) <;> conv => whnf
  · have hi : i < l.length := by have : ((i : Nat) : Int) < ((l.length : Nat) : Int) := h4; omega
    obtain ⟨z, hzi⟩ : ∃ z, l[i] = z := ⟨_, rfl⟩
    have hm : z ∈ l := hzi ▸ List.getElem_mem hi
    have hbi : (osV l)[i]? = some [.int .i64 ((z : Nat) : Int)] := by simp [osV, hi, hzi]
    refine idxX_at i rfl hbi rfl ?_
    conv => whnf
    repeat ((first | refine callX_pure (hg z hm) (pure1 (hz z hm)) ?_ | refine condX_f rfl ?_ | refine ldX_eq rfl ?_ | refine And.intro rfl (wrapX_i64 (by omega) ?_)); conv => whnf)
    refine ⟨i + 1, by show l.length - (i + 1) < l.length - i; omega, hi, rfl, rfl, rfl, rfl, rfl, ?_, trivial⟩
    show some (AV.int .i64 _) = some (AV.int .i64 _)
    congr 2
  · exact .pure _ (.int _ _)

theorem con_none_int {l : List Nat} {c : Option Nat} {g : FuncId} (hl : l.length < 4611686018427387904) (hp : Pure (.vs (osV l) c)) (hg : ∀ z ∈ l, PureSem Tryz.prog g [.int .i64 ((z : Nat) : Int)] (.bool false)) (hz : ∀ z ∈ l, Pure (.int .i64 ((z : Nat) : Int))) :
    PureSem Tryz.prog 97 [.vs (osV l) c, .fn (.func g) [] []] (.bool false) := by
  have hi := idx_none_int hl hp hg hz
  refine pure_of_call (pure2 hp (pure_fn0 g)) (.bool _) (call_x modelT_ok mixed Tryz.func97 rfl (by decide +kernel) ?_)
  conv => whnf
  refine callX_pure hi (pure2 hp (pure_fn0 g)) ?_
  conv => whnf
  exact .pure _ (.bool _)

theorem idx_none_byte {l : List UInt8} {c : Option Nat} {g : FuncId} (hl : l.length < 4611686018427387904) (hp : Pure (.vs (byV l) c)) (hg : ∀ z ∈ l, PureSem Tryz.prog g [.int .u8 z.toNat] (.bool false)) (hz : ∀ z ∈ l, Pure (.int .u8 z.toNat)) :
    PureSem Tryz.prog 117 [.vs (byV l) c, .fn (.func g) [] []] (.int .i64 (-1)) := by
  have hlen : (byV l).length = l.length := by simp [byV]
  refine pure_of_call (pure2 hp (pure_fn0 g)) (.int _ _) (call_x modelT_ok mixed Tryz.func117 rfl (by decide +kernel) ?_)
  conv => whnf
  refine lenX_eq hlen ?_
  conv => whnf
  refine loop_p modelT_ok mixed 19 (fun i : Nat => l.length - i) (fun i => i ≤ l.length) (fun i => [(0, .vs (byV l) c), (1, .fn (.func g) [] []), (7, .int .i64 ((l.length : Nat) : Int)), (8, .int .i64 ((i : Nat) : Int))])
    (fun _ => ⟨[], []⟩) ?_ 0 _ (Nat.zero_le _) rfl rfl ⟨rfl, rfl, rfl, rfl, trivial⟩
  rintro i g1 i1
  replace i1 : i ≤ l.length := i1
  conv => whnf
  refine condX_dec (fun h4 => ?_) (fun h4 => ?_) <;> conv => whnf
  · have hi : i < l.length := by have : ((i : Nat) : Int) < ((l.length : Nat) : Int) := h4; omega
    obtain ⟨z, hzi⟩ : ∃ z, l[i] = z := ⟨_, rfl⟩
    have hm : z ∈ l := hzi ▸ List.getElem_mem hi
    have hbi : (byV l)[i]? = some [.int .u8 z.toNat] := by simp [byV, hi, hzi]
    refine idxX_at i rfl hbi rfl ?_
    conv => whnf
    repeat ((first | refine callX_pure (hg z hm) (pure1 (hz z hm)) ?_ | refine condX_f rfl ?_ | refine ldX_eq rfl ?_ | refine And.intro rfl (wrapX_i64 (by omega) ?_)); conv => whnf)
    refine ⟨i + 1, by show l.length - (i + 1) < l.length - i; omega, hi, rfl, rfl, rfl, rfl, rfl, ?_, trivial⟩
    show some (AV.int .i64 _) = some (AV.int .i64 _)
    congr 2
  · exact .pure _ (.int _ _)

theorem con_none_byte {l : List UInt8} {c : Option Nat} {g : FuncId} (hl : l.length < 4611686018427387904) (hp : Pure (.vs (byV l) c)) (hg : ∀ z ∈ l, PureSem Tryz.prog g [.int .u8 z.toNat] (.bool false)) (hz : ∀ z ∈ l, Pure (.int .u8 z.toNat)) :
    PureSem Tryz.prog 99 [.vs (byV l) c, .fn (.func g) [] []] (.bool false) := by
  have hi := idx_none_byte hl hp hg hz
  refine pure_of_call (pure2 hp (pure_fn0 g)) (.bool _) (call_x modelT_ok mixed Tryz.func99 rfl (by decide +kernel) ?_)
  conv => whnf
  refine callX_pure hi (pure2 hp (pure_fn0 g)) ?_
  conv => whnf
  exact .pure _ (.bool _)

theorem idx_none_rows {l : List ChR} {c : Option Nat} {g : FuncId} (hl : l.length < 4611686018427387904) (hp : Pure (.vs (rowsV l) c)) (hg : ∀ z ∈ l, PureSem Tryz.prog g [.vs z.1 z.2] (.bool false)) (hz : ∀ z ∈ l, Pure (.vs z.1 z.2)) :
    PureSem Tryz.prog 115 [.vs (rowsV l) c, .fn (.func g) [] []] (.int .i64 (-1)) := by
  have hlen : (rowsV l).length = l.length := by simp [rowsV]
  refine pure_of_call (pure2 hp (pure_fn0 g)) (.int _ _) (call_x modelT_ok mixed Tryz.func115 rfl (by decide +kernel) ?_)
  conv => whnf
  refine lenX_eq hlen ?_
  conv => whnf
  refine loop_p modelT_ok mixed 19 (fun i : Nat => l.length - i) (fun i => i ≤ l.length) (fun i => [(0, .vs (rowsV l) c), (1, .fn (.func g) [] []), (7, .int .i64 ((l.length : Nat) : Int)), (8, .int .i64 ((i : Nat) : Int))])
    (fun _ => ⟨[], []⟩) ?_ 0 _ (Nat.zero_le _) rfl rfl ⟨rfl, rfl, rfl, rfl, trivial⟩
  rintro i g1 i1
  replace i1 : i ≤ l.length := i1
  conv => whnf
  refine condX_dec (fun h4 => ?_) (fun h4 => ?_) <;> conv => whnf
  · have hi : i < l.length := by have : ((i : Nat) : Int) < ((l.length : Nat) : Int) := h4; omega
    obtain ⟨z, hzi⟩ : ∃ z, l[i] = z := ⟨_, rfl⟩
    have hm : z ∈ l := hzi ▸ List.getElem_mem hi
    have hbi : (rowsV l)[i]? = some [.vs z.1 z.2] := by simp [rowsV, hi, hzi]
    refine idxX_at i rfl hbi rfl ?_
    conv => whnf
    repeat ((first | refine callX_pure (hg z hm) (pure1 (hz z hm)) ?_ | refine condX_f rfl ?_ | refine ldX_eq rfl ?_ | refine And.intro rfl (wrapX_i64 (by omega) ?_)); conv => whnf)
    refine ⟨i + 1, by show l.length - (i + 1) < l.length - i; omega, hi, rfl, rfl, rfl, rfl, rfl, ?_, trivial⟩
    show some (AV.int .i64 _) = some (AV.int .i64 _)
    congr 2
  · exact .pure _ (.int _ _)

theorem con_none_rows {l : List ChR} {c : Option Nat} {g : FuncId} (hl : l.length < 4611686018427387904) (hp : Pure (.vs (rowsV l) c)) (hg : ∀ z ∈ l, PureSem Tryz.prog g [.vs z.1 z.2] (.bool false)) (hz : ∀ z ∈ l, Pure (.vs z.1 z.2)) :
    PureSem Tryz.prog 95 [.vs (rowsV l) c, .fn (.func g) [] []] (.bool false) := by
  have hi := idx_none_rows hl hp hg hz
  refine pure_of_call (pure2 hp (pure_fn0 g)) (.bool _) (call_x modelT_ok mixed Tryz.func95 rfl (by decide +kernel) ?_)
  conv => whnf
  refine callX_pure hi (pure2 hp (pure_fn0 g)) ?_
  conv => whnf
  exact .pure _ (.bool _)
end
end Go.Abs
