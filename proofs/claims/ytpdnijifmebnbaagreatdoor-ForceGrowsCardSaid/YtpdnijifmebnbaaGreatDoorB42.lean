/-
  Steps to a law of this program: SFc1, SFc2, SFc3, SFc4.
  Conditions: none.
-/
import Derived.Test.YtpdnijifmebnbaaGreatDoorB27
import Derived.Test.YtpdnijifmebnbaaGreatDoorB20
set_option linter.unusedVariables false
set_option linter.unusedSimpArgs false
set_option linter.unusedSectionVars false
namespace Go.Abs
noncomputable section
open Go.Proofs

def forceT : List (TypeId × TI) := [
  (36, { desc := (.struct #[{ name := "Owner", type := 33, offset := 0, embedded := false, tag := "", pkgPath := "", byteOffset := 0 }, { name := "Choices", type := 34, offset := 1, embedded := false, tag := "", pkgPath := "", byteOffset := 24 }]), size := 2, bytes := 48, zero := [.nils, .nils], cmp := true }),
  (43, { desc := (.int .i64), size := 1, bytes := 8, zero := [.int .i64 0], cmp := true }),
  (29, { desc := (.int .u64), size := 1, bytes := 8, zero := [.int .u64 0], cmp := true }),
  (3, { desc := (.int .i64), size := 1, bytes := 8, zero := [.int .i64 0], cmp := true }),
  (70, { desc := (.func #[64] #[4] false), size := 1, bytes := 8, zero := [.nilf], cmp := true }),
  (33, { desc := (.slice 3), size := 1, bytes := 24, zero := [.nils], cmp := true }),
  (34, { desc := (.slice 61), size := 1, bytes := 24, zero := [.nils], cmp := true }),
  (61, { desc := (.slice 64), size := 1, bytes := 24, zero := [.nils], cmp := true }),
  (4, { desc := .bool, size := 1, bytes := 1, zero := [.bool false], cmp := true }),
  (64, { desc := (.struct #[{ name := "Act", type := 9, offset := 0, embedded := false, tag := "", pkgPath := "", byteOffset := 0 }, { name := "Gain", type := 25, offset := 1, embedded := false, tag := "", pkgPath := "", byteOffset := 16 }, { name := "Next", type := 62, offset := 2, embedded := false, tag := "", pkgPath := "", byteOffset := 32 }]), size := 3, bytes := 56, zero := [.str [], .str [], .nils], cmp := true }),
  (62, { desc := (.slice 67), size := 1, bytes := 24, zero := [.nils], cmp := true }),
  (67, { desc := (.struct #[{ name := "To", type := 3, offset := 0, embedded := false, tag := "", pkgPath := "", byteOffset := 0 }, { name := "P", type := 25, offset := 1, embedded := false, tag := "", pkgPath := "", byteOffset := 8 }]), size := 2, bytes := 24, zero := [.int .i64 0, .str []], cmp := true }),
  (145, { desc := (.slice 5), size := 1, bytes := 24, zero := [.nils], cmp := true }),
  (5, { desc := (.int .u8), size := 1, bytes := 1, zero := [.int .u8 0], cmp := true }),
  (9, { desc := .string, size := 1, bytes := 16, zero := [.str []], cmp := true }),
  (25, { desc := .string, size := 1, bytes := 16, zero := [.str []], cmp := true })]
theorem forceT_ok : TabOK Tryz.prog (tabL forceT) := tabL_ok forceT (by
  intro p hp
  simp only [forceT, List.mem_cons, List.not_mem_nil, or_false] at hp
  rcases hp with rfl | rfl | rfl | rfl | rfl | rfl | rfl | rfl | rfl | rfl | rfl | rfl | rfl | rfl | rfl | rfl <;> kernel_rfl)

def memV (x : Nat) : Nat → Nat → List (List AV)
  | _, 0 => []
  | s, k + 1 => if x.testBit s then [.int .i64 ((s : Nat) : Int)] :: memV x (s + 1) k else memV x (s + 1) k

set_option maxHeartbeats 1000000 in
theorem members_iter {os : List Nat} {oc : Option Nat} {C : AV} {x : Nat} (hn : os.length < 64) :
    IterSemD Tryz.prog 58 [.vp [.vs (osV os) oc, C] 0, .vp [.int .u64 ((x : Nat) : Int)] 0] (memV x 0 os.length) := ⟨fun B L lp K hR => by
  letI : FH := fhHead
  refine call_x forceT_ok mixed Tryz.func58 rfl (by decide +kernel) ?_
  conv => whnf
  have hlr : (osV os).length = os.length := by simp [osV]
  repeat ((first | refine lenX_eq hlr ?_ | refine And.intro rfl ?_); conv => whnf)
  refine loop_p forceT_ok mixed 23 (fun a : Nat × List (Option Blk) × List (Option ALoop) => os.length - a.1)
    (fun a => a.1 ≤ os.length ∧ a.2.1.length = B.length ∧ RoundsD Tryz.prog lp (memV x a.1 (os.length - a.1)) a.2.1 a.2.2 K)
    (fun a => [(0, .yld lp), (2, .vp [.int .u64 ((x : Nat) : Int)] 0), (7, .int .i64 ((os.length : Nat) : Int)), (8, .int .i64 ((a.1 : Nat) : Int))]) (fun a => ⟨a.2.1 ++ nones 0, a.2.2⟩) ?_ (0, B, L) _
    ⟨Nat.zero_le _, rfl, hR⟩ (by show (Heap.mk B L) = ⟨B ++ [], L⟩; rw [List.append_nil]) rfl ⟨rfl, rfl, rfl, rfl, trivial⟩
  rintro ⟨s, B1, L1⟩ g ⟨h1, h2, h3⟩
  replace h1 : s ≤ os.length := h1
  replace h2 : B1.length = B.length := h2
  replace h3 : RoundsD Tryz.prog lp (memV x s (os.length - s)) B1 L1 K := h3
  conv => whnf
  refine condX_dec (fun h4 => ?_) (fun h4 => ?_) <;> conv => whnf
  · have hs : s < os.length := by have : ((s : Nat) : Int) < ((os.length : Nat) : Int) := h4; omega
    obtain ⟨k, hk⟩ : ∃ k, os.length - s = k + 1 := ⟨os.length - s - 1, by omega⟩
    have hk2 : os.length - (s + 1) = k := by omega
    rw [hk] at h3
    have hE := bitE_eq1 x s (by omega)
    have hsn := Int.natCast_nonneg s
    cases hb : x.testBit s with
    | false =>
      rw [hb] at hE
      have h3' : RoundsD Tryz.prog lp (memV x (s + 1) k) B1 L1 K := by
        have e : memV x s (k + 1) = memV x (s + 1) k := by simp [memV, hb]
        rw [e] at h3; exact h3
      have hE2 : ((bitE x s == 1) == true) = false := by rw [hE]; rfl
      repeat ((first | refine And.intro hsn ?_ | refine condX_f hE2 ?_ | refine condX_f hE ?_ | refine condX_f rfl ?_ | refine And.intro rfl (wrapX_i64 (by omega) ?_)); conv => whnf)
      refine ⟨(s + 1, B1, L1), by show os.length - (s + 1) < os.length - s; omega, ⟨hs, h2, by rw [hk2]; exact h3'⟩, rfl, rfl, rfl, rfl, rfl, ?_, trivial⟩
      show some (AV.int .i64 _) = some (AV.int .i64 _)
      congr 2
    | true =>
      rw [hb] at hE
      have hE2 : ((bitE x s == 1) == true) = true := by rw [hE]; rfl
      have h3' : ∀ k', callV Tryz.prog ⟨B1 ++ nones k', L1⟩ (.yld lp) [.int .i64 ((s : Nat) : Int)] fun r h' => ∃ B' L', B'.length = B1.length ∧ h' = ⟨B' ++ nones k', L'⟩ ∧ ((r = .bool true ∧ RoundsD Tryz.prog lp (memV x (s + 1) k) B' L' K) ∨ (r = .bool false ∧ K B' L')) := by
        have e : memV x s (k + 1) = [.int .i64 ((s : Nat) : Int)] :: memV x (s + 1) k := by simp [memV, hb]
        rw [e] at h3; exact h3
      repeat ((first | refine And.intro hsn ?_ | refine condX_t hE2 ?_ | refine condX_t hE ?_); conv => whnf)
      refine ⟨callV_mono (fun r h' hq => ?_) (h3' 0)⟩
      obtain ⟨B', L', e1, rfl, hq⟩ := hq
      rcases hq with ⟨rfl, hq⟩ | ⟨rfl, hq⟩ <;> conv => whnf
      · repeat ((first | refine condX_t hE2 ?_ | refine condX_t hE ?_ | refine condX_f rfl ?_ | refine And.intro rfl (wrapX_i64 (by omega) ?_)); conv => whnf)
        refine ⟨(s + 1, B', L'), by show os.length - (s + 1) < os.length - s; omega, ⟨hs, e1.trans h2, by rw [hk2]; exact hq⟩, rfl, rfl, rfl, rfl, rfl, ?_, trivial⟩
        show some (AV.int .i64 _) = some (AV.int .i64 _)
        congr 2
      · repeat ((first | refine condX_t hE2 ?_ | refine condX_t hE ?_ | refine condX_t rfl ?_); conv => whnf)
        exact ⟨rfl, B', L', 0, e1.trans h2, rfl, hq⟩
  · have hs : ¬ ((s : Nat) : Int) < ((os.length : Nat) : Int) := h4
    obtain rfl : s = os.length := by omega
    rw [Nat.sub_self] at h3
    exact ⟨rfl, B1, L1, 0, h2, rfl, h3⟩⟩
end
end Go.Abs

namespace Go.Abs
noncomputable section
open Go.Proofs

def firstF {α : Type} (φ : α → Bool) : List α → Nat → Int
  | [], _ => -1
  | z :: l, i => if φ z then (i : Int) else firstF φ l (i + 1)
theorem firstF_cons {α : Type} (φ : α → Bool) (z : α) (l : List α) (i : Nat) : firstF φ (z :: l) i = if φ z then (i : Int) else firstF φ l (i + 1) := rfl
theorem firstF_any {α : Type} (φ : α → Bool) : ∀ (l : List α) (i : Nat), decide (firstF φ l i ≥ 0) = l.any φ
  | [], i => by simp [firstF]
  | z :: l, i => by
    unfold firstF
    cases h : φ z with
    | true => simp [h]
    | false =>
      rw [if_neg (by simp), firstF_any φ l (i + 1)]
      simp [h]

def ChB (ch : List AV) (l : List Br) : Prop := ∃ a g c, ch = [.str a, .str g, .vs (l.map brV) c]
theorem ChB.pure {ch : List AV} {l : List Br} (h : ChB ch l) : Pure (.agg ch) := by
  obtain ⟨a, g, c, rfl⟩ := h
  exact .agg _ fun i hi => by
    match i, hi with
    | 0, _ => exact .str _
    | 1, _ => exact .str _
    | 2, _ => exact pL_of l c
theorem pure_fnc {g : FuncId} {caps : List AV} (h : ∀ x ∈ caps, Pure x) : Pure (.fn (.func g) [] caps) := .fn _ _ _ (fun i hi => by simp at hi) fun i hi => h _ (List.getElem_mem hi)

set_option maxHeartbeats 1000000 in
theorem idx_any_br {l : List Br} {c : Option Nat} {g : FuncId} {r0 : List AV} (φ : Br → Bool) (hl : l.length < 4611686018427387904) (hp : Pure (.vs (l.map brV) c)) (hc : ∀ x ∈ [AV.vp r0 0], Pure x) 
    (hg : ∀ z ∈ l, PureSem Tryz.prog g [.agg (brV z), .vp r0 0] (.bool (φ z))) :
    PureSem Tryz.prog 45 [.vs (l.map brV) c, .fn (.func g) [] [.vp r0 0]] (.int .i64 (firstF φ l 0)) := by
  have hlen : (l.map brV).length = l.length := by simp
  refine pure_of_call (pure2 hp (pure_fnc hc)) (.int _ _) (call_x forceT_ok mixed Tryz.func45 rfl (by decide +kernel) ?_)
  conv => whnf
  refine lenX_eq hlen ?_
  conv => whnf
  refine loop_p forceT_ok mixed 19 (fun i : Nat => l.length - i) (fun i => i ≤ l.length ∧ firstF φ (l.drop i) i = firstF φ l 0) (fun i => [(0, .vs (l.map brV) c), (1, .fn (.func g) [] [.vp r0 0]), (7, .int .i64 ((l.length : Nat) : Int)), (8, .int .i64 ((i : Nat) : Int))])
    (fun _ => ⟨[], []⟩) ?_ 0 _ ⟨Nat.zero_le _, rfl⟩ rfl rfl ⟨rfl, rfl, rfl, rfl, trivial⟩
  rintro i g1 ⟨i1, i2⟩
  replace i1 : i ≤ l.length := i1
  replace i2 : firstF φ (l.drop i) i = firstF φ l 0 := i2
  conv => whnf
  refine condX_dec (fun h4 => ?_) (fun h4 => ?_) <;> conv => whnf
  · have hi : i < l.length := by have : ((i : Nat) : Int) < ((l.length : Nat) : Int) := h4; omega
    obtain ⟨z, hzi⟩ : ∃ z, l[i] = z := ⟨_, rfl⟩
    have hm : z ∈ l := hzi ▸ List.getElem_mem hi
    have hgz := hg z hm
    have hd : l.drop i = z :: l.drop (i + 1) := by rw [List.drop_eq_getElem_cons hi, hzi]
    rw [hd, firstF_cons] at i2
    obtain ⟨bv, hbv⟩ : ∃ bv, φ z = bv := ⟨_, rfl⟩
    rw [hbv] at hgz i2
    have hbi : (l.map brV)[i]? = some [.int .i64 ((z.to : Nat) : Int), .str z.p] := by simp [hi, hzi, brV]
    have pz : Pure (.agg [.int .i64 ((z.to : Nat) : Int), .str z.p]) := pure_agg2 (.int _ _) (.str _)
    have hpz : ∀ x ∈ (AV.agg [.int .i64 ((z.to : Nat) : Int), .str z.p]) :: [.vp r0 0], Pure x := fun x hx => by
      rcases List.mem_cons.1 hx with rfl | hx
      · exact pz
      · exact hc x hx
    refine idxX_at i rfl hbi rfl ?_
    conv => whnf
    repeat ((first | refine ldX_eq rfl ?_ | refine And.intro ⟨by decide, rfl⟩ ?_ | refine And.intro rfl ?_ | refine callX_pure hgz hpz ?_); conv => whnf)
    cases bv with
    | true =>
      rw [if_pos rfl] at i2
      refine condX_t rfl ?_
      conv => whnf
      rw [← i2]
      exact .pure _ (.int _ _)
    | false =>
      rw [if_neg (by simp)] at i2
      refine condX_f rfl ?_
      conv => whnf
      refine And.intro rfl (wrapX_i64 (by omega) ?_)
      conv => whnf
      refine ⟨i + 1, by show l.length - (i + 1) < l.length - i; omega, ⟨hi, i2⟩, rfl, rfl, rfl, rfl, rfl, ?_, trivial⟩
      show some (AV.int .i64 _) = some (AV.int .i64 _)
      congr 2
  · have hi : ¬ ((i : Nat) : Int) < ((l.length : Nat) : Int) := h4
    obtain rfl : i = l.length := by omega
    rw [List.drop_length] at i2
    rw [← i2]
    exact .pure _ (.int _ _)

theorem con_any_br {l : List Br} {c : Option Nat} {g : FuncId} {r0 : List AV} (φ : Br → Bool) (hl : l.length < 4611686018427387904) (hp : Pure (.vs (l.map brV) c)) (hc : ∀ x ∈ [AV.vp r0 0], Pure x) 
    (hg : ∀ z ∈ l, PureSem Tryz.prog g [.agg (brV z), .vp r0 0] (.bool (φ z))) :
    PureSem Tryz.prog 27 [.vs (l.map brV) c, .fn (.func g) [] [.vp r0 0]] (.bool (l.any φ)) := by
  have hi := idx_any_br φ hl hp hc hg
  refine pure_of_call (pure2 hp (pure_fnc hc)) (.bool _) (call_x forceT_ok mixed Tryz.func27 rfl (by decide +kernel) ?_)
  conv => whnf
  refine callX_pure hi (pure2 hp (pure_fnc hc)) ?_
  conv => whnf
  rw [firstF_any]
  exact .pure _ (.bool _)

set_option maxHeartbeats 1000000 in
theorem idx_any_ch1 {l : List (List AV)} {c : Option Nat} {g : FuncId} {r0 : List AV} (φ : (List AV) → Bool) (hl : l.length < 4611686018427387904) (hp : Pure (.vs (l) c)) (hc : ∀ x ∈ [AV.vp r0 0], Pure x) (hz : ∀ z ∈ l, ∃ lb, ChB z lb)
    (hg : ∀ z ∈ l, PureSem Tryz.prog g [.agg z, .vp r0 0] (.bool (φ z))) :
    PureSem Tryz.prog 59 [.vs (l) c, .fn (.func g) [] [.vp r0 0]] (.int .i64 (firstF φ l 0)) := by
  have hlen : (l).length = l.length := by simp
  refine pure_of_call (pure2 hp (pure_fnc hc)) (.int _ _) (call_x forceT_ok mixed Tryz.func59 rfl (by decide +kernel) ?_)
  conv => whnf
  refine lenX_eq hlen ?_
  conv => whnf
  refine loop_p forceT_ok mixed 19 (fun i : Nat => l.length - i) (fun i => i ≤ l.length ∧ firstF φ (l.drop i) i = firstF φ l 0) (fun i => [(0, .vs (l) c), (1, .fn (.func g) [] [.vp r0 0]), (7, .int .i64 ((l.length : Nat) : Int)), (8, .int .i64 ((i : Nat) : Int))])
    (fun _ => ⟨[], []⟩) ?_ 0 _ ⟨Nat.zero_le _, rfl⟩ rfl rfl ⟨rfl, rfl, rfl, rfl, trivial⟩
  rintro i g1 ⟨i1, i2⟩
  replace i1 : i ≤ l.length := i1
  replace i2 : firstF φ (l.drop i) i = firstF φ l 0 := i2
  conv => whnf
  refine condX_dec (fun h4 => ?_) (fun h4 => ?_) <;> conv => whnf
  · have hi : i < l.length := by have : ((i : Nat) : Int) < ((l.length : Nat) : Int) := h4; omega
    obtain ⟨z, hzi⟩ : ∃ z, l[i] = z := ⟨_, rfl⟩
    have hm : z ∈ l := hzi ▸ List.getElem_mem hi
    have hgz := hg z hm
    have hd : l.drop i = z :: l.drop (i + 1) := by rw [List.drop_eq_getElem_cons hi, hzi]
    rw [hd, firstF_cons] at i2
    obtain ⟨bv, hbv⟩ : ∃ bv, φ z = bv := ⟨_, rfl⟩
    rw [hbv] at hgz i2
    have pz := (hz z hm).elim fun l' h => h.pure
    obtain ⟨lb, a, gq, cq, rfl⟩ := hz z hm
    have hbi : l[i]? = some [.str a, .str gq, .vs (lb.map brV) cq] := by rw [List.getElem?_eq_getElem hi, hzi]
    have hpz : ∀ x ∈ (AV.agg [.str a, .str gq, .vs (lb.map brV) cq]) :: [.vp r0 0], Pure x := fun x hx => by
      rcases List.mem_cons.1 hx with rfl | hx
      · exact pz
      · exact hc x hx
    refine idxX_at i rfl hbi rfl ?_
    conv => whnf
    repeat ((first | refine ldX_eq rfl ?_ | refine And.intro ⟨by decide, rfl⟩ ?_ | refine And.intro rfl ?_ | refine callX_pure hgz hpz ?_); conv => whnf)
    cases bv with
    | true =>
      rw [if_pos rfl] at i2
      refine condX_t rfl ?_
      conv => whnf
      rw [← i2]
      exact .pure _ (.int _ _)
    | false =>
      rw [if_neg (by simp)] at i2
      refine condX_f rfl ?_
      conv => whnf
      refine And.intro rfl (wrapX_i64 (by omega) ?_)
      conv => whnf
      refine ⟨i + 1, by show l.length - (i + 1) < l.length - i; omega, ⟨hi, i2⟩, rfl, rfl, rfl, rfl, rfl, ?_, trivial⟩
      show some (AV.int .i64 _) = some (AV.int .i64 _)
      congr 2
  · have hi : ¬ ((i : Nat) : Int) < ((l.length : Nat) : Int) := h4
    obtain rfl : i = l.length := by omega
    rw [List.drop_length] at i2
    rw [← i2]
    exact .pure _ (.int _ _)

theorem con_any_ch1 {l : List (List AV)} {c : Option Nat} {g : FuncId} {r0 : List AV} (φ : (List AV) → Bool) (hl : l.length < 4611686018427387904) (hp : Pure (.vs (l) c)) (hc : ∀ x ∈ [AV.vp r0 0], Pure x) (hz : ∀ z ∈ l, ∃ lb, ChB z lb)
    (hg : ∀ z ∈ l, PureSem Tryz.prog g [.agg z, .vp r0 0] (.bool (φ z))) :
    PureSem Tryz.prog 44 [.vs (l) c, .fn (.func g) [] [.vp r0 0]] (.bool (l.any φ)) := by
  have hi := idx_any_ch1 φ hl hp hc hz hg
  refine pure_of_call (pure2 hp (pure_fnc hc)) (.bool _) (call_x forceT_ok mixed Tryz.func44 rfl (by decide +kernel) ?_)
  conv => whnf
  refine callX_pure hi (pure2 hp (pure_fnc hc)) ?_
  conv => whnf
  rw [firstF_any]
  exact .pure _ (.bool _)

set_option maxHeartbeats 1000000 in
theorem idx_any_ch2 {l : List (List AV)} {c : Option Nat} {g : FuncId} {r0 r1 : List AV} (φ : (List AV) → Bool) (hl : l.length < 4611686018427387904) (hp : Pure (.vs (l) c)) (hc : ∀ x ∈ [AV.vp r0 0, .vp r1 0], Pure x) (hz : ∀ z ∈ l, ∃ lb, ChB z lb)
    (hg : ∀ z ∈ l, PureSem Tryz.prog g [.agg z, .vp r0 0, .vp r1 0] (.bool (φ z))) :
    PureSem Tryz.prog 59 [.vs (l) c, .fn (.func g) [] [.vp r0 0, .vp r1 0]] (.int .i64 (firstF φ l 0)) := by
  have hlen : (l).length = l.length := by simp
  refine pure_of_call (pure2 hp (pure_fnc hc)) (.int _ _) (call_x forceT_ok mixed Tryz.func59 rfl (by decide +kernel) ?_)
  conv => whnf
  refine lenX_eq hlen ?_
  conv => whnf
  refine loop_p forceT_ok mixed 19 (fun i : Nat => l.length - i) (fun i => i ≤ l.length ∧ firstF φ (l.drop i) i = firstF φ l 0) (fun i => [(0, .vs (l) c), (1, .fn (.func g) [] [.vp r0 0, .vp r1 0]), (7, .int .i64 ((l.length : Nat) : Int)), (8, .int .i64 ((i : Nat) : Int))])
    (fun _ => ⟨[], []⟩) ?_ 0 _ ⟨Nat.zero_le _, rfl⟩ rfl rfl ⟨rfl, rfl, rfl, rfl, trivial⟩
  rintro i g1 ⟨i1, i2⟩
  replace i1 : i ≤ l.length := i1
  replace i2 : firstF φ (l.drop i) i = firstF φ l 0 := i2
  conv => whnf
  refine condX_dec (fun h4 => ?_) (fun h4 => ?_) <;> conv => whnf
  · have hi : i < l.length := by have : ((i : Nat) : Int) < ((l.length : Nat) : Int) := h4; omega
    obtain ⟨z, hzi⟩ : ∃ z, l[i] = z := ⟨_, rfl⟩
    have hm : z ∈ l := hzi ▸ List.getElem_mem hi
    have hgz := hg z hm
    have hd : l.drop i = z :: l.drop (i + 1) := by rw [List.drop_eq_getElem_cons hi, hzi]
    rw [hd, firstF_cons] at i2
    obtain ⟨bv, hbv⟩ : ∃ bv, φ z = bv := ⟨_, rfl⟩
    rw [hbv] at hgz i2
    have pz := (hz z hm).elim fun l' h => h.pure
    obtain ⟨lb, a, gq, cq, rfl⟩ := hz z hm
    have hbi : l[i]? = some [.str a, .str gq, .vs (lb.map brV) cq] := by rw [List.getElem?_eq_getElem hi, hzi]
    have hpz : ∀ x ∈ (AV.agg [.str a, .str gq, .vs (lb.map brV) cq]) :: [.vp r0 0, .vp r1 0], Pure x := fun x hx => by
      rcases List.mem_cons.1 hx with rfl | hx
      · exact pz
      · exact hc x hx
    refine idxX_at i rfl hbi rfl ?_
    conv => whnf
    repeat ((first | refine ldX_eq rfl ?_ | refine And.intro ⟨by decide, rfl⟩ ?_ | refine And.intro rfl ?_ | refine callX_pure hgz hpz ?_); conv => whnf)
    cases bv with
    | true =>
      rw [if_pos rfl] at i2
      refine condX_t rfl ?_
      conv => whnf
      rw [← i2]
      exact .pure _ (.int _ _)
    | false =>
      rw [if_neg (by simp)] at i2
      refine condX_f rfl ?_
      conv => whnf
      refine And.intro rfl (wrapX_i64 (by omega) ?_)
      conv => whnf
      refine ⟨i + 1, by show l.length - (i + 1) < l.length - i; omega, ⟨hi, i2⟩, rfl, rfl, rfl, rfl, rfl, ?_, trivial⟩
      show some (AV.int .i64 _) = some (AV.int .i64 _)
      congr 2
  · have hi : ¬ ((i : Nat) : Int) < ((l.length : Nat) : Int) := h4
    obtain rfl : i = l.length := by omega
    rw [List.drop_length] at i2
    rw [← i2]
    exact .pure _ (.int _ _)

theorem con_any_ch2 {l : List (List AV)} {c : Option Nat} {g : FuncId} {r0 r1 : List AV} (φ : (List AV) → Bool) (hl : l.length < 4611686018427387904) (hp : Pure (.vs (l) c)) (hc : ∀ x ∈ [AV.vp r0 0, .vp r1 0], Pure x) (hz : ∀ z ∈ l, ∃ lb, ChB z lb)
    (hg : ∀ z ∈ l, PureSem Tryz.prog g [.agg z, .vp r0 0, .vp r1 0] (.bool (φ z))) :
    PureSem Tryz.prog 44 [.vs (l) c, .fn (.func g) [] [.vp r0 0, .vp r1 0]] (.bool (l.any φ)) := by
  have hi := idx_any_ch2 φ hl hp hc hz hg
  refine pure_of_call (pure2 hp (pure_fnc hc)) (.bool _) (call_x forceT_ok mixed Tryz.func44 rfl (by decide +kernel) ?_)
  conv => whnf
  refine callX_pure hi (pure2 hp (pure_fnc hc)) ?_
  conv => whnf
  rw [firstF_any]
  exact .pure _ (.bool _)
end
end Go.Abs

namespace Go.Abs
noncomputable section
open Go.Proofs

theorem pure_br (b : Br) : Pure (.agg (brV b)) := pure_agg2 (.int _ _) (.str _)
theorem pure_set (x : Nat) : Pure (.vp [.int .u64 ((x : Nat) : Int)] 0) := pure_vp1 (.int _ _)
theorem pure3 {x y z : AV} (h : Pure x) (h' : Pure y) (h'' : Pure z) : ∀ w ∈ [x, y, z], Pure w := fun w hw => by
  simp only [List.mem_cons, List.not_mem_nil, or_false] at hw
  rcases hw with rfl | rfl | rfl <;> assumption

theorem touch_pure {x : Nat} {b : Br} (hb : b.to < 64) : PureSem Tryz.prog 42 [.agg (brV b), .vp [.int .u64 ((x : Nat) : Int)] 0] (.bool (x.testBit b.to)) := by
  have hE := bitE_eq1 x b.to hb
  refine pure_of_call (pure2 (pure_br b) (pure_set x)) (.bool _) (call_x forceT_ok mixed Tryz.func42 rfl (by decide +kernel) ?_)
  conv => whnf
  repeat ((first | refine And.intro ⟨rfl, by decide, rfl⟩ ?_ | refine ldX_eq rfl ?_ | refine And.intro (Int.natCast_nonneg b.to) ?_ | refine And.intro rfl ?_); conv => whnf)
  rw [← hE]
  exact .pure _ (.bool _)

theorem out_pure {x : Nat} {b : Br} (hb : b.to < 64) : PureSem Tryz.prog 28 [.agg (brV b), .vp [.int .u64 ((x : Nat) : Int)] 0] (.bool (!x.testBit b.to)) := by
  have hE := bitE_eq0 x b.to hb
  refine pure_of_call (pure2 (pure_br b) (pure_set x)) (.bool _) (call_x forceT_ok mixed Tryz.func28 rfl (by decide +kernel) ?_)
  conv => whnf
  repeat ((first | refine And.intro ⟨rfl, by decide, rfl⟩ ?_ | refine ldX_eq rfl ?_ | refine And.intro (Int.natCast_nonneg b.to) ?_ | refine And.intro rfl ?_); conv => whnf)
  rw [← hE]
  exact .pure _ (.bool _)

theorem yes_pure {ch : List AV} {l : List Br} (h : ChB ch l) : PureSem Tryz.prog 24 [.agg ch] (.bool true) := by
  have pz := h.pure
  obtain ⟨a, g, c, rfl⟩ := h
  refine pure_of_call (pure1 pz) (.bool _) (call_x forceT_ok mixed Tryz.func24 rfl (by decide +kernel) ?_)
  conv => whnf
  repeat ((first | refine And.intro ⟨rfl, by decide, rfl⟩ ?_ | refine ldX_eq rfl ?_ | refine And.intro rfl ?_); conv => whnf)
  exact .pure _ (.bool _)

def stays (x : Nat) (l : List Br) : Bool := !(l.any fun b => !x.testBit b.to)
def touches (x : Nat) (l : List Br) : Bool := l.any fun b => x.testBit b.to

theorem stays_pure {x : Nat} {ch : List AV} {l : List Br} (h : ChB ch l) (hl : l.length < 4611686018427387904) (hb : ∀ b ∈ l, b.to < 64) :
    PureSem Tryz.prog 26 [.agg ch, .vp [.int .u64 ((x : Nat) : Int)] 0] (.bool (stays x l)) := by
  have pz := h.pure
  obtain ⟨a, g, c, rfl⟩ := h
  have pV := pL_of l c
  have hc := con_any_br (c := c) (r0 := [.int .u64 ((x : Nat) : Int)]) (fun b => !x.testBit b.to) hl pV (pure1 (pure_set x)) (fun b hm => out_pure (x := x) (hb b hm))
  refine pure_of_call (pure2 pz (pure_set x)) (.bool _) (call_x forceT_ok mixed Tryz.func26 rfl (by decide +kernel) ?_)
  conv => whnf
  repeat ((first | refine And.intro ⟨rfl, by decide, rfl⟩ ?_ | refine ldX_eq rfl ?_ | refine callX_pure hc (pure2 pV (pure_fnc (pure1 (pure_set x)))) ?_ | refine And.intro rfl ?_); conv => whnf)
  exact .pure _ (.bool _)

theorem good_p {ga : FuncId} {x : Nat} {ch : List AV} {l : List Br} {φ : Bool} (h : ChB ch l) (hl : l.length < 4611686018427387904) (hb : ∀ b ∈ l, b.to < 64) (ha : PureSem Tryz.prog ga [.agg ch] (.bool φ)) :
    PureSem Tryz.prog 41 [.agg ch, .vp [.fn (.func ga) [] []] 0, .vp [.int .u64 ((x : Nat) : Int)] 0] (.bool (φ && touches x l)) := by
  have pz := h.pure
  have pA : Pure (.fn (.func ga) [] []) := pure_fnc (fun _ h => by simp at h)
  obtain ⟨a, g, c, rfl⟩ := h
  have pV := pL_of l c
  have pargs : ∀ w ∈ [AV.agg [.str a, .str g, .vs (l.map brV) c]], Pure w := fun w hw => by
    rcases List.mem_cons.1 hw with rfl | hw
    · exact pz
    · exact (fun _ h => by simp at h) w hw
  have hc := con_any_br (c := c) (r0 := [.int .u64 ((x : Nat) : Int)]) (fun b => x.testBit b.to) hl pV (pure1 (pure_set x)) (fun b hm => touch_pure (x := x) (hb b hm))
  refine pure_of_call (pure3 pz (pure_vp1 pA) (pure_set x)) (.bool _) (call_x forceT_ok mixed Tryz.func41 rfl (by decide +kernel) ?_)
  conv => whnf
  cases φ
  all_goals
    repeat ((first | refine And.intro ⟨rfl, by decide, rfl⟩ ?_ | refine ldX_eq rfl ?_ | refine callX_pure ha pargs ?_ | refine callX_pure hc (pure2 pV (pure_fnc (pure1 (pure_set x)))) ?_ | refine condX_t rfl ?_ | refine condX_f rfl ?_ | refine And.intro rfl ?_); conv => whnf)
  · exact .pure _ (.bool _)
  · show Frz _ (.bool (touches x l)) (.bool (true && touches x l))
    rw [Bool.true_and]
    exact .pure _ (.bool _)

theorem bad_p {ga : FuncId} {x : Nat} {ch : List AV} {l : List Br} {φ : Bool} (h : ChB ch l) (hl : l.length < 4611686018427387904) (hb : ∀ b ∈ l, b.to < 64) (ha : PureSem Tryz.prog ga [.agg ch] (.bool φ)) :
    PureSem Tryz.prog 43 [.agg ch, .vp [.fn (.func 41) [] [.vp [.fn (.func ga) [] []] 0, .vp [.int .u64 ((x : Nat) : Int)] 0]] 0] (.bool (!(φ && touches x l))) := by
  have pz := h.pure
  have hg := good_p (x := x) h hl hb ha
  have pA : Pure (.fn (.func ga) [] []) := pure_fnc (fun _ h => by simp at h)
  have pG : Pure (.fn (.func 41) [] [.vp [.fn (.func ga) [] []] 0, .vp [.int .u64 ((x : Nat) : Int)] 0]) := pure_fnc (pure2 (pure_vp1 pA) (pure_set x))
  obtain ⟨a, g, c, rfl⟩ := h
  refine pure_of_call (pure2 pz (pure_vp1 pG)) (.bool _) (call_x forceT_ok mixed Tryz.func43 rfl (by decide +kernel) ?_)
  conv => whnf
  repeat ((first | refine And.intro ⟨rfl, by decide, rfl⟩ ?_ | refine ldX_eq rfl ?_ | refine callX_pure hg (pure3 pz (pure_vp1 pA) (pure_set x)) ?_ | refine And.intro rfl ?_); conv => whnf)
  exact .pure _ (.bool _)

theorem good_s {ga : FuncId} {x y : Nat} {ch : List AV} {l : List Br} {φ : Bool} (h : ChB ch l) (hl : l.length < 4611686018427387904) (hb : ∀ b ∈ l, b.to < 64) (ha : PureSem Tryz.prog ga [.agg ch, .vp [.int .u64 ((y : Nat) : Int)] 0] (.bool φ)) :
    PureSem Tryz.prog 41 [.agg ch, .vp [.fn (.func ga) [] [.vp [.int .u64 ((y : Nat) : Int)] 0]] 0, .vp [.int .u64 ((x : Nat) : Int)] 0] (.bool (φ && touches x l)) := by
  have pz := h.pure
  have pA : Pure (.fn (.func ga) [] [.vp [.int .u64 ((y : Nat) : Int)] 0]) := pure_fnc (pure1 (pure_set y))
  obtain ⟨a, g, c, rfl⟩ := h
  have pV := pL_of l c
  have pargs : ∀ w ∈ [AV.agg [.str a, .str g, .vs (l.map brV) c], .vp [.int .u64 ((y : Nat) : Int)] 0], Pure w := fun w hw => by
    rcases List.mem_cons.1 hw with rfl | hw
    · exact pz
    · exact (pure1 (pure_set y)) w hw
  have hc := con_any_br (c := c) (r0 := [.int .u64 ((x : Nat) : Int)]) (fun b => x.testBit b.to) hl pV (pure1 (pure_set x)) (fun b hm => touch_pure (x := x) (hb b hm))
  refine pure_of_call (pure3 pz (pure_vp1 pA) (pure_set x)) (.bool _) (call_x forceT_ok mixed Tryz.func41 rfl (by decide +kernel) ?_)
  conv => whnf
  cases φ
  all_goals
    repeat ((first | refine And.intro ⟨rfl, by decide, rfl⟩ ?_ | refine ldX_eq rfl ?_ | refine callX_pure ha pargs ?_ | refine callX_pure hc (pure2 pV (pure_fnc (pure1 (pure_set x)))) ?_ | refine condX_t rfl ?_ | refine condX_f rfl ?_ | refine And.intro rfl ?_); conv => whnf)
  · exact .pure _ (.bool _)
  · show Frz _ (.bool (touches x l)) (.bool (true && touches x l))
    rw [Bool.true_and]
    exact .pure _ (.bool _)

theorem bad_s {ga : FuncId} {x y : Nat} {ch : List AV} {l : List Br} {φ : Bool} (h : ChB ch l) (hl : l.length < 4611686018427387904) (hb : ∀ b ∈ l, b.to < 64) (ha : PureSem Tryz.prog ga [.agg ch, .vp [.int .u64 ((y : Nat) : Int)] 0] (.bool φ)) :
    PureSem Tryz.prog 43 [.agg ch, .vp [.fn (.func 41) [] [.vp [.fn (.func ga) [] [.vp [.int .u64 ((y : Nat) : Int)] 0]] 0, .vp [.int .u64 ((x : Nat) : Int)] 0]] 0] (.bool (!(φ && touches x l))) := by
  have pz := h.pure
  have hg := good_s (x := x) h hl hb ha
  have pA : Pure (.fn (.func ga) [] [.vp [.int .u64 ((y : Nat) : Int)] 0]) := pure_fnc (pure1 (pure_set y))
  have pG : Pure (.fn (.func 41) [] [.vp [.fn (.func ga) [] [.vp [.int .u64 ((y : Nat) : Int)] 0]] 0, .vp [.int .u64 ((x : Nat) : Int)] 0]) := pure_fnc (pure2 (pure_vp1 pA) (pure_set x))
  obtain ⟨a, g, c, rfl⟩ := h
  refine pure_of_call (pure2 pz (pure_vp1 pG)) (.bool _) (call_x forceT_ok mixed Tryz.func43 rfl (by decide +kernel) ?_)
  conv => whnf
  repeat ((first | refine And.intro ⟨rfl, by decide, rfl⟩ ?_ | refine ldX_eq rfl ?_ | refine callX_pure hg (pure3 pz (pure_vp1 pA) (pure_set x)) ?_ | refine And.intro rfl ?_); conv => whnf)
  exact .pure _ (.bool _)

theorem members_pure {os : List Nat} {oc cc : Option Nat} {rows : List ChR} {x : Nat} (pM : Pure (.agg [.vs (osV os) oc, .vs (rowsV rows) cc])) :
    PureSem Tryz.prog 40 [.agg [.vs (osV os) oc, .vs (rowsV rows) cc], .int .u64 ((x : Nat) : Int)] (.fn (.func 58) [] [.vp [.vs (osV os) oc, .vs (rowsV rows) cc] 0, .vp [.int .u64 ((x : Nat) : Int)] 0]) := by
  have pv : Pure (.vp [.vs (osV os) oc, .vs (rowsV rows) cc] 0) := by
    cases pM with
    | agg _ h => exact .vp _ _ fun i hi => h i hi
  refine pure_of_call (pure2 pM (.int _ _)) (pure_fnc (pure2 pv (pure_set x))) (call_x forceT_ok mixed Tryz.func40 rfl (by decide +kernel) ?_)
  conv => whnf
  repeat ((first | refine And.intro ⟨rfl, by decide, rfl⟩ ?_); conv => whnf)
  refine .fn _ _ _ _ _ rfl rfl (fun i hi => by simp at hi) fun i hi hj => ?_
  match i, hi with
  | 0, _ =>
    refine .ptr 0 0 0 [[_, _]] false false _ rfl (by simp) rfl fun t h1 h2 => ?_
    cases pM with
    | agg _ h =>
      match t, h1 with
      | 0, _ => exact .pure _ (h 0 (by simp))
      | 1, _ => exact .pure _ (h 1 (by simp))
  | 1, _ =>
    refine .ptr 1 0 0 [[_]] false false _ rfl (by simp) rfl fun t h1 h2 => ?_
    match t, h1 with
    | 0, _ => exact .pure _ (.int _ _)

theorem all_states {os : List Nat} {oc cc : Option Nat} {rows : List ChR} (pM : Pure (.agg [.vs (osV os) oc, .vs (rowsV rows) cc])) (hn : os.length < 64) :
    PureSem Tryz.prog 25 [.agg [.vs (osV os) oc, .vs (rowsV rows) cc]] (.int .u64 ((allN os.length : Nat) : Int)) := by
  have hlr : (osV os).length = os.length := by simp [osV]
  refine pure_of_call (pure1 pM) (.int _ _) (call_x forceT_ok mixed Tryz.func25 rfl (by decide +kernel) ?_)
  conv => whnf
  repeat ((first | refine And.intro ⟨rfl, by decide, rfl⟩ ?_ | refine ldX_eq rfl ?_ | refine lenX_eq hlr ?_ | refine And.intro (Int.natCast_nonneg _) ?_); conv => whnf)
  refine And.intro rfl (wrapX_nat (allN os.length) (allE0 _ hn) (u64_wrap _ (allN_lt _ hn)) ?_)
  conv => whnf
  exact .pure _ (.int _ _)
end
end Go.Abs

namespace Go.Abs
noncomputable section
open Go.Proofs

def toOf (ch : List AV) : List Nat := match ch with
  | [_, _, .vs ns _] => ns.map fun r => match r with | [.int _ t, _] => t.toNat | _ => 0
  | _ => []
theorem toOf_eq {ch : List AV} {l : List Br} (h : ChB ch l) : toOf ch = l.map (·.to) := by
  obtain ⟨a, g, c, rfl⟩ := h
  simp [toOf, brV, Function.comp_def]
def touchesA (x : Nat) (ch : List AV) : Bool := (toOf ch).any fun t => x.testBit t
theorem touchesA_eq {x : Nat} {ch : List AV} {l : List Br} (h : ChB ch l) : touchesA x ch = touches x l := by
  unfold touchesA touches
  rw [toOf_eq h, List.any_map]; rfl
def staysA (x : Nat) (ch : List AV) : Bool := !((toOf ch).any fun t => !x.testBit t)
theorem staysA_eq {x : Nat} {ch : List AV} {l : List Br} (h : ChB ch l) : staysA x ch = stays x l := by
  unfold staysA stays
  rw [toOf_eq h, List.any_map]; rfl

structure GameOK (os : List Nat) (rows : List ChR) : Prop where
  states : os.length < 64
  width : rows.length = os.length
  count : ∀ r ∈ rows, r.1.length < 4611686018427387904
  cells : ∀ r ∈ rows, ∀ ch ∈ r.1, ∃ l, ChB ch l ∧ l.length < 4611686018427387904 ∧ ∀ b ∈ l, b.to < 64

def chsOf (rows : List ChR) (s : Nat) : List (List AV) := match rows[s]? with | some r => r.1 | none => []
def pulled (os : List Nat) (rows : List ChR) (φ : List AV → Bool) (player x s : Nat) : Bool :=
  if os.getD s 0 = player then (chsOf rows s).any fun ch => φ ch && touchesA x ch else !((chsOf rows s).any fun ch => !(φ ch && touchesA x ch))

def firstS (p : Nat → Bool) : Nat → Nat → Option Nat
  | _, 0 => none
  | s, k + 1 => if p s then some s else firstS p (s + 1) k
def growN (n : Nat) (pl : Nat → Nat → Bool) : Nat → Nat → Nat
  | 0, x => x
  | f + 1, x => match firstS (fun s => !x.testBit s && pl x s) 0 n with
    | none => x
    | some s => growN n pl f (x ||| 2 ^ s)
def outs (x : Nat) : Nat → Nat → Nat
  | _, 0 => 0
  | s, k + 1 => (if x.testBit s then 0 else 1) + outs x (s + 1) k

theorem firstS_some {p : Nat → Bool} : ∀ {k s t : Nat}, firstS p s k = some t → s ≤ t ∧ t < s + k ∧ p t = true
  | 0, _, _, h => by cases h
  | k + 1, s, t, h => by
    unfold firstS at h
    split at h
    · rename_i hp
      injection h with h; subst h
      exact ⟨Nat.le_refl _, by omega, hp⟩
    · obtain ⟨h1, h2, h3⟩ := firstS_some h
      exact ⟨by omega, by omega, h3⟩
theorem firstS_none {p : Nat → Bool} : ∀ {k s : Nat}, firstS p s k = none → ∀ t, s ≤ t → t < s + k → p t = false
  | 0, s, _, t, h1, h2 => by omega
  | k + 1, s, h, t, h1, h2 => by
    unfold firstS at h
    split at h
    · cases h
    · rename_i hp
      by_cases e : t = s
      · subst e; simpa using hp
      · exact firstS_none h t (by omega) (by omega)

theorem testBit_add (x s i : Nat) : (x ||| 2 ^ s).testBit i = (x.testBit i || decide (s = i)) := by
  rw [Nat.testBit_or, Nat.testBit_two_pow]

theorem outs_le (x : Nat) : ∀ k s, outs x s k ≤ k
  | 0, _ => Nat.le_refl _
  | k + 1, s => by
    unfold outs
    have := outs_le x k (s + 1)
    split <;> omega
theorem outs_add (x t : Nat) (ht : x.testBit t = false) : ∀ k s, outs (x ||| 2 ^ t) s k + (if s ≤ t ∧ t < s + k then 1 else 0) = outs x s k
  | 0, s => by
    rw [if_neg (by omega)]; rfl
  | k + 1, s => by
    have ih := outs_add x t ht k (s + 1)
    unfold outs
    rw [testBit_add]
    by_cases e : t = s
    · subst e
      rw [if_neg (by omega), Nat.add_zero] at ih
      have e1 : (if t ≤ t ∧ t < t + (k + 1) then 1 else 0) = 1 := if_pos ⟨Nat.le_refl _, by omega⟩
      rw [e1, ht, ih]
      simp
      omega
    · have hd : decide (t = s) = false := by simpa using e
      rw [hd, Bool.or_false]
      generalize (if x.testBit s then 0 else 1) = q
      by_cases h2 : s + 1 ≤ t ∧ t < s + 1 + k
      · rw [if_pos h2] at ih
        rw [if_pos ⟨by omega, by omega⟩]
        omega
      · rw [if_neg h2] at ih
        rw [if_neg (fun h => h2 ⟨by omega, by omega⟩)]
        omega
theorem outs_pos {x t : Nat} (ht : x.testBit t = false) : ∀ {k s}, s ≤ t → t < s + k → 0 < outs x s k
  | 0, s, h1, h2 => by omega
  | k + 1, s, h1, h2 => by
    unfold outs
    by_cases e : t = s
    · subst e; simp [ht]; omega
    · have := outs_pos ht (k := k) (s := s + 1) (by omega) (by omega)
      omega

theorem memV_cons {y : Nat} {p : Nat → Bool} : ∀ {k s : Nat} {v : List AV} {vs : List (List AV)}, (∀ t, t < s + k → p t = true → y.testBit t = true) → memV y s k = v :: vs →
    ∃ t j, v = [.int .i64 ((t : Nat) : Int)] ∧ s ≤ t ∧ t + 1 + j = s + k ∧ y.testBit t = true ∧ vs = memV y (t + 1) j ∧ firstS p s k = if p t then some t else firstS p (t + 1) j
  | 0, _, _, _, _, h => by cases h
  | k + 1, s, v, vs, hp, h => by
    unfold memV at h
    split at h
    · rename_i hb
      injection h with h1 h2
      exact ⟨s, k, h1.symm, Nat.le_refl _, by omega, hb, h2.symm, rfl⟩
    · rename_i hb
      obtain ⟨t, j, e1, e2, e3, e4, e5, e6⟩ := memV_cons (fun t ht => hp t (by omega)) h
      refine ⟨t, j, e1, by omega, by omega, e4, e5, ?_⟩
      have : p s = false := by
        cases hps : p s with
        | false => rfl
        | true => exact absurd (hp s (by omega) hps) hb
      rw [← e6]
      show (if p s then some s else firstS p (s + 1) k) = _
      rw [this]; rfl
theorem memV_nil {y : Nat} {p : Nat → Bool} : ∀ {k s : Nat}, (∀ t, t < s + k → p t = true → y.testBit t = true) → memV y s k = [] → firstS p s k = none
  | 0, _, _, _ => rfl
  | k + 1, s, hp, h => by
    unfold memV at h
    split at h
    · cases h
    · rename_i hb
      have : p s = false := by
        cases hps : p s with
        | false => rfl
        | true => exact absurd (hp s (by omega) hps) hb
      show (if p s then some s else firstS p (s + 1) k) = none
      rw [this]
      exact memV_nil (fun t ht => hp t (by omega)) h
end
end Go.Abs
