/-
  Steps to a law of this program: SDr4.
  Conditions: none.
-/
import Derived.Test.YtpdnijifmebnbaaGreatDoorB38
import Derived.Test.YtpdnijifmebnbaaGreatDoorB20
set_option linter.unusedVariables false
set_option linter.unusedSimpArgs false
set_option linter.unusedSectionVars false
namespace Go.Abs
noncomputable section
open Go.Proofs
set_option maxRecDepth 100000

def stayC (s : Nat) : Ch := ⟨[], 0, 1, 1, [⟨s, [49], 1, 1⟩], some 1⟩
theorem stay_ok {n s : Nat} (hs : s < n) : ChOK n (stayC s) where
  name := ⟨by simp [stayC], by simp [stayC]⟩
  gain := by show (0, 1) ∈ fracs; decide +kernel
  dvd := by show 1 ∣ 300; decide
  brs := by
    refine ⟨by show 0 < 1 ∧ 1 ≤ 100; decide, fun b hb => ?_, fun i hi => ?_, fun b hb => ?_, by simp [sumB, stayC], by show 1 ≤ 1 ∧ 1 ≤ n; omega⟩
    · rw [List.mem_singleton.1 hb]
      exact ⟨(by decide : [49] = qt 1 1), by show (1, 1) ∈ fracs; decide +kernel, (by decide : 1 ≤ 1), (by decide : 1 ∣ 1)⟩
    · have : i = 0 := by simp [stayC] at hi; exact hi
      subst this
      show (-1 : Int) < ((s : Nat) : Int)
      omega
    · rw [List.mem_singleton.1 hb]; exact hs
  dvds b hb := by rw [List.mem_singleton.1 hb]; show 1 ∣ 300; decide

def upd' (R : Nat → List Ch) (s : Nat) (l : List Ch) : Nat → List Ch := fun t => if t = s then l else R t
structure MS where
  R : Nat → List Ch
  ord : List Nat
def Dr.add (d : Dr) (z : MS) (p : Pk) : MS :=
  if (z.R (p.st % d.n)).length < 3 then ⟨upd' z.R (p.st % d.n) (z.R (p.st % d.n) ++ [d.cho p]), if z.R (p.st % d.n) = [] then z.ord ++ [p.st % d.n] else z.ord⟩ else z
def Dr.ms (d : Dr) (i : Nat) : MS := (d.picks.take i).foldl d.add ⟨fun _ => [], []⟩
theorem Dr.ms_succ (d : Dr) {i : Nat} (hi : i < d.picks.length) : d.ms (i + 1) = d.add (d.ms i) d.picks[i] := by
  unfold Dr.ms
  rw [List.take_succ_eq_append_getElem hi, List.foldl_append]
  rfl

structure MSOK (n : Nat) (z : MS) : Prop where
  ord : ∀ s ∈ z.ord, s < n ∧ z.R s ≠ []
  all : ∀ s, z.R s ≠ [] → s ∈ z.ord
  nod : z.ord.Nodup
  len : ∀ s, (z.R s).length ≤ 3
  chs : ∀ s, ∀ c ∈ z.R s, ChOK n c
theorem Dr.add_ok (d : Dr) {z : MS} (h : MSOK d.n z) (p : Pk) : MSOK d.n (d.add z p) := by
  unfold Dr.add
  have hs := Nat.mod_lt p.st d.n_pos
  generalize p.st % d.n = s at hs
  split
  · rename_i hl
    refine ⟨fun t ht => ?_, fun t ht => ?_, ?_, fun t => ?_, fun t c hc => ?_⟩
    · have hm : t = s ∨ t ∈ z.ord := by
        by_cases he : z.R s = []
        · simp only [he, if_true] at ht
          rcases List.mem_append.1 ht with h | h
          · exact .inr h
          · exact .inl (List.mem_singleton.1 h)
        · simp only [he, if_false] at ht; exact .inr ht
      simp only [upd']
      by_cases e : t = s
      · rw [if_pos e, e]; exact ⟨hs, by simp⟩
      · rw [if_neg e]
        rcases hm with h1 | h1
        · exact absurd h1 e
        · exact h.ord t h1
    · simp only [upd'] at ht
      by_cases he : z.R s = []
      · simp only [he, if_true]
        by_cases e : t = s
        · rw [e]; simp
        · rw [if_neg e] at ht; exact List.mem_append_left _ (h.all t ht)
      · simp only [he, if_false]
        by_cases e : t = s
        · rw [e]; exact h.all s he
        · rw [if_neg e] at ht; exact h.all t ht
    · by_cases he : z.R s = []
      · simp only [he, if_true]
        refine List.nodup_append.2 ⟨h.nod, by simp, fun a ha b hb e => ?_⟩
        rw [List.mem_singleton.1 hb] at e
        subst e
        exact (h.ord a ha).2 he
      · simp only [he, if_false]; exact h.nod
    · simp only [upd']
      by_cases e : t = s
      · rw [if_pos e]; simp; omega
      · rw [if_neg e]; exact h.len t
    · simp only [upd'] at hc
      by_cases e : t = s
      · rw [if_pos e] at hc
        rcases List.mem_append.1 hc with h1 | h1
        · exact h.chs s c h1
        · rw [List.mem_singleton.1 h1]; exact d.cho_ok p
      · rw [if_neg e] at hc; exact h.chs t c hc
  · exact h
theorem Dr.ms_ok (d : Dr) : ∀ i : Nat, i ≤ d.picks.length → MSOK d.n (d.ms i)
  | 0, _ => ⟨fun s hs => by simp [Dr.ms] at hs, fun s hs => by simp [Dr.ms] at hs, by simp [Dr.ms], fun s => by simp [Dr.ms], fun s c hc => by simp [Dr.ms] at hc⟩
  | i + 1, hi => by
    rw [d.ms_succ hi]
    exact d.add_ok (d.ms_ok i (Nat.le_of_succ_le hi)) _

def slotA (B k : Nat) (z : MS) (s : Nat) : AV :=
  match z.R s with
  | [] => if s < k then .vs [chV (stayC s)] (some 1) else .nils
  | c :: l => .ms (z.ord.idxOf s + B) 0 (c :: l).length none
def slots (B k n : Nat) (z : MS) : List (List AV) := (List.range n).map fun s => [slotA B k z s]
def tailB (z : MS) : List (Option Blk) := z.ord.map fun s => some (.rows ((z.R s).map chV) true false)
theorem slots_len (B k n : Nat) (z : MS) : (slots B k n z).length = n := by simp [slots]
theorem slots_at {B k n s : Nat} {z : MS} (hs : s < n) : (slots B k n z)[0 + s]? = some [slotA B k z s] := by simp [slots, hs]
theorem slots_ext {B B' k k' n : Nat} {z z' : MS} {s : Nat} {x : AV} (hx : x = slotA B' k' z' s) (h : ∀ t, t < n → t ≠ s → slotA B k z t = slotA B' k' z' t) : (slots B k n z).set (0 + s) [x] = slots B' k' n z' := by
  refine List.ext_getElem (by simp [slots]) fun t h1 h2 => ?_
  have ht : t < n := by simpa [slots] using h2
  rw [List.getElem_set]
  split
  · rename_i e
    rw [Nat.zero_add] at e
    subst e
    simp [slots, hx]
  · rename_i e
    rw [Nat.zero_add] at e
    simp [slots, h t ht (fun e' => e e'.symm)]

theorem idxOf_app {l : List Nat} {a b : Nat} (h : a ∈ l) : (l ++ [b]).idxOf a = l.idxOf a := by
  rw [List.idxOf_append, if_pos h]
theorem tailB_len (z : MS) : (tailB z).length = z.ord.length := by simp [tailB]
theorem tailB_at {z : MS} {s : Nat} (hs : s ∈ z.ord) : (tailB z)[z.ord.idxOf s]? = some (some (.rows ((z.R s).map chV) true false)) := by
  have hi := List.idxOf_lt_length_of_mem hs
  simp only [tailB, List.getElem?_map, List.getElem?_eq_getElem hi, Option.map_some]
  rw [List.getElem_idxOf hi]

theorem slots_nil {B n s : Nat} {z : MS} (hs : s < n) (h : z.R s = []) : (slots B 0 n z)[0 + s]? = some [.nils] := by
  rw [slots_at hs]; simp [slotA, h]
theorem slots_some {B k n s : Nat} {z : MS} {c : Ch} {l : List Ch} (hs : s < n) (h : z.R s = c :: l) : (slots B k n z)[0 + s]? = some [.ms (z.ord.idxOf s + B) 0 (c :: l).length none] := by
  rw [slots_at hs]; simp only [slotA, h]
theorem chV_okc (L : List Ch) : ∀ r ∈ L.map chV, r.length = 3 ∧ r.all okc = true := fun r hr => by
  obtain ⟨b, _, rfl⟩ := List.mem_map.1 hr
  exact ⟨rfl, rfl⟩
theorem add_none {d : Dr} {z : MS} {p : Pk} {s : Nat} (hp : p.st % d.n = s) (hl : ¬ (z.R s).length < 3) : d.add z p = z := by
  unfold Dr.add
  rw [hp, if_neg hl]

theorem add_new {d : Dr} {z : MS} {p : Pk} {B : Nat} (h : MSOK d.n z) {s : Nat} (hp : p.st % d.n = s) (hn : z.R s = []) :
    tailB (d.add z p) = tailB z ++ [some (.rows [chV (d.cho p)] true false)] ∧ slotA B 0 (d.add z p) s = .ms (z.ord.length + B) 0 1 none ∧ ∀ t, t ≠ s → slotA B 0 z t = slotA B 0 (d.add z p) t := by
  have hno : s ∉ z.ord := fun hm => (h.ord s hm).2 hn
  have e : d.add z p = ⟨upd' z.R s [d.cho p], z.ord ++ [s]⟩ := by
    unfold Dr.add
    rw [hp, if_pos (by rw [hn]; decide), if_pos hn, hn]
    rfl
  rw [e]
  refine ⟨?_, ?_, fun t ht => ?_⟩
  · simp only [tailB, List.map_append, List.map_cons, List.map_nil]
    congr 1
    · refine List.map_congr_left fun t ht => ?_
      have : t ≠ s := fun e => hno (e ▸ ht)
      simp [upd', this]
    · simp [upd']
  · simp only [slotA, upd', if_true]
    rw [List.idxOf_append, if_neg hno]
    simp
  · simp only [slotA, upd', if_neg ht]
    cases hr : z.R t with
    | nil => rfl
    | cons c l =>
      simp only
      rw [idxOf_app (h.all t (by rw [hr]; simp))]
theorem add_more {d : Dr} {z : MS} {p : Pk} {B : Nat} (h : MSOK d.n z) {s : Nat} (hp : p.st % d.n = s) (hn : z.R s ≠ []) (hl : (z.R s).length < 3) :
    tailB (d.add z p) = (tailB z).set (z.ord.idxOf s) (some (.rows ((z.R s).map chV ++ [chV (d.cho p)]) true false)) ∧ slotA B 0 (d.add z p) s = .ms (z.ord.idxOf s + B) 0 ((z.R s).length + 1) none ∧ ∀ t, t ≠ s → slotA B 0 z t = slotA B 0 (d.add z p) t := by
  have e : d.add z p = ⟨upd' z.R s (z.R s ++ [d.cho p]), z.ord⟩ := by
    unfold Dr.add
    rw [hp, if_pos hl, if_neg hn]
  have hm := h.all s hn
  rw [e]
  refine ⟨?_, ?_, fun t ht => ?_⟩
  · refine List.ext_getElem (by simp [tailB]) fun i h1 h2 => ?_
    have hi : i < z.ord.length := by simpa [tailB] using h1
    rw [List.getElem_set]
    simp only [tailB, List.getElem_map]
    split
    · rename_i hx
      have : z.ord[i] = s := by subst hx; exact List.getElem_idxOf hi
      rw [this]
      simp [upd']
    · rename_i hx
      have : z.ord[i] ≠ s := fun hs => hx (by
        subst hs
        exact h.nod.idxOf_getElem i hi)
      simp [upd', this]
  · simp only [slotA, upd', if_true]
    cases hr : z.R s with
    | nil => exact absurd hr hn
    | cons c l => simp
  · simp only [slotA, upd', if_neg ht]

def Dr.ownB (d : Dr) (k : Nat) : Bool := IntKind.u8.wrap ((BitVec.ofInt IntKind.u8.bits (((d.ow : Nat) : Int).fdiv (2 ^ min ((k : Nat) : Int).toNat IntKind.u8.bits)) &&& BitVec.ofInt IntKind.u8.bits 1).toNat) == 1
def Dr.own (d : Dr) (s : Nat) : Nat := if d.ownB s = true then 1 else 0
def ownL (d : Dr) (k : Nat) : List (List AV) := osV ((List.range d.n).map fun s => if s < k then d.own s else 0)
theorem ownL_at {d : Dr} {k : Nat} (hk : k < d.n) : (ownL d k)[0 + k]? = some [.int .i64 ((0 : Nat) : Int)] := by simp [ownL, osV, hk]
theorem ownL_t {d : Dr} {k : Nat} (h : d.ownB k = true) : (ownL d k).set (0 + k) [.int .i64 1] = ownL d (k + 1) := by
  refine List.ext_getElem (by simp [ownL, osV]) fun i h1 h2 => ?_
  rw [List.getElem_set]
  by_cases e : 0 + k = i
  · rw [if_pos e]
    have : i = k := by omega
    subst this
    simp [ownL, osV, Dr.own, h]
  · rw [if_neg e]
    by_cases hi : i < k
    · have : i < k + 1 := by omega
      simp [ownL, osV, hi, this]
    · have : ¬ i < k + 1 := by omega
      simp [ownL, osV, hi, this]
theorem ownL_f {d : Dr} {k : Nat} (h : d.ownB k = false) : ownL d k = ownL d (k + 1) := by
  refine List.ext_getElem (by simp [ownL, osV]) fun i h1 h2 => ?_
  by_cases e : k = i
  · subst e
    simp [ownL, osV, Dr.own, h]
  · by_cases hi : i < k
    · have : i < k + 1 := by omega
      simp [ownL, osV, hi, this]
    · have : ¬ i < k + 1 := by omega
      simp [ownL, osV, hi, this]
theorem ownL_zero (d : Dr) : List.replicate d.n [AV.int .i64 0] = ownL d 0 := by
  refine List.ext_getElem (by simp [ownL, osV]) fun i h1 h2 => by simp [ownL, osV]
theorem ownL_pure (d : Dr) (k : Nat) : ∀ r ∈ ownL d k, ∀ x ∈ r, Pure x := pureOs
theorem slots_zero (d : Dr) (B : Nat) : List.replicate d.n [AV.nils] = slots B 0 d.n (d.ms 0) := by
  refine List.ext_getElem (by simp [slots]) fun i h1 h2 => by simp [slots, slotA, Dr.ms]
theorem slots0_pure (d : Dr) (B : Nat) : ∀ r ∈ slots B 0 d.n (d.ms 0), ∀ x ∈ r, Pure x := fun r hr x hx => by
  rw [← slots_zero, List.mem_replicate] at hr
  rw [hr.2] at hx
  rw [List.mem_singleton.1 hx]; exact .nils
theorem pure_nils2 : ∀ x ∈ [AV.nils, AV.nils], Pure x := fun x hx => by
  simp only [List.mem_cons, List.not_mem_nil, or_false] at hx
  rcases hx with rfl | rfl <;> exact .nils
theorem bren_row2 {σ : Nat → Nat} {N : Nat} {g fz : Bool} {i j : Nat} {c e : Option Nat} (a b l k : Nat) : BRenF σ N (some (.rows [[.ms a i l c, .ms b j k e]] g fz)) (some (.rows [[.ms (σ a) i l c, .ms (σ b) j k e]] g fz)) := by
  refine .rows _ _ _ _ rfl (fun i hi hj => ?_) fun i hi hj t h1 h2 => ?_
  · match i, hi with
    | 0, _ => rfl
  · match i, hi with
    | 0, _ =>
      match t, h1 with
      | 0, _ => exact .ms _ _ _ _
      | 1, _ => exact .ms _ _ _ _

def Dr.m (d : Dr) : MS := d.ms (min d.picks.length 20)
def Dr.row (d : Dr) (s : Nat) : List Ch × Option Nat := match d.m.R s with
  | [] => ([stayC s], some 1)
  | c :: l => (c :: l, none)
def Dr.os (d : Dr) : List Nat := (List.range d.n).map d.own
def Dr.rows (d : Dr) : List (List Ch × Option Nat) := (List.range d.n).map d.row

theorem ownL_end (d : Dr) : ownL d d.n = osV d.os := by
  unfold ownL Dr.os
  congr 1
  exact List.map_congr_left fun s hs => by rw [if_pos (List.mem_range.1 hs)]
theorem slots_nilk {B n s : Nat} {z : MS} (hs : s < n) (h : z.R s = []) : (slots B s n z)[0 + s]? = some [.nils] := by
  rw [slots_at hs]; simp [slotA, h]
theorem slots_stay {B n s : Nat} {z : MS} (h : z.R s = []) : (slots B s n z).set (0 + s) [.vs [chV (stayC s)] (some 1)] = slots B (s + 1) n z :=
  slots_ext (by simp [slotA, h]) fun t _ hts => by
    simp only [slotA]
    split
    · by_cases e : t < s
      · rw [if_pos e, if_pos (by omega)]
      · rw [if_neg e, if_neg (by omega)]
    · rfl
theorem slots_keep {B n s : Nat} {z : MS} (h : z.R s ≠ []) : slots B s n z = slots B (s + 1) n z := by
  unfold slots
  refine List.map_congr_left fun t _ => ?_
  congr 1
  simp only [slotA]
  split
  · rename_i hr
    have : t ≠ s := fun e => h (e ▸ hr)
    by_cases e : t < s
    · rw [if_pos e, if_pos (by omega)]
    · rw [if_neg e, if_neg (by omega)]
  · rfl
theorem tail_blk5 {b0 b1 b2 b3 b4 : Option Blk} {z : MS} {s : Nat} (hs : s ∈ z.ord) : Heap.blk? (Heap.mk (b0 :: b1 :: b2 :: b3 :: b4 :: tailB z) []) (z.ord.idxOf s + 5) = some (.rows ((z.R s).map chV) true false) := by
  show ((tailB z)[z.ord.idxOf s]?).join = _
  rw [tailB_at hs]; rfl
theorem tail_blk7 {b0 b1 b2 b3 b4 b5 b6 : Option Blk} {z : MS} {s : Nat} (hs : s ∈ z.ord) : Heap.blk? (Heap.mk (b0 :: b1 :: b2 :: b3 :: b4 :: b5 :: b6 :: tailB z) []) (z.ord.idxOf s + 7) = some (.rows ((z.R s).map chV) true false) := by
  show ((tailB z)[z.ord.idxOf s]?).join = _
  rw [tailB_at hs]; rfl
theorem chVs_pure (L : List Ch) : ∀ r ∈ L.map chV, ∀ x ∈ r, Pure x := fun r hr x hx => by
  obtain ⟨c, _, rfl⟩ := List.mem_map.1 hr
  exact chV_pure c x hx
theorem frz_slots {d : Dr} {h : Heap} {b B : Nat} {g fz : Bool} (hb : h.blk? b = some (.rows (slots B d.n d.n d.m) g fz)) (ht : ∀ s ∈ d.m.ord, h.blk? (d.m.ord.idxOf s + B) = some (.rows ((d.m.R s).map chV) true false)) (hz : MSOK d.n d.m) :
    Frz h (.ms b 0 d.n (some d.n)) (.vs (rowsV (rowsC d.rows)) (some d.n)) := by
  have hl : (rowsV (rowsC d.rows)).length = d.n := by simp [rowsV, rowsC, Dr.rows]
  refine .ms b 0 d.n _ _ g fz _ hb hl (by rw [slots_len]; omega) (fun t h1 h2 => ?_) fun t h1 h2 j h3 h4 => ?_
  · simp [rowsV, rowsC, slots]
  · have htn : t < d.n := by omega
    have e1 : (slots B d.n d.n d.m)[0 + t] = [slotA B d.n d.m t] := by simp [slots]
    have e2 : (rowsV (rowsC d.rows))[t] = [.vs ((d.row t).1.map chV) (d.row t).2] := by simp [rowsV, rowsC, Dr.rows]
    have hj : j = 0 := by rw [e2] at h3; simp at h3; exact h3
    subst hj
    have e3 : ((slots B d.n d.n d.m)[0 + t])[0] = slotA B d.n d.m t := by simp [slots]
    have e4 : ((rowsV (rowsC d.rows))[t])[0] = .vs ((d.row t).1.map chV) (d.row t).2 := by simp [rowsV, rowsC, Dr.rows]
    rw [e3, e4]
    cases hr : d.m.R t with
    | nil =>
      have ea : slotA B d.n d.m t = .vs [chV (stayC t)] (some 1) := by simp [slotA, hr, htn]
      have eb : d.row t = ([stayC t], some 1) := by simp [Dr.row, hr]
      rw [ea, eb]
      refine .pure _ (.vs _ _ fun i hi k hk => ?_)
      have : ([chV (stayC t)][i]'hi)[k] ∈ [chV (stayC t)][i]'hi := List.getElem_mem _
      exact chVs_pure [stayC t] _ (List.getElem_mem hi) _ this
    | cons c l =>
      have ea : slotA B d.n d.m t = .ms (d.m.ord.idxOf t + B) 0 (c :: l).length none := by simp only [slotA, hr]
      have eb : d.row t = (c :: l, none) := by simp [Dr.row, hr]
      rw [ea, eb]
      have hm := hz.all t (by rw [hr]; simp)
      have hbt := ht t hm
      rw [hr] at hbt
      exact frz_grown hbt (chVs_pure _) (by simp)
theorem model_frz {d : Dr} {h : Heap} {a b B : Nat} {g fz g' fz' : Bool} (ha : h.blk? a = some (.rows (ownL d d.n) g' fz')) (hb : h.blk? b = some (.rows (slots B d.n d.n d.m) g fz)) (ht : ∀ s ∈ d.m.ord, h.blk? (d.m.ord.idxOf s + B) = some (.rows ((d.m.R s).map chV) true false)) (hz : MSOK d.n d.m) :
    Frz h (.agg [.ms a 0 d.n (some d.n), .ms b 0 d.n (some d.n)]) (.agg (modV d.os (some d.n) d.rows (some d.n))) := by
  refine .agg _ _ rfl fun i hi => ?_
  match i, hi with
  | 0, _ => intro _; rw [ownL_end] at ha; exact frz_grown ha pureOs (by simp [osV, Dr.os])
  | 1, _ => intro _; exact frz_slots hb ht hz
end
end Go.Abs
