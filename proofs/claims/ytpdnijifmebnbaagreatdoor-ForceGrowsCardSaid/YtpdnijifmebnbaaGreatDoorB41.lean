/-
  Steps to a law of this program: SDr7.
  Conditions: none.
-/
import Derived.Test.YtpdnijifmebnbaaGreatDoorB40
set_option linter.unusedVariables false
set_option linter.unusedSimpArgs false
set_option linter.unusedSectionVars false
namespace Go.Abs
noncomputable section
open Go.Proofs
set_option maxRecDepth 100000

def slotC (k : Nat) (z : MS) (s : Nat) : AV :=
  match z.R s with
  | [] => .vs [chV (stayC s)] (some 1)
  | c :: l => if s < k then .ms (z.ord.idxOf s + 7) 0 1 (some 1) else .ms (z.ord.idxOf s + 7) 0 (c :: l).length none
def slotsC (k n : Nat) (z : MS) : List (List AV) := (List.range n).map fun s => [slotC k z s]
theorem slotsC_zero (n : Nat) (z : MS) : slots 7 n n z = slotsC 0 n z := by
  unfold slots slotsC
  refine List.map_congr_left fun s hs => ?_
  have := List.mem_range.1 hs
  congr 1
  unfold slotA slotC
  cases hr : z.R s with
  | nil => simp [this]
  | cons c l => simp
theorem slotsC_at {k n s : Nat} {z : MS} (hs : s < n) : (slotsC k n z)[0 + s]? = some [slotC k z s] := by simp [slotsC, hs]
theorem slotsC_set {k n : Nat} {z : MS} {x : AV} (hx : x = slotC (k + 1) z k) : (slotsC k n z).set (0 + k) [x] = slotsC (k + 1) n z := by
  refine List.ext_getElem (by simp [slotsC]) fun t h1 h2 => ?_
  rw [List.getElem_set]
  split
  · rename_i e
    rw [Nat.zero_add] at e
    subst e
    simp [slotsC, hx]
  · rename_i e
    rw [Nat.zero_add] at e
    simp only [slotsC, List.getElem_map, List.getElem_range]
    congr 1
    unfold slotC
    split
    · rfl
    · by_cases h : t < k
      · rw [if_pos h, if_pos (by omega)]
      · rw [if_neg h, if_neg (by omega)]
def Dr.first (d : Dr) (s : Nat) : List Ch × Option Nat := ((d.row s).1.take 1, some 1)
def Dr.rows1 (d : Dr) : List (List Ch × Option Nat) := (List.range d.n).map d.first
theorem end_blk {b0 b1 b2 b3 b4 b5 b6 : Option Blk} {x : Blk} {z : MS} : Heap.blk? (Heap.mk (b0 :: b1 :: b2 :: b3 :: b4 :: b5 :: b6 :: (tailB z ++ [some x])) []) (z.ord.length + 7) = some x := by
  show ((tailB z ++ [some x])[z.ord.length]?).join = _
  rw [← tailB_len]; simp
theorem mid_blk {b0 b1 b2 b3 b4 b5 b6 : Option Blk} {x : Blk} {z : MS} {s : Nat} (hs : s ∈ z.ord) : Heap.blk? (Heap.mk (b0 :: b1 :: b2 :: b3 :: b4 :: b5 :: b6 :: (tailB z ++ [some x])) []) (z.ord.idxOf s + 7) = some (.rows ((z.R s).map chV) true false) := by
  show ((tailB z ++ [some x])[z.ord.idxOf s]?).join = _
  rw [List.getElem?_append_left (by rw [tailB_len]; exact List.idxOf_lt_length_of_mem hs), tailB_at hs]; rfl
theorem frz_part {h : Heap} {b : Nat} {es : List (List AV)} {g fz : Bool} {c : Option Nat} (hb : h.blk? b = some (.rows es g fz)) (hp : ∀ r ∈ es, ∀ x ∈ r, Pure x) (k : Nat) (hl : k ≤ es.length) : Frz h (.ms b 0 k c) (.vs (es.take k) c) :=
  .ms b 0 k c es g fz (es.take k) hb (by simp; omega) (by omega) (fun t ht hr => by simp) fun t ht hr j h1 h2 => by
    have e : es[0 + t][j] = (es.take k)[t][j] := by simp
    rw [e]
    exact .pure _ (hp _ (List.mem_of_mem_take (List.getElem_mem ht)) _ (List.getElem_mem h1))
theorem frz_slotsC {d : Dr} {h : Heap} {b : Nat} {g fz : Bool} (hb : h.blk? b = some (.rows (slotsC d.n d.n d.m) g fz)) (ht : ∀ s ∈ d.m.ord, h.blk? (d.m.ord.idxOf s + 7) = some (.rows ((d.m.R s).map chV) true false)) (hz : MSOK d.n d.m) :
    Frz h (.ms b 0 d.n (some d.n)) (.vs (rowsV (rowsC d.rows1)) (some d.n)) := by
  have hl : (rowsV (rowsC d.rows1)).length = d.n := by simp [rowsV, rowsC, Dr.rows1]
  refine .ms b 0 d.n _ _ g fz _ hb hl (by simp [slotsC]) (fun t h1 h2 => ?_) fun t h1 h2 j h3 h4 => ?_
  · simp [rowsV, rowsC, slotsC]
  · have htn : t < d.n := by omega
    have e2 : (rowsV (rowsC d.rows1))[t] = [.vs ((d.first t).1.map chV) (d.first t).2] := by simp [rowsV, rowsC, Dr.rows1]
    have hj : j = 0 := by rw [e2] at h3; simp at h3; exact h3
    subst hj
    have e3 : ((slotsC d.n d.n d.m)[0 + t])[0] = slotC d.n d.m t := by simp [slotsC]
    have e4 : ((rowsV (rowsC d.rows1))[t])[0] = .vs ((d.first t).1.map chV) (d.first t).2 := by simp [rowsV, rowsC, Dr.rows1]
    rw [e3, e4]
    cases hr : d.m.R t with
    | nil =>
      have ea : slotC d.n d.m t = .vs [chV (stayC t)] (some 1) := by simp [slotC, hr]
      have eb : d.first t = ([stayC t], some 1) := by simp [Dr.first, Dr.row, hr]
      rw [ea, eb]
      refine .pure _ (.vs _ _ fun i hi k hk => ?_)
      have : ([chV (stayC t)][i]'hi)[k] ∈ [chV (stayC t)][i]'hi := List.getElem_mem _
      exact chVs_pure [stayC t] _ (List.getElem_mem hi) _ this
    | cons c l =>
      have ea : slotC d.n d.m t = .ms (d.m.ord.idxOf t + 7) 0 1 (some 1) := by simp only [slotC, hr, if_pos htn]
      have eb : d.first t = ([c], some 1) := by simp [Dr.first, Dr.row, hr]
      rw [ea, eb]
      have hm := hz.all t (by rw [hr]; simp)
      have hbt := ht t hm
      rw [hr] at hbt
      exact frz_part hbt (chVs_pure _) 1 (by simp)
theorem chain_frz {d : Dr} {h : Heap} {a b : Nat} {g fz g' fz' : Bool} (ha : h.blk? a = some (.rows (ownL d d.n) g' fz')) (hb : h.blk? b = some (.rows (slotsC d.n d.n d.m) g fz)) (ht : ∀ s ∈ d.m.ord, h.blk? (d.m.ord.idxOf s + 7) = some (.rows ((d.m.R s).map chV) true false)) (hz : MSOK d.n d.m) :
    Frz h (.agg [.ms a 0 d.n (some d.n), .ms b 0 d.n (some d.n)]) (.agg (modV d.os (some d.n) d.rows1 (some d.n))) := by
  refine .agg _ _ rfl fun i hi => ?_
  match i, hi with
  | 0, _ => intro _; rw [ownL_end] at ha; exact frz_grown ha pureOs (by simp [osV, Dr.os])
  | 1, _ => intro _; exact frz_slotsC hb ht hz

theorem fa_one {H : Heap} {b : Nat} {u v : AV} (hb : H.blk? b = some (.rows [[u, v]] false false)) : fieldAddrA (tabL refT) H 36 (.ptr b 0 0) 1 = some (.ptr b 0 1) :=
  (show fieldAddrA (tabL refT) H 36 (.ptr b 0 0) 1 = (match H.blk? b with | some (.rows rs _ _) => (match rs[0]? with | some row => if Nat.blt (0 + 1) row.length then some (.ptr b 0 (0 + 1)) else none | none => none) | _ => none) from rfl).trans (by rw [hb]; rfl)

set_option maxHeartbeats 8000000 in
theorem dchain_pure {d : Dr} {pk : AV} (hd : DrOK d) (hp : PicksV d.picks pk) :
    PureSem Tryz.prog 17 [.agg (drV d pk)] (.agg (modV d.os (some d.n) d.rows1 (some d.n))) := by
  obtain ⟨PV, hPV⟩ : ∃ v, v = pk := ⟨_, rfl⟩
  have hkc := okc_drV hp
  have hn0 := d.n_pos
  have hn5 := d.n_le
  have pD := pure_dr hp
  have hzm : MSOK d.n d.m := d.ms_ok _ (Nat.min_le_left _ _)
  have hmc := model_call hd hp
  have hp2 := hp
  obtain ⟨ps, hps⟩ : ∃ ps, d.picks = ps := ⟨_, rfl⟩
  rw [hps] at hp2
  rcases hp2 with _ | ⟨_, c⟩
  all_goals
    letI : FH := fhHead
    refine pure_of_call (pure1 pD) (pure_model ..) (call_x refT_ok mixed Tryz.func17 rfl (by decide +kernel) ?_)
    conv => whnf
    repeat ((first | refine And.intro ⟨rfl, by decide, hkc⟩ ?_ | refine And.intro ⟨rfl, by decide, rfl⟩ ?_ | refine And.intro ⟨by decide, rfl⟩ ?_ | refine ldX_eq rfl ?_ | refine And.intro rfl ?_); conv => whnf)
    refine callX_of (hmc.mono fun r h' hq => ?_)
    obtain ⟨rfl, rfl⟩ := hq
    conv => whnf
    repeat ((first | refine And.intro ⟨by decide, rfl⟩ ?_ | refine And.intro rfl ?_); conv => whnf)
    generalize hq : Heap.blk? _ _ = q
    obtain rfl := hq.symm.trans (blk_last (some (.rows [drV d PV] false false) :: some (.rows [[.nils, .nils]] false false) :: some (.rows [drV d PV] false false) :: some (.rows [[.ms 4 0 d.n (some d.n), .ms 5 0 d.n (some d.n)]] false false) :: some (.rows (ownL d d.n) false false) :: some (.rows (slots 7 d.n d.n d.m) false false) :: some (.rows [[.ms 4 0 d.n (some d.n), .ms 5 0 d.n (some d.n)]] false false) :: tailB d.m) [] _)
    conv => whnf
    refine stX_box rfl ?_
    conv => whnf
    repeat ((first | refine And.intro rfl ?_); conv => whnf)
    refine loop_p refT_ok mixed 25 (fun k : Nat => d.n - k) (fun k => k ≤ d.n) (fun k => [(2, .ptr 1 0 0), (3, .ptr (d.m.ord.length + 7) 0 0), (4, .int .i64 ((k : Nat) : Int))]) (fun k => Heap.mk (some (.rows [drV d PV] false false) :: some (.rows [[.nils, .nils]] false false) :: some (.rows [drV d PV] false false) :: some (.rows [[.ms 4 0 d.n (some d.n), .ms 5 0 d.n (some d.n)]] false false) :: some (.rows (ownL d d.n) false false) :: some (.rows (slotsC k d.n d.m) false false) :: some (.rows [[.ms 4 0 d.n (some d.n), .ms 5 0 d.n (some d.n)]] false false) :: (tailB d.m ++ [some (Blk.rows [[.ms 4 0 d.n (some d.n), .ms 5 0 d.n (some d.n)]] false false)])) []) ?_ 0 _ (Nat.zero_le _) ?_ rfl ⟨rfl, ?_, rfl, trivial⟩
    · rintro k g2 i1
      replace i1 : k ≤ d.n := i1
      conv => whnf
      generalize hq : fieldAddrA _ _ _ _ _ = q
      obtain rfl := hq.symm.trans (fa_one end_blk)
      conv => whnf
      rw [end_blk]
      conv => whnf
      repeat ((first | refine ldX_eq rfl ?_ | refine lenX_eq rfl ?_ | refine And.intro rfl ?_); conv => whnf)
      refine condX_dec (fun h5 => ?_) (fun h5 => ?_) <;> conv => whnf
      · have hk : k < d.n := by have : ((k : Nat) : Int) < ((d.n : Nat) : Int) := h5; omega
        refine Or.inl ⟨by decide +kernel, ?_⟩
        conv => whnf
        cases hr : d.m.R k with
        | nil =>
          have rk : (slotsC k d.n d.m)[0 + k]? = some [.vs [chV (stayC k)] (some 1)] := by rw [slotsC_at hk]; simp [slotC, hr]
          have hx : AV.vs [chV (stayC k)] (some 1) = slotC (k + 1) d.m k := by simp [slotC, hr]
          repeat ((first | refine ⟨_, _, fun K hK => (by (conv => whnf); first | exact hK | exact ldX_eq rfl hK | (generalize hq : fieldAddrA _ _ _ _ _ = q; obtain rfl := hq.symm.trans (fa_one end_blk); (conv => whnf); exact hK) | (rw [end_blk]; (conv => whnf); exact ldX_eq rfl hK) | exact idmX_eq k rfl hk (by decide) rk rfl hK | exact ldX_eq (r := .vs [chV (stayC k)] (some 1)) (by rw [rk]; rfl) hK | exact ⟨rfl, ⟨(by decide : (0 : Int) ≤ 0), (by decide : (0 : Int) ≤ 1), (by decide : (1 : Int) ≤ 1), (by decide : (1 : Int) ≤ 1)⟩, fun r hr => by rw [List.mem_singleton.1 hr]; rfl, hK⟩ | exact stX_eq (rs' := slotsC (k + 1) d.n d.m) rk rfl (slotsC_set hx) hK | (refine stX_box rfl ?_; (conv => whnf); exact hK)), Or.inl ⟨rfl, (by repeat' (first | exact True.intro | refine And.intro ?_ ?_ | exact Or.inl (by decide +kernel) | decide +kernel | exact Or.inr (fun K hK => (by (conv => whnf); first | exact hK | exact ldX_eq rfl hK | (generalize hq : fieldAddrA _ _ _ _ _ = q; obtain rfl := hq.symm.trans (fa_one end_blk); (conv => whnf); exact hK) | (rw [end_blk]; (conv => whnf); exact ldX_eq rfl hK) | exact idmX_eq k rfl hk (by decide) rk rfl hK | exact ldX_eq (r := .vs [chV (stayC k)] (some 1)) (by rw [rk]; rfl) hK | exact ⟨rfl, ⟨(by decide : (0 : Int) ≤ 0), (by decide : (0 : Int) ≤ 1), (by decide : (1 : Int) ≤ 1), (by decide : (1 : Int) ≤ 1)⟩, fun r hr => by rw [List.mem_singleton.1 hr]; rfl, hK⟩ | exact stX_eq (rs' := slotsC (k + 1) d.n d.m) rk rfl (slotsC_set hx) hK | (refine stX_box rfl ?_; (conv => whnf); exact hK))))), ?_⟩⟩ | refine ⟨_, _, fun K hK => (by (conv => whnf); first | exact hK | exact ldX_eq rfl hK | (generalize hq : fieldAddrA _ _ _ _ _ = q; obtain rfl := hq.symm.trans (fa_one end_blk); (conv => whnf); exact hK) | (rw [end_blk]; (conv => whnf); exact ldX_eq rfl hK) | exact idmX_eq k rfl hk (by decide) rk rfl hK | exact ldX_eq (r := .vs [chV (stayC k)] (some 1)) (by rw [rk]; rfl) hK | exact ⟨rfl, ⟨(by decide : (0 : Int) ≤ 0), (by decide : (0 : Int) ≤ 1), (by decide : (1 : Int) ≤ 1), (by decide : (1 : Int) ≤ 1)⟩, fun r hr => by rw [List.mem_singleton.1 hr]; rfl, hK⟩ | exact stX_eq (rs' := slotsC (k + 1) d.n d.m) rk rfl (slotsC_set hx) hK | (refine stX_box rfl ?_; (conv => whnf); exact hK)), Or.inr ⟨(by repeat' (first | exact True.intro | refine And.intro ?_ ?_ | exact Or.inl (by decide +kernel) | decide +kernel | exact Or.inr (fun K hK => (by (conv => whnf); first | exact hK | exact ldX_eq rfl hK | (generalize hq : fieldAddrA _ _ _ _ _ = q; obtain rfl := hq.symm.trans (fa_one end_blk); (conv => whnf); exact hK) | (rw [end_blk]; (conv => whnf); exact ldX_eq rfl hK) | exact idmX_eq k rfl hk (by decide) rk rfl hK | exact ldX_eq (r := .vs [chV (stayC k)] (some 1)) (by rw [rk]; rfl) hK | exact ⟨rfl, ⟨(by decide : (0 : Int) ≤ 0), (by decide : (0 : Int) ≤ 1), (by decide : (1 : Int) ≤ 1), (by decide : (1 : Int) ≤ 1)⟩, fun r hr => by rw [List.mem_singleton.1 hr]; rfl, hK⟩ | exact stX_eq (rs' := slotsC (k + 1) d.n d.m) rk rfl (slotsC_set hx) hK | (refine stX_box rfl ?_; (conv => whnf); exact hK))))), (by repeat' (first | exact True.intro | refine And.intro ?_ ?_ | exact Or.inl (by decide +kernel) | decide +kernel | exact Or.inr (fun K hK => (by (conv => whnf); first | exact hK | exact ldX_eq rfl hK | (generalize hq : fieldAddrA _ _ _ _ _ = q; obtain rfl := hq.symm.trans (fa_one end_blk); (conv => whnf); exact hK) | (rw [end_blk]; (conv => whnf); exact ldX_eq rfl hK) | exact idmX_eq k rfl hk (by decide) rk rfl hK | exact ldX_eq (r := .vs [chV (stayC k)] (some 1)) (by rw [rk]; rfl) hK | exact ⟨rfl, ⟨(by decide : (0 : Int) ≤ 0), (by decide : (0 : Int) ≤ 1), (by decide : (1 : Int) ≤ 1), (by decide : (1 : Int) ≤ 1)⟩, fun r hr => by rw [List.mem_singleton.1 hr]; rfl, hK⟩ | exact stX_eq (rs' := slotsC (k + 1) d.n d.m) rk rfl (slotsC_set hx) hK | (refine stX_box rfl ?_; (conv => whnf); exact hK))))), ?_⟩⟩); conv => whnf)
          repeat ((first | refine And.intro rfl (wrapX_i64 (by omega) ?_) | refine And.intro rfl ?_); conv => whnf)
          refine ⟨k + 1, by show d.n - (k + 1) < d.n - k; omega, hk, rfl, rfl, rfl, rfl, ?_, trivial⟩
          show some (AV.int .i64 _) = some (AV.int .i64 _)
          congr 2
        | cons x1 l1 =>
          have hm := hzm.all k (by rw [hr]; simp)
          have rk : (slotsC k d.n d.m)[0 + k]? = some [.ms (d.m.ord.idxOf k + 7) 0 (x1 :: l1).length none] := by rw [slotsC_at hk]; simp [slotC, hr]
          have hx : AV.ms (d.m.ord.idxOf k + 7) 0 1 (some 1) = slotC (k + 1) d.m k := by simp [slotC, hr]
          have h1l : (1 : Int) ≤ (((x1 :: l1).length : Nat) : Int) := by simp; omega
          repeat ((first | refine ⟨_, _, fun K hK => (by (conv => whnf); first | exact hK | exact ldX_eq rfl hK | (generalize hq : fieldAddrA _ _ _ _ _ = q; obtain rfl := hq.symm.trans (fa_one end_blk); (conv => whnf); exact hK) | (rw [end_blk]; (conv => whnf); exact ldX_eq rfl hK) | exact idmX_eq k rfl hk (by decide) rk rfl hK | exact ldX_eq (r := .ms (d.m.ord.idxOf k + 7) 0 (x1 :: l1).length none) (by rw [rk]; rfl) hK | exact ⟨rfl, ⟨(by decide : (0 : Int) ≤ 0), (by decide : (0 : Int) ≤ 1), (by decide : (1 : Int) ≤ 1), h1l⟩, (by rw [mid_blk hm]; exact fun r hr => (chV_okc _ r hr).1), Or.inl ⟨Or.inl rfl, hK⟩⟩ | exact stX_eq (rs' := slotsC (k + 1) d.n d.m) rk rfl (slotsC_set hx) hK | (refine stX_box rfl ?_; (conv => whnf); exact hK)), Or.inl ⟨rfl, (by repeat' (first | exact True.intro | refine And.intro ?_ ?_ | exact Or.inl (by decide +kernel) | decide +kernel | exact Or.inr (fun K hK => (by (conv => whnf); first | exact hK | exact ldX_eq rfl hK | (generalize hq : fieldAddrA _ _ _ _ _ = q; obtain rfl := hq.symm.trans (fa_one end_blk); (conv => whnf); exact hK) | (rw [end_blk]; (conv => whnf); exact ldX_eq rfl hK) | exact idmX_eq k rfl hk (by decide) rk rfl hK | exact ldX_eq (r := .ms (d.m.ord.idxOf k + 7) 0 (x1 :: l1).length none) (by rw [rk]; rfl) hK | exact ⟨rfl, ⟨(by decide : (0 : Int) ≤ 0), (by decide : (0 : Int) ≤ 1), (by decide : (1 : Int) ≤ 1), h1l⟩, (by rw [mid_blk hm]; exact fun r hr => (chV_okc _ r hr).1), Or.inl ⟨Or.inl rfl, hK⟩⟩ | exact stX_eq (rs' := slotsC (k + 1) d.n d.m) rk rfl (slotsC_set hx) hK | (refine stX_box rfl ?_; (conv => whnf); exact hK))))), ?_⟩⟩ | refine ⟨_, _, fun K hK => (by (conv => whnf); first | exact hK | exact ldX_eq rfl hK | (generalize hq : fieldAddrA _ _ _ _ _ = q; obtain rfl := hq.symm.trans (fa_one end_blk); (conv => whnf); exact hK) | (rw [end_blk]; (conv => whnf); exact ldX_eq rfl hK) | exact idmX_eq k rfl hk (by decide) rk rfl hK | exact ldX_eq (r := .ms (d.m.ord.idxOf k + 7) 0 (x1 :: l1).length none) (by rw [rk]; rfl) hK | exact ⟨rfl, ⟨(by decide : (0 : Int) ≤ 0), (by decide : (0 : Int) ≤ 1), (by decide : (1 : Int) ≤ 1), h1l⟩, (by rw [mid_blk hm]; exact fun r hr => (chV_okc _ r hr).1), Or.inl ⟨Or.inl rfl, hK⟩⟩ | exact stX_eq (rs' := slotsC (k + 1) d.n d.m) rk rfl (slotsC_set hx) hK | (refine stX_box rfl ?_; (conv => whnf); exact hK)), Or.inr ⟨(by repeat' (first | exact True.intro | refine And.intro ?_ ?_ | exact Or.inl (by decide +kernel) | decide +kernel | exact Or.inr (fun K hK => (by (conv => whnf); first | exact hK | exact ldX_eq rfl hK | (generalize hq : fieldAddrA _ _ _ _ _ = q; obtain rfl := hq.symm.trans (fa_one end_blk); (conv => whnf); exact hK) | (rw [end_blk]; (conv => whnf); exact ldX_eq rfl hK) | exact idmX_eq k rfl hk (by decide) rk rfl hK | exact ldX_eq (r := .ms (d.m.ord.idxOf k + 7) 0 (x1 :: l1).length none) (by rw [rk]; rfl) hK | exact ⟨rfl, ⟨(by decide : (0 : Int) ≤ 0), (by decide : (0 : Int) ≤ 1), (by decide : (1 : Int) ≤ 1), h1l⟩, (by rw [mid_blk hm]; exact fun r hr => (chV_okc _ r hr).1), Or.inl ⟨Or.inl rfl, hK⟩⟩ | exact stX_eq (rs' := slotsC (k + 1) d.n d.m) rk rfl (slotsC_set hx) hK | (refine stX_box rfl ?_; (conv => whnf); exact hK))))), (by repeat' (first | exact True.intro | refine And.intro ?_ ?_ | exact Or.inl (by decide +kernel) | decide +kernel | exact Or.inr (fun K hK => (by (conv => whnf); first | exact hK | exact ldX_eq rfl hK | (generalize hq : fieldAddrA _ _ _ _ _ = q; obtain rfl := hq.symm.trans (fa_one end_blk); (conv => whnf); exact hK) | (rw [end_blk]; (conv => whnf); exact ldX_eq rfl hK) | exact idmX_eq k rfl hk (by decide) rk rfl hK | exact ldX_eq (r := .ms (d.m.ord.idxOf k + 7) 0 (x1 :: l1).length none) (by rw [rk]; rfl) hK | exact ⟨rfl, ⟨(by decide : (0 : Int) ≤ 0), (by decide : (0 : Int) ≤ 1), (by decide : (1 : Int) ≤ 1), h1l⟩, (by rw [mid_blk hm]; exact fun r hr => (chV_okc _ r hr).1), Or.inl ⟨Or.inl rfl, hK⟩⟩ | exact stX_eq (rs' := slotsC (k + 1) d.n d.m) rk rfl (slotsC_set hx) hK | (refine stX_box rfl ?_; (conv => whnf); exact hK))))), ?_⟩⟩); conv => whnf)
          repeat ((first | refine And.intro rfl (wrapX_i64 (by omega) ?_) | refine And.intro rfl ?_); conv => whnf)
          refine ⟨k + 1, by show d.n - (k + 1) < d.n - k; omega, hk, rfl, rfl, rfl, rfl, ?_, trivial⟩
          show some (AV.int .i64 _) = some (AV.int .i64 _)
          congr 2
      · have hk : ¬ ((k : Nat) : Int) < ((d.n : Nat) : Int) := h5
        obtain rfl : k = d.n := by omega
        rw [end_blk]
        conv => whnf
        repeat ((first | refine ldX_eq rfl ?_ | refine stX_box rfl ?_ | refine And.intro rfl ?_); conv => whnf)
        exact chain_frz rfl rfl (fun s hs => mid_blk hs) hzm
    · subst hPV
      exact (put_last (some (.rows [drV d _] false false) :: some (.rows [[.nils, .nils]] false false) :: some (.rows [drV d _] false false) :: some (.rows [[.ms 4 0 d.n (some d.n), .ms 5 0 d.n (some d.n)]] false false) :: some (.rows (ownL d d.n) false false) :: some (.rows (slots 7 d.n d.n d.m) false false) :: some (.rows [[.ms 4 0 d.n (some d.n), .ms 5 0 d.n (some d.n)]] false false) :: tailB d.m) [] _ _).trans (congrArg (fun z => Heap.mk (some (.rows [drV d _] false false) :: some (.rows [[.nils, .nils]] false false) :: some (.rows [drV d _] false false) :: some (.rows [[.ms 4 0 d.n (some d.n), .ms 5 0 d.n (some d.n)]] false false) :: some (.rows (ownL d d.n) false false) :: some (.rows (z) false false) :: some (.rows [[.ms 4 0 d.n (some d.n), .ms 5 0 d.n (some d.n)]] false false) :: (tailB d.m ++ [some (Blk.rows [[.ms 4 0 d.n (some d.n), .ms 5 0 d.n (some d.n)]] false false)])) []) (slotsC_zero d.n d.m))
    · show some (AV.ptr ((tailB d.m).length + 7) 0 0) = some (AV.ptr (d.m.ord.length + 7) 0 0)
      rw [tailB_len]
end
end Go.Abs
