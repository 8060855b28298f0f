/-
  Steps to a law of this program: SFc6, SDr8, SGr1.
  Conditions: none.
-/
import Derived.Test.YtpdnijifmebnbaaGreatDoorB43
import Derived.Test.YtpdnijifmebnbaaGreatDoorB39
import Derived.Test.YtpdnijifmebnbaaGreatDoorB41
import Derived.Test.YtpdnijifmebnbaaGreatDoorB20
set_option linter.unusedVariables false
set_option linter.unusedSimpArgs false
set_option linter.unusedSectionVars false
namespace Go.Abs
noncomputable section
open Go.Proofs

theorem gameOK {os : List Nat} {rows : List ChR} (hV : ValidM os rows) : GameOK os rows where
  states := by have := hV.states; omega
  width := hV.width
  count := hV.chs
  cells := by
    obtain ⟨D, hD, hb⟩ := hV.branches
    have key : ∀ (rows : List ChR) (s : Nat), (∀ v ∈ allV s rows, SprV os.length D v) → ∀ r ∈ rows, ∀ ch ∈ r.1, ∃ t : Int, SprV os.length D [.int .i64 t, .agg ch] := fun rows => by
      induction rows with
      | nil => intro s _ r hr; cases hr
      | cons r0 rest ih =>
        intro s hv r hr ch hch
        rcases List.mem_cons.1 hr with rfl | hr
        · exact ⟨((s : Nat) : Int), hv _ (List.mem_append_left _ (List.mem_map.2 ⟨ch, hch, rfl⟩))⟩
        · exact ih (s + 1) (fun v h => hv v (List.mem_append_right _ h)) r hr ch hch
    intro r hr ch hch
    obtain ⟨t, s, a, g, l, c, e, hs⟩ := key rows 0 hb r hr ch hch
    injection e with _ e; injection e with e _; injection e with e
    have := hV.states
    exact ⟨l, ⟨a, g, c, e⟩, hs.len, fun b hb => by have := hs.lt b hb; omega⟩

theorem diff_zero {x n : Nat} (h : Sub x (allN n)) : diffN x (allN n) = 0 := Nat.eq_of_testBit_eq fun i => by
  rw [Nat.zero_testBit]
  rcases Nat.lt_or_ge i 64 with hi | hi
  · rw [diffN_bit _ _ _ hi]
    cases hx : x.testBit i with
    | false => rfl
    | true => rw [h i hx]; rfl
  · exact Nat.testBit_lt_two_pow (Nat.lt_of_lt_of_le (diffN_lt _ _) (Nat.pow_le_pow_right (by decide : 0 < 2) hi : 2 ^ 64 ≤ 2 ^ i))

set_option maxHeartbeats 1000000 in
theorem fcheck_ok {os : List Nat} {oc cc : Option Nat} {rows : List ChR} {target player : Nat} (hV : ValidM os rows) (pM : Pure (.agg [.vs (osV os) oc, .vs (rowsV rows) cc])) (hs : Sub target (allN os.length)) (hp : player = 0 ∨ player = 1) :
    PureSem Tryz.prog 22 [.agg [.vs (osV os) oc, .vs (rowsV rows) cc], .int .u64 ((target : Nat) : Int), .int .i64 ((player : Nat) : Int)] (.int .i64 0) := by
  have hall := all_states (oc := oc) (cc := cc) pM (gameOK hV).states
  have hck := check_ok (oc := oc) (cc := cc) hV
  have hz := diff_zero hs
  refine pure_of_call (pure3 pM (.int _ _) (.int _ _)) (.int _ _) (call_x forceT_ok mixed Tryz.func22 rfl (by decide +kernel) ?_)
  conv => whnf
  repeat ((first | refine And.intro ⟨rfl, by decide, rfl⟩ ?_ | refine ldX_eq rfl ?_ | refine And.intro rfl ?_ | refine callX_pure hck (pure1 pM) ?_ | refine condX_f rfl ?_); conv => whnf)
  rcases hp with rfl | rfl
  all_goals
    repeat ((first | refine ldX_eq rfl ?_ | refine And.intro rfl ?_ | refine callX_pure hall (pure1 pM) ?_ | refine condX_f rfl ?_ | refine condX_t rfl ?_ | refine condX_f (by rw [diffE, hz]; rfl) ?_ | refine condX_t (by rw [diffE, hz]; rfl) ?_); conv => whnf)
  all_goals exact .pure _ (.int _ _)
theorem pureTw {x y : AV} (h : Pure x) (h' : Pure y) : Pure (.tup [x, y]) := .tup _ fun i hi => by
  match i, hi with
  | 0, _ => exact h
  | 1, _ => exact h'
theorem allow_yes {os : List Nat} {rows : List ChR} (hV : ValidM os rows) : ∀ r ∈ rows, ∀ ch ∈ r.1, PureSem Tryz.prog 24 [.agg ch] (.bool ((fun _ => true) ch)) := fun r hr ch hch => by
  obtain ⟨l, h, _⟩ := (gameOK hV).cells r hr ch hch
  exact yes_pure h
theorem allow_stay {os : List Nat} {rows : List ChR} {x : Nat} (hV : ValidM os rows) : ∀ r ∈ rows, ∀ ch ∈ r.1, PureSem Tryz.prog 26 [.agg ch, .vp [.int .u64 ((x : Nat) : Int)] 0] (.bool (staysA x ch)) := fun r hr ch hch => by
  obtain ⟨l, h, h1, h2⟩ := (gameOK hV).cells r hr ch hch
  rw [staysA_eq h]
  exact stays_pure h h1 h2
theorem sub_lt {x n : Nat} (h : Sub x (allN n)) (hn : n < 64) : x < 18446744073709551616 := Nat.lt_of_le_of_lt h.le (allN_lt n hn)

set_option maxHeartbeats 1000000 in
theorem positive_ok {os : List Nat} {oc cc : Option Nat} {rows : List ChR} {target player : Nat} (hV : ValidM os rows) (pM : Pure (.agg [.vs (osV os) oc, .vs (rowsV rows) cc])) (hs : Sub target (allN os.length)) (hp : player = 0 ∨ player = 1) :
    PureSem Tryz.prog 9 [.agg [.vs (osV os) oc, .vs (rowsV rows) cc], .int .u64 ((target : Nat) : Int), .int .i64 ((player : Nat) : Int)] (.tup [.int .u64 ((posN os rows player target : Nat) : Int), .int .i64 0]) := by
  have hG := gameOK hV
  have hck := fcheck_ok (oc := oc) (cc := cc) hV pM hs hp
  have hgr := grow_p (oc := oc) (cc := cc) (player := player) (target := target) hG pM (sub_lt hs hG.states) (allow_yes hV)
  have pF : Pure (.fn (.func 24) [] []) := pure_fnc (fun _ h => by simp at h)
  refine pure_of_call (pure3 pM (.int _ _) (.int _ _)) (pureTw (.int _ _) (.int _ _)) (call_x forceT_ok mixed Tryz.func9 rfl (by decide +kernel) ?_)
  conv => whnf
  repeat ((first | refine And.intro ⟨rfl, by decide, rfl⟩ ?_ | refine ldX_eq rfl ?_ | refine And.intro rfl ?_ | refine callX_pure hck (pure3 pM (.int _ _) (.int _ _)) ?_ | refine callX_pure hgr (pure4 pM (.int _ _) (.int _ _) pF) ?_ | refine condX_f rfl ?_); conv => whnf)
  exact .pure _ (pureTw (.int _ _) (.int _ _))

set_option maxHeartbeats 1000000 in
theorem avoid_ok {os : List Nat} {oc cc : Option Nat} {rows : List ChR} {target player : Nat} (hV : ValidM os rows) (pM : Pure (.agg [.vs (osV os) oc, .vs (rowsV rows) cc])) (hs : Sub target (allN os.length)) (hp : player = 0 ∨ player = 1) :
    PureSem Tryz.prog 11 [.agg [.vs (osV os) oc, .vs (rowsV rows) cc], .int .u64 ((target : Nat) : Int), .int .i64 ((player : Nat) : Int)] (.tup [.int .u64 ((diffN (allN os.length) (posN os rows (1 - player) target) : Nat) : Int), .int .i64 0]) := by
  have hG := gameOK hV
  have hck := fcheck_ok (oc := oc) (cc := cc) hV pM hs hp
  have hall := all_states (oc := oc) (cc := cc) pM (gameOK hV).states
  have hpo := positive_ok (oc := oc) (cc := cc) (player := 1 - player) hV pM hs (by omega)
  refine pure_of_call (pure3 pM (.int _ _) (.int _ _)) (pureTw (.int _ _) (.int _ _)) (call_x forceT_ok mixed Tryz.func11 rfl (by decide +kernel) ?_)
  conv => whnf
  rcases hp with rfl | rfl
  all_goals
    repeat ((first | refine And.intro ⟨rfl, by decide, rfl⟩ ?_ | refine ldX_eq rfl ?_ | refine And.intro rfl (wrapX_nat 1 rfl rfl ?_) | refine And.intro rfl (wrapX_nat 0 rfl rfl ?_) | refine And.intro rfl ?_ | refine callX_pure hck (pure3 pM (.int _ _) (.int _ _)) ?_ | refine callX_pure hall (pure1 pM) ?_ | refine callX_pure hpo (pure3 pM (.int _ _) (.int _ _)) ?_ | refine condX_f rfl ?_); conv => whnf)
    rw [diffE]
    exact .pure _ (pureTw (.int _ _) (.int _ _))

theorem frz_stay {f41 : FuncId} {x : Nat} {h : Heap} (h2 : h.blk? 1 = some (.rows [[.int .u64 ((x : Nat) : Int)]] false false)) :
    Frz h (.fn (.func f41) [] [.ptr 1 0 0]) (.fn (.func f41) [] [.vp [.int .u64 ((x : Nat) : Int)] 0]) := by
  refine .fn _ _ _ _ _ rfl rfl (fun i hi => by simp at hi) fun i hi hj => ?_
  match i, hi with
  | 0, _ => exact .ptr 1 0 0 [[_]] false false _ h2 (by simp) rfl fun t h1 h2 => (match t, h1 with | 0, _ => .pure _ (.int _ _))
theorem borrow4 {f44 : FuncId} {V V1 V2 F F' : AV} {h : Heap} {k : IntKind} {b : Int} {K : AV → Heap → Prop} (pV : Pure V) (pV1 : Pure V1) (pV2 : Pure V2) (hF : Frz h F F') (hp : PureSem Tryz.prog f44 [V, V1, V2, F'] (.int k b)) (hk : K (.int k b) h) : CallSem Tryz.prog f44 [V, V1, V2, F] h K := by
  refine call_borrow (args' := [V, V1, V2, F']) rfl (fun i hi hj => ?_) hp (.int _ _) hk
  match i, hi with
  | 0, _ => exact .pure _ pV
  | 1, _ => exact .pure _ pV1
  | 2, _ => exact .pure _ pV2
  | 3, _ => exact hF

set_option maxHeartbeats 2000000 in
theorem sure_ok {os : List Nat} {oc cc : Option Nat} {rows : List ChR} {target player : Nat} (hV : ValidM os rows) (pM : Pure (.agg [.vs (osV os) oc, .vs (rowsV rows) cc])) (hs : Sub target (allN os.length)) (hp : player = 0 ∨ player = 1) :
    PureSem Tryz.prog 10 [.agg [.vs (osV os) oc, .vs (rowsV rows) cc], .int .u64 ((target : Nat) : Int), .int .i64 ((player : Nat) : Int)] (.tup [.int .u64 ((sureN os rows player target : Nat) : Int), .int .i64 0]) := by
  have hG := gameOK hV
  have hck := fcheck_ok (oc := oc) (cc := cc) hV pM hs hp
  have hall := all_states (oc := oc) (cc := cc) pM (gameOK hV).states
  have pF : ∀ x : Nat, Pure (.fn (.func 26) [] [.vp [.int .u64 ((x : Nat) : Int)] 0]) := fun x => pure_fnc (pure1 (pure_set x))
  refine pure_of_call (pure3 pM (.int _ _) (.int _ _)) (pureTw (.int _ _) (.int _ _)) (call_x forceT_ok mixed Tryz.func10 rfl (by decide +kernel) ?_)
  conv => whnf
  repeat ((first | refine And.intro ⟨rfl, by decide, rfl⟩ ?_ | refine And.intro ⟨by decide, rfl⟩ ?_ | refine ldX_eq rfl ?_ | refine And.intro rfl ?_ | refine callX_pure hck (pure3 pM (.int _ _) (.int _ _)) ?_ | refine callX_pure hall (pure1 pM) ?_ | refine condX_f rfl ?_ | refine stX_box rfl ?_); conv => whnf)
  refine loop_p forceT_ok mixed 30 (fun x : Nat => x) (fun x => Sub x (allN os.length) ∧ Sub (sureF os rows player target x) x ∧ ∃ f, x ≤ f ∧ fixN (sureF os rows player target) f x = sureN os rows player target)
    (fun _ => [(1, .int .u64 ((target : Nat) : Int)), (2, .int .i64 ((player : Nat) : Int)), (3, .ptr 0 0 0), (9, .ptr 1 0 0)])
    (fun x => ⟨[some (.rows [[.vs (osV os) oc, .vs (rowsV rows) cc]] false false), some (.rows [[.int .u64 ((x : Nat) : Int)]] false false)], []⟩) ?_ (allN os.length) _ ⟨Sub.rfl', sureF_in hs, _, Nat.le_refl _, rfl⟩ rfl rfl ⟨rfl, rfl, rfl, rfl, trivial⟩
  rintro x g ⟨h1, h2, f, h3, h4⟩
  replace h1 : Sub x (allN os.length) := h1
  have hgr := grow_s (oc := oc) (cc := cc) (player := player) (target := target) (y := x) (φ := staysA x) hG pM (sub_lt hs hG.states) (allow_stay hV)
  replace hgr : PureSem Tryz.prog _ _ (.int .u64 ((sureF os rows player target x : Nat) : Int)) := hgr
  generalize hy : sureF os rows player target x = y at hgr h2
  conv => whnf
  repeat ((first | refine And.intro ⟨rfl, by decide, rfl⟩ ?_ | refine And.intro ⟨by decide, rfl⟩ ?_ | refine ldX_eq rfl ?_ | refine And.intro rfl ?_ | refine callX_of (borrow4 pM (.int _ _) (.int _ _) (frz_stay rfl) hgr ?_)); conv => whnf)
  by_cases hxy : y = x
  · subst hxy
    have hr : y = sureN os rows player target := by rw [← h4]; exact (fixN_fix hy f).symm
    refine condX_t (by simp) ?_
    conv => whnf
    repeat ((first | refine ldX_eq rfl ?_ | refine And.intro rfl ?_); conv => whnf)
    rw [← hr]
    exact .pure _ (pureTw (.int _ _) (.int _ _))
  · refine condX_f (beq_eq_false_iff_ne.2 fun e => hxy (by omega)) ?_
    conv => whnf
    repeat ((first | refine ldX_eq rfl ?_ | refine stX_box rfl ?_ | refine And.intro rfl ?_); conv => whnf)
    have := h2.le
    have hne : sureF os rows player target x ≠ x := by rw [hy]; exact hxy
    obtain ⟨f', rfl⟩ : ∃ f', f = f' + 1 := ⟨f - 1, by omega⟩
    refine ⟨y, by omega, ⟨h2.trans h1, ?_, f', by omega, ?_⟩, rfl, rfl, rfl, rfl, rfl, rfl, trivial⟩
    · have := sureF_mono (os := os) (rows := rows) (player := player) (target := target) h2
      rw [hy] at this; exact this
    · rw [fixN_step hne, hy] at h4; exact h4
end
end Go.Abs

namespace Go.Abs
noncomputable section
open Go.Proofs
set_option maxRecDepth 100000

theorem sumB_cross {W M : Nat} : ∀ (l : List Br), (∀ b ∈ l, b.d ∣ W) → (∀ b ∈ l, b.d ∣ M) → sumB W l * M = sumB M l * W
  | [], _, _ => by simp [sumB]
  | b :: l, h, h' => by
    have ih := sumB_cross l (fun x hx => h x (List.mem_cons_of_mem _ hx)) (fun x hx => h' x (List.mem_cons_of_mem _ hx))
    have e : ∀ M, sumB M (b :: l) = b.n * (M / b.d) + sumB M l := fun M => by simp [sumB]
    rw [e, e, Nat.add_mul, Nat.add_mul, ih]
    congr 1
    have e1 := Nat.mul_div_cancel' (h b (List.mem_cons_self ..))
    have e2 := Nat.mul_div_cancel' (h' b (List.mem_cons_self ..))
    generalize hw : W / b.d = w at *
    generalize hm : M / b.d = m at *
    rw [← e1, ← e2]
    ac_rfl
theorem spr_of {N W : Nat} {l : List Br} (h : BrsOK N W l) (hd : ∀ b ∈ l, b.d ∣ 300) (hN : N ≤ 12) : SprOK N 300 l where
  ok b hb := by
    obtain ⟨h1, h2, h3, h4⟩ := h.ok b hb
    obtain ⟨f1, f2, f3, _⟩ := fr_facts h2
    refine ⟨?_, h3, f2, hd b hb⟩
    have := small_at h2
    rw [h1]; exact this
  inc := h.inc
  lt := h.lt
  sum M hM hall := by
    have hW := h.whole.1
    have := sumB_cross l (fun b hb => (h.ok b hb).2.2.2) hall
    rw [h.sum, Nat.mul_comm] at this
    exact (Nat.eq_of_mul_eq_mul_right hW this).symm
  len := by have := h.len; omega

theorem allV_mem {v : List AV} : ∀ {rows : List ChR} {s : Nat}, v ∈ allV s rows → ∃ t r ch, r ∈ rows ∧ ch ∈ r.1 ∧ v = [.int .i64 ((t : Nat) : Int), .agg ch]
  | [], _, h => by cases h
  | r :: rest, s, h => by
    rcases List.mem_append.1 h with h | h
    · obtain ⟨ch, hc, rfl⟩ := List.mem_map.1 h
      exact ⟨s, r, ch, List.mem_cons_self .., hc, rfl⟩
    · obtain ⟨t, r', ch, h1, h2, h3⟩ := allV_mem h
      exact ⟨t, r', ch, List.mem_cons_of_mem _ h1, h2, h3⟩
theorem ModOK.cho {os : List Nat} {rows : List (List Ch × Option Nat)} (h : ModOK os rows) {r : ChR} {ch : List AV} (hr : r ∈ rowsC rows) (hc : ch ∈ r.1) : ∃ x, ch = chV x ∧ ChOK os.length x := by
  obtain ⟨r0, h0, rfl⟩ := List.mem_map.1 hr
  obtain ⟨x, hx, rfl⟩ := List.mem_map.1 hc
  exact ⟨x, rfl, h.chs r0 h0 x hx⟩

theorem valid_of {os : List Nat} {rows : List (List Ch × Option Nat)} (h : ModOK os rows) : ValidM os (rowsC rows) where
  states := h.states
  owners := h.owners
  width := by simp [rowsC, h.width]
  count r hr := by
    obtain ⟨r0, h0, rfl⟩ := List.mem_map.1 hr
    have := h.count r0 h0
    simpa using this
  names v hv := by
    obtain ⟨t, r, ch, hr, hc, rfl⟩ := allV_mem hv
    obtain ⟨x, rfl, hx⟩ := h.cho hr hc
    exact ⟨_, x.a, qt x.n x.d, x.l.map brV, x.c, rfl, actOf hx.name.2 hx.name.1, brV_pure _⟩
  gains := ⟨300, by decide, fun v hv => by
    obtain ⟨t, r, ch, hr, hc, rfl⟩ := allV_mem hv
    obtain ⟨x, rfl, hx⟩ := h.cho hr hc
    obtain ⟨f1, f2, f3, _⟩ := fr_facts hx.gain
    exact ⟨_, x.a, qt x.n x.d, x.l.map brV, x.c, x.n, x.d, rfl, small_at hx.gain, f2, hx.dvd, brV_pure _⟩⟩
  branches := ⟨300, by decide, fun v hv => by
    obtain ⟨t, r, ch, hr, hc, rfl⟩ := allV_mem hv
    obtain ⟨x, rfl, hx⟩ := h.cho hr hc
    exact ⟨_, x.a, qt x.n x.d, x.l, x.c, rfl, spr_of hx.brs hx.dvds h.states.2⟩⟩
  cells r hr ch hc := by
    obtain ⟨x, rfl, hx⟩ := h.cho hr hc
    exact ⟨x.a, qt x.n x.d, x.l.map brV, x.c, rfl, brV_pure _⟩

theorem Dr.os_len (d : Dr) : d.os.length = d.n := by simp [Dr.os]
theorem Dr.os01 (d : Dr) : ∀ o ∈ d.os, o = 0 ∨ o = 1 := fun o ho => by
  obtain ⟨s, _, rfl⟩ := List.mem_map.1 ho
  unfold Dr.own
  split
  · exact .inr rfl
  · exact .inl rfl
theorem Dr.row_ok (d : Dr) {s : Nat} (hs : s < d.n) : 1 ≤ (d.row s).1.length ∧ (d.row s).1.length ≤ 4 ∧ ∀ x ∈ (d.row s).1, ChOK d.n x := by
  have hz : MSOK d.n d.m := d.ms_ok _ (Nat.min_le_left _ _)
  have hl := hz.len s
  have hc := hz.chs s
  unfold Dr.row
  split
  · exact ⟨by simp, by simp, fun x hx => by rw [List.mem_singleton.1 hx]; exact stay_ok hs⟩
  · rename_i c l hr
    rw [hr] at hl hc
    exact ⟨by simp, by simp only [List.length_cons] at *; omega, hc⟩
theorem Dr.model_ok (d : Dr) : ModOK d.os d.rows where
  states := by rw [d.os_len]; have := d.n_pos; have := d.n_le; omega
  owners := d.os01
  width := by simp [Dr.rows, d.os_len]
  count r hr := by
    obtain ⟨s, hs, rfl⟩ := List.mem_map.1 hr
    have := d.row_ok (List.mem_range.1 hs)
    omega
  chs r hr x hx := by
    obtain ⟨s, hs, rfl⟩ := List.mem_map.1 hr
    rw [d.os_len]
    exact (d.row_ok (List.mem_range.1 hs)).2.2 x hx
end
end Go.Abs

namespace Go.Abs
noncomputable section
open Go.Proofs
set_option maxRecDepth 100000

theorem Dr.chain_ok (d : Dr) : ModOK d.os d.rows1 where
  states := d.model_ok.states
  owners := d.os01
  width := by simp [Dr.rows1, d.os_len]
  count r hr := by
    obtain ⟨s, hs, rfl⟩ := List.mem_map.1 hr
    have := d.row_ok (List.mem_range.1 hs)
    simp only [Dr.first, List.length_take]
    omega
  chs r hr x hx := by
    obtain ⟨s, hs, rfl⟩ := List.mem_map.1 hr
    rw [d.os_len]
    exact (d.row_ok (List.mem_range.1 hs)).2.2 x (List.mem_of_mem_take hx)
theorem andE (a b : Nat) (ha : a < 18446744073709551616) (hb : b < 18446744073709551616) : IntKind.u64.wrap ((BitVec.ofInt IntKind.u64.bits (a : Int) &&& BitVec.ofInt IntKind.u64.bits (b : Int)).toNat) = ((a &&& b : Nat) : Int) := by
  have h64 : IntKind.u64.bits = 64 := rfl
  rw [h64, BitVec.ofInt_natCast, BitVec.ofInt_natCast, BitVec.toNat_and, BitVec.toNat_ofNat, BitVec.toNat_ofNat, Nat.mod_eq_of_lt ha, Nat.mod_eq_of_lt hb]
  exact u64_wrap _ (Nat.lt_of_le_of_lt Nat.and_le_left ha)
theorem orE16 (a b : Nat) (ha : a < 65536) (hb : b < 65536) : IntKind.u16.wrap ((BitVec.ofInt IntKind.u16.bits (a : Int) ||| BitVec.ofInt IntKind.u16.bits (b : Int)).toNat) = ((a ||| b : Nat) : Int) := by
  have h16 : IntKind.u16.bits = 16 := rfl
  have hlt : a ||| b < 65536 := Nat.or_lt_two_pow (n := 16) ha hb
  rw [h16, BitVec.ofInt_natCast, BitVec.ofInt_natCast, BitVec.toNat_or, BitVec.toNat_ofNat, BitVec.toNat_ofNat, Nat.mod_eq_of_lt ha, Nat.mod_eq_of_lt hb]
  exact IntWalk.u16_in _ (by omega)
theorem diffN_zero {x y : Nat} (h : Sub x y) : diffN x y = 0 := Nat.eq_of_testBit_eq fun i => by
  rw [Nat.zero_testBit]
  rcases Nat.lt_or_ge i 64 with hi | hi
  · rw [diffN_bit _ _ _ hi]
    cases hx : x.testBit i with
    | false => rfl
    | true => rw [h i hx]; rfl
  · exact Nat.testBit_lt_two_pow (Nat.lt_of_lt_of_le (diffN_lt x y) (Nat.pow_le_pow_right (by decide : 0 < 2) hi : 2 ^ 64 ≤ 2 ^ i))
theorem sub_and (b n : Nat) : Sub (b &&& allN n) (allN n) := fun i h => by
  rw [Nat.testBit_and] at h
  simp only [Bool.and_eq_true] at h
  exact h.2
theorem sub_and_or (b m n : Nat) : Sub (b &&& allN n) ((b ||| m) &&& allN n) := fun i h => by
  rw [Nat.testBit_and, Bool.and_eq_true] at h
  rw [Nat.testBit_and, Nat.testBit_or, h.1, h.2]; rfl

theorem dset_pure {n b : Nat} (hn : n < 64) (hb : b < 65536) : PureSem Tryz.prog 8 [.int .i64 ((n : Nat) : Int), .int .u16 ((b : Nat) : Int)] (.int .u64 ((b &&& allN n : Nat) : Int)) := by
  have hall := allE0 n hn
  have hlt := allN_lt n hn
  refine pure_of_call (pure2 (.int _ _) (.int _ _)) (.int _ _) (call_x refT_ok mixed Tryz.func8 rfl (by decide +kernel) ?_)
  conv => whnf
  repeat ((first | refine And.intro (Int.natCast_nonneg n) ?_ | refine And.intro rfl (wrapX_nat (allN n) hall (u64_wrap _ hlt) ?_) | refine And.intro rfl (wrapX_u64 (by omega) ?_) | refine wrapX_u64 (by omega) ?_ | refine And.intro rfl ?_); conv => whnf)
  rw [andE b (allN n) (by omega) hlt]
  exact .pure _ (.int _ _)
end
end Go.Abs
