/-
  Steps to a law of this program: SGr2.
  Conditions: none.
-/
import Derived.Test.YtpdnijifmebnbaaGreatDoorB44
import Derived.Test.YtpdnijifmebnbaaGreatDoorB46
import Derived.Test.YtpdnijifmebnbaaGreatDoorB47
set_option linter.unusedVariables false
set_option linter.unusedSimpArgs false
set_option linter.unusedSectionVars false
namespace Go.Abs
noncomputable section
open Go.Proofs
set_option maxRecDepth 100000

def growT : List (TypeId × TI) := [
  (24, { desc := (.struct #[{ name := "States", type := 5, offset := 0, embedded := false, tag := "", pkgPath := "", byteOffset := 0 }, { name := "Owners", type := 5, offset := 1, embedded := false, tag := "", pkgPath := "", byteOffset := 1 }, { name := "Grain", type := 5, offset := 2, embedded := false, tag := "", pkgPath := "", byteOffset := 2 }, { name := "Cents", type := 5, offset := 3, embedded := false, tag := "", pkgPath := "", byteOffset := 3 }, { name := "Picks", type := 22, offset := 4, embedded := false, tag := "", pkgPath := "", byteOffset := 8 }]), size := 5, bytes := 32, zero := [.int .u8 0, .int .u8 0, .int .u8 0, .int .u8 0, .nils], cmp := true }),
  (4, { desc := .bool, size := 1, bytes := 1, zero := [.bool false], cmp := true }),
  (39, { desc := (.array 2 36), size := 4, bytes := 96, zero := [.nils, .nils, .nils, .nils], cmp := true }),
  (3, { desc := (.int .i64), size := 1, bytes := 8, zero := [.int .i64 0], cmp := true }),
  (36, { desc := (.struct #[{ name := "Owner", type := 33, offset := 0, embedded := false, tag := "", pkgPath := "", byteOffset := 0 }, { name := "Choices", type := 34, offset := 1, embedded := false, tag := "", pkgPath := "", byteOffset := 24 }]), size := 2, bytes := 48, zero := [.nils, .nils], cmp := true }),
  (33, { desc := (.slice 3), size := 1, bytes := 24, zero := [.nils], cmp := true }),
  (29, { desc := (.int .u64), size := 1, bytes := 8, zero := [.int .u64 0], cmp := true }),
  (30, { desc := (.int .u16), size := 1, bytes := 2, zero := [.int .u16 0], cmp := true }),
  (50, { desc := (.array 2 41), size := 6, bytes := 48, zero := [.int .u64 0, .int .u64 0, .int .u64 0, .int .u64 0, .int .u64 0, .int .u64 0], cmp := true }),
  (43, { desc := (.int .i64), size := 1, bytes := 8, zero := [.int .i64 0], cmp := true }),
  (41, { desc := (.array 3 29), size := 3, bytes := 24, zero := [.int .u64 0, .int .u64 0, .int .u64 0], cmp := true }),
  (5, { desc := (.int .u8), size := 1, bytes := 1, zero := [.int .u8 0], cmp := true }),
  (22, { desc := (.slice 60), size := 1, bytes := 24, zero := [.nils], cmp := true }),
  (34, { desc := (.slice 61), size := 1, bytes := 24, zero := [.nils], cmp := true }),
  (60, { desc := (.struct #[{ name := "State", type := 5, offset := 0, embedded := false, tag := "", pkgPath := "", byteOffset := 0 }, { name := "Act", type := 5, offset := 1, embedded := false, tag := "", pkgPath := "", byteOffset := 1 }, { name := "Gain", type := 5, offset := 2, embedded := false, tag := "", pkgPath := "", byteOffset := 2 }, { name := "To", type := 57, offset := 3, embedded := false, tag := "", pkgPath := "", byteOffset := 3 }, { name := "Part", type := 58, offset := 6, embedded := false, tag := "", pkgPath := "", byteOffset := 6 }]), size := 8, bytes := 8, zero := [.int .u8 0, .int .u8 0, .int .u8 0, .int .u8 0, .int .u8 0, .int .u8 0, .int .u8 0, .int .u8 0], cmp := true }),
  (61, { desc := (.slice 64), size := 1, bytes := 24, zero := [.nils], cmp := true }),
  (57, { desc := (.array 3 5), size := 3, bytes := 3, zero := [.int .u8 0, .int .u8 0, .int .u8 0], cmp := true }),
  (58, { desc := (.array 2 5), size := 2, bytes := 2, zero := [.int .u8 0, .int .u8 0], cmp := true }),
  (64, { desc := (.struct #[{ name := "Act", type := 9, offset := 0, embedded := false, tag := "", pkgPath := "", byteOffset := 0 }, { name := "Gain", type := 25, offset := 1, embedded := false, tag := "", pkgPath := "", byteOffset := 16 }, { name := "Next", type := 62, offset := 2, embedded := false, tag := "", pkgPath := "", byteOffset := 32 }]), size := 3, bytes := 56, zero := [.str [], .str [], .nils], cmp := true }),
  (9, { desc := .string, size := 1, bytes := 16, zero := [.str []], cmp := true }),
  (25, { desc := .string, size := 1, bytes := 16, zero := [.str []], cmp := true }),
  (62, { desc := (.slice 67), size := 1, bytes := 24, zero := [.nils], cmp := true }),
  (67, { desc := (.struct #[{ name := "To", type := 3, offset := 0, embedded := false, tag := "", pkgPath := "", byteOffset := 0 }, { name := "P", type := 25, offset := 1, embedded := false, tag := "", pkgPath := "", byteOffset := 8 }]), size := 2, bytes := 24, zero := [.int .i64 0, .str []], cmp := true })]
theorem growT_ok : TabOK Tryz.prog (tabL growT) := tabL_ok growT (by
  intro p hp
  simp only [growT, List.mem_cons, List.not_mem_nil, or_false] at hp
  rcases hp with rfl | rfl | rfl | rfl | rfl | rfl | rfl | rfl | rfl | rfl | rfl | rfl | rfl | rfl | rfl | rfl | rfl | rfl | rfl | rfl | rfl | rfl | rfl <;> kernel_rfl)

def tri (os : List Nat) (rows : List ChR) (S p : Nat) : List AV := [.int .u64 ((posN os rows p S : Nat) : Int), .int .u64 ((sureN os rows p S : Nat) : Int), .int .u64 ((diffN (allN os.length) (posN os rows (1 - p) S) : Nat) : Int)]
def z3 : List AV := [.int .u64 0, .int .u64 0, .int .u64 0]

theorem pure_four (d : Dr) : Pure (.agg [.vs (osV d.os) (some d.n), .vs (rowsV (rowsC d.rows)) (some d.n), .vs (osV d.os) (some d.n), .vs (rowsV (rowsC d.rows1)) (some d.n)]) := .agg _ fun i hi => by
  have h1 := pure_modV d.os (some d.n) d.rows (some d.n)
  have h2 := pure_modV d.os (some d.n) d.rows1 (some d.n)
  match i, hi with
  | 0, _ => exact h1 _ (by simp [modV])
  | 1, _ => exact h1 _ (by simp [modV])
  | 2, _ => exact h2 _ (by simp [modV])
  | 3, _ => exact h2 _ (by simp [modV])

theorem ne0 {a b : Nat} (h : diffN a b = 0) : (IntKind.u64.wrap ((BitVec.ofInt IntKind.u64.bits (a : Int) &&& ~~~ BitVec.ofInt IntKind.u64.bits (b : Int)).toNat) != 0) = false := by rw [diffE, h]; rfl
theorem eqr {a b x : Nat} (h : x = diffN a b) : (((x : Nat) : Int) != IntKind.u64.wrap ((BitVec.ofInt IntKind.u64.bits (a : Int) &&& ~~~ BitVec.ofInt IntKind.u64.bits (b : Int)).toNat)) = false := by rw [diffE, h]; simp
theorem eq_tri (a b c : Int) : eqA (tabL growT) 100 41 (.agg [.int .u64 a, .int .u64 b, .int .u64 c]) (.agg [.int .u64 a, .int .u64 b, .int .u64 c]) = some true :=
  (show _ = some ((a == a) && ((b == b) && ((c == c) && true))) from rfl).trans (by simp)
theorem neq_arr {h : Heap} {xs : List AV} {K : AV → Prop} (e : eqA (tabL growT) 100 41 (.agg xs) (.agg xs) = some true) (hk : K (.bool false)) : binW (tabL growT) h .neq 41 (.agg xs) (.agg xs) K := by
  show (match eqA (tabL growT) 100 41 (.agg xs) (.agg xs) with | some b => K (.bool !b) | none => False)
  rw [e]; exact hk
theorem one_rows {rows : List (List Ch × Option Nat)} (h : oneB rows = true) : ∀ r ∈ rowsC rows, r.1.length = 1 := fun r hr => by
  obtain ⟨r0, h0, rfl⟩ := List.mem_map.1 hr
  have := List.all_eq_true.1 h r0 h0
  simpa using this

set_option maxHeartbeats 16000000 in
theorem grows_pure {d : Dr} {pk : AV} {b m : Nat} (hd : DrOK d) (hp : PicksV d.picks pk) (hb : b < 65536) (hm : m < 65536) :
    PureSem Tryz.prog 4 [.agg (drV d pk), .int .u16 ((b : Nat) : Int), .int .u16 ((m : Nat) : Int)] (.bool true) := by
  have hkc := okc_drV hp
  have hn0 := d.n_pos
  have hn5 := d.n_le
  have pD := pure_dr hp
  have pDr := pure_drV hp
  have hmo := model_pure hd hp
  have hch := dchain_pure hd hp
  have hwo := works_pure
  have hall := allE0 d.n (by omega)
  have halt := allN_lt d.n (by omega)
  have hor := orE16 b m hb hm
  have hbm : b ||| m < 65536 := Nat.or_lt_two_pow (n := 16) hb hm
  have hs1 := dset_pure (n := d.n) (b := b) (by omega) hb
  have hs2 := dset_pure (n := d.n) (b := b ||| m) (by omega) hbm
  rw [← hor] at hs2
  have rows_ok := d.model_ok
  have rows1_ok := d.chain_ok
  have hlo : (osV d.os).length = d.n := by simp [osV, d.os_len]
  have hol := d.os_len
  have hp2 := hp
  obtain ⟨ps, hps⟩ : ∃ ps, d.picks = ps := ⟨_, rfl⟩
  rw [hps] at hp2
  rcases hp2 with _ | ⟨_, c⟩
  all_goals
    refine pure_of_call (pure3 pD (.int _ _) (.int _ _)) (.bool _) (call_x growT_ok mixed Tryz.func4 rfl (by decide +kernel) ?_)
    conv => whnf
    repeat ((first | refine And.intro ⟨rfl, by decide, hkc⟩ ?_ | refine And.intro ⟨rfl, by decide, rfl⟩ ?_ | refine callX_pure hwo (fun _ h => by simp at h) ?_ | refine condX_f rfl ?_ | refine And.intro rfl ?_); conv => whnf)
    refine Or.inl ⟨by decide +kernel, ?_⟩
    conv => whnf
    repeat ((first | refine ⟨_, _, fun K hK => (by (conv => whnf); first | exact hK | exact ldX_eq rfl hK | exact callX_pure hmo (pure1 pD) hK | exact callX_pure hch (pure1 pD) hK | (refine stX_box rfl ?_; (conv => whnf); exact hK)), Or.inl ⟨rfl, (by repeat' (first | exact True.intro | refine And.intro ?_ ?_ | exact Or.inl (by decide +kernel) | decide +kernel | exact Or.inr (fun K hK => (by (conv => whnf); first | exact hK | exact ldX_eq rfl hK | exact callX_pure hmo (pure1 pD) hK | exact callX_pure hch (pure1 pD) hK | (refine stX_box rfl ?_; (conv => whnf); exact hK))))), ?_⟩⟩ | refine ⟨_, _, fun K hK => (by (conv => whnf); first | exact hK | exact ldX_eq rfl hK | exact callX_pure hmo (pure1 pD) hK | exact callX_pure hch (pure1 pD) hK | (refine stX_box rfl ?_; (conv => whnf); exact hK)), Or.inr ⟨(by repeat' (first | exact True.intro | refine And.intro ?_ ?_ | exact Or.inl (by decide +kernel) | decide +kernel | exact Or.inr (fun K hK => (by (conv => whnf); first | exact hK | exact ldX_eq rfl hK | exact callX_pure hmo (pure1 pD) hK | exact callX_pure hch (pure1 pD) hK | (refine stX_box rfl ?_; (conv => whnf); exact hK))))), (by repeat' (first | exact True.intro | refine And.intro ?_ ?_ | exact Or.inl (by decide +kernel) | decide +kernel | exact Or.inr (fun K hK => (by (conv => whnf); first | exact hK | exact ldX_eq rfl hK | exact callX_pure hmo (pure1 pD) hK | exact callX_pure hch (pure1 pD) hK | (refine stX_box rfl ?_; (conv => whnf); exact hK))))), ?_⟩⟩); conv => whnf)
    refine loop_g growT_ok mixed 167 (fun j : Nat => 2 - j) (fun j => j ≤ 2) (fun j => [(1, .int .u16 ((b : Nat) : Int)), (2, .int .u16 ((m : Nat) : Int)), (33, .agg [.vs (osV d.os) (some d.n), .vs (rowsV (rowsC d.rows)) (some d.n), .vs (osV d.os) (some d.n), .vs (rowsV (rowsC d.rows1)) (some d.n)]), (34, .int .i64 ((j : Nat) : Int))]) (fun _ => ⟨[some (.rows [drV d _] false false)], []⟩) ?_ ?_ 0 _ (Nat.zero_le _) rfl rfl ⟨rfl, rfl, rfl, rfl, trivial⟩
    · rintro j -
      refine ⟨rfl, fun q hq => ?_, ⟨ltRow pDr, fun l r h => by simp [Heap.loop?] at h⟩, Nat.zero_le _⟩
      simp only [List.mem_cons, List.not_mem_nil, or_false] at hq
      rcases hq with rfl | rfl | rfl | rfl
      · exact .int _ _
      · exact .int _ _
      · exact (pure_four d).lt _ _
      · exact .int _ _
    · rintro j g1 j1
      replace j1 : j ≤ 2 := j1
      have hj : j = 0 ∨ j = 1 ∨ j = 2 := by omega
      rcases hj with rfl | rfl | rfl
      · have hMO := rows_ok
        have hV := valid_of hMO
        have pM := pure_model d.os (some d.n) d.rows (some d.n)
        conv => whnf
        refine condX_t (decide_eq_true (by decide)) ?_
        conv => whnf
        repeat ((first | refine And.intro ⟨by decide, by decide⟩ ⟨.agg (modV d.os (some d.n) d.rows (some d.n)), rfl, ?_⟩ | refine And.intro ⟨by decide, rfl⟩ ?_ | refine stX_box rfl ?_ | refine ldX_eq rfl ?_ | refine lenX_eq hlo ?_ | refine And.intro (Int.natCast_nonneg d.n) ?_ | refine And.intro rfl (wrapX_nat (allN d.n) hall (u64_wrap _ halt) ?_) | refine callX_pure hs1 (pure2 (.int _ _) (.int _ _)) ?_ | refine callX_pure hs2 (pure2 (.int _ _) (.int _ _)) ?_ | refine And.intro rfl ?_); conv => whnf)
        refine loop_p growT_ok mixed 167 (fun p : Nat => 2 - p) (fun p => p ≤ 2) (fun p => [(1, .int .u16 ((b : Nat) : Int)), (2, .int .u16 ((m : Nat) : Int)), (8, .ptr 1 0 0), (9, .int .i64 ((d.n : Nat) : Int)), (10, .int .u64 ((allN d.n : Nat) : Int)), (11, .int .u64 (((b &&& allN d.n) : Nat) : Int)), (12, .int .u64 ((((b ||| m) &&& allN d.n) : Nat) : Int)), (13, .ptr 2 0 0), (33, .agg [.vs (osV d.os) (some d.n), .vs (rowsV (rowsC d.rows)) (some d.n), .vs (osV d.os) (some d.n), .vs (rowsV (rowsC d.rows1)) (some d.n)]), (34, .int .i64 ((0 : Nat) : Int)), (51, .int .i64 ((p : Nat) : Int))]) (fun p => ⟨[some (.rows [drV d _] false false), some (.rows [modV d.os (some d.n) d.rows (some d.n)] false false), some (.rows [match p with | 0 => z3 ++ z3 | 1 => (tri d.os (rowsC d.rows) (b &&& allN d.n) 0) ++ z3 | _ => (tri d.os (rowsC d.rows) (b &&& allN d.n) 0) ++ (tri d.os (rowsC d.rows) (b &&& allN d.n) 1)] false false)], []⟩) ?_ 0 _ (Nat.zero_le _) rfl rfl ⟨rfl, rfl, rfl, rfl, rfl, rfl, rfl, rfl, rfl, rfl, rfl, trivial⟩
        rintro p g2 p1
        replace p1 : p ≤ 2 := p1
        have hp3 : p = 0 ∨ p = 1 ∨ p = 2 := by omega
        rcases hp3 with rfl | rfl | rfl
        · have h01 : 0 = 0 ∨ 0 = 1 := by omega
          have hSn : Sub (b &&& allN d.n) (allN d.os.length) := by rw [hol]; exact sub_and b d.n
          have hTn : Sub ((b ||| m) &&& allN d.n) (allN d.os.length) := by rw [hol]; exact sub_and (b ||| m) d.n
          have hST := sub_and_or b m d.n
          have c1 := positive_ok (oc := some d.n) (cc := some d.n) hV pM hSn (player := 0) h01
          have c2 := sure_ok (oc := some d.n) (cc := some d.n) hV pM hSn (player := 0) h01
          have c3 := avoid_ok (oc := some d.n) (cc := some d.n) hV pM hSn (player := 0) h01
          have c4 := positive_ok (oc := some d.n) (cc := some d.n) hV pM hTn (player := 0) h01
          have c5 := sure_ok (oc := some d.n) (cc := some d.n) hV pM hTn (player := 0) h01
          have c6 := positive_ok (oc := some d.n) (cc := some d.n) hV pM hSn (player := 1) (by omega)
          have D1 := diffN_zero (target_sure (rows := rowsC d.rows) (player := 0) hSn)
          have D2 := diffN_zero (sure_pos (rows := rowsC d.rows) (player := 0) hSn)
          have D3 := diffN_zero (pos_pos (os := d.os) (rows := rowsC d.rows) (player := 0) hST)
          have D4 := diffN_zero (sure_sure (rows := rowsC d.rows) (player := 0) hST hTn)
          have D5 : diffN (allN d.os.length) (posN d.os (rowsC d.rows) (1 - 0) (b &&& allN d.n)) = diffN (allN d.n) (posN d.os (rowsC d.rows) 1 (b &&& allN d.n)) := by rw [hol]
          conv => whnf
          refine condX_t (decide_eq_true (by decide)) ?_
          conv => whnf
          repeat ((first | refine ldX_eq rfl ?_ | refine callX_pure c1 (pure3 pM (.int _ _) (.int _ _)) ?_ | refine callX_pure c2 (pure3 pM (.int _ _) (.int _ _)) ?_ | refine callX_pure c3 (pure3 pM (.int _ _) (.int _ _)) ?_ | refine callX_pure c4 (pure3 pM (.int _ _) (.int _ _)) ?_ | refine callX_pure c5 (pure3 pM (.int _ _) (.int _ _)) ?_ | refine callX_pure c6 (pure3 pM (.int _ _) (.int _ _)) ?_ | refine condX_t rfl ?_ | refine condX_f rfl ?_ | rw [ne0 D1] | rw [ne0 D2] | rw [eqr D5] | rw [ne0 D3] | rw [ne0 D4] | refine And.intro rfl (wrapX_nat 1 rfl rfl ?_) | refine And.intro ⟨by decide, by decide⟩ (And.intro (Nat.le_of_ble_eq_true rfl) ?_) | refine stX_box rfl ?_ | refine And.intro rfl (wrapX_i64 (by decide) ?_) | refine And.intro rfl ?_); conv => whnf)
          exact ⟨1, by show 2 - 1 < 2 - 0; decide, by decide, rfl, rfl, rfl, rfl, rfl, rfl, rfl, rfl, rfl, rfl, rfl, rfl, rfl, trivial⟩
        · have h01 : 1 = 0 ∨ 1 = 1 := by omega
          have hSn : Sub (b &&& allN d.n) (allN d.os.length) := by rw [hol]; exact sub_and b d.n
          have hTn : Sub ((b ||| m) &&& allN d.n) (allN d.os.length) := by rw [hol]; exact sub_and (b ||| m) d.n
          have hST := sub_and_or b m d.n
          have c1 := positive_ok (oc := some d.n) (cc := some d.n) hV pM hSn (player := 1) h01
          have c2 := sure_ok (oc := some d.n) (cc := some d.n) hV pM hSn (player := 1) h01
          have c3 := avoid_ok (oc := some d.n) (cc := some d.n) hV pM hSn (player := 1) h01
          have c4 := positive_ok (oc := some d.n) (cc := some d.n) hV pM hTn (player := 1) h01
          have c5 := sure_ok (oc := some d.n) (cc := some d.n) hV pM hTn (player := 1) h01
          have c6 := positive_ok (oc := some d.n) (cc := some d.n) hV pM hSn (player := 0) (by omega)
          have D1 := diffN_zero (target_sure (rows := rowsC d.rows) (player := 1) hSn)
          have D2 := diffN_zero (sure_pos (rows := rowsC d.rows) (player := 1) hSn)
          have D3 := diffN_zero (pos_pos (os := d.os) (rows := rowsC d.rows) (player := 1) hST)
          have D4 := diffN_zero (sure_sure (rows := rowsC d.rows) (player := 1) hST hTn)
          have D5 : diffN (allN d.os.length) (posN d.os (rowsC d.rows) (1 - 1) (b &&& allN d.n)) = diffN (allN d.n) (posN d.os (rowsC d.rows) 0 (b &&& allN d.n)) := by rw [hol]
          conv => whnf
          refine condX_t (decide_eq_true (by decide)) ?_
          conv => whnf
          repeat ((first | refine ldX_eq rfl ?_ | refine callX_pure c1 (pure3 pM (.int _ _) (.int _ _)) ?_ | refine callX_pure c2 (pure3 pM (.int _ _) (.int _ _)) ?_ | refine callX_pure c3 (pure3 pM (.int _ _) (.int _ _)) ?_ | refine callX_pure c4 (pure3 pM (.int _ _) (.int _ _)) ?_ | refine callX_pure c5 (pure3 pM (.int _ _) (.int _ _)) ?_ | refine callX_pure c6 (pure3 pM (.int _ _) (.int _ _)) ?_ | refine condX_t rfl ?_ | refine condX_f rfl ?_ | rw [ne0 D1] | rw [ne0 D2] | rw [eqr D5] | rw [ne0 D3] | rw [ne0 D4] | refine And.intro rfl (wrapX_nat 0 rfl rfl ?_) | refine And.intro ⟨by decide, by decide⟩ (And.intro (Nat.le_of_ble_eq_true rfl) ?_) | refine stX_box rfl ?_ | refine And.intro rfl (wrapX_i64 (by decide) ?_) | refine And.intro rfl ?_); conv => whnf)
          exact ⟨2, by show 2 - 2 < 2 - 1; decide, by decide, rfl, rfl, rfl, rfl, rfl, rfl, rfl, rfl, rfl, rfl, rfl, rfl, rfl, trivial⟩
        · have hcc := chain_pure (oc := some d.n) (cc := some d.n) hMO
          conv => whnf
          refine condX_f (decide_eq_false (by decide)) ?_
          conv => whnf
          cases hob : oneB d.rows with
          | false =>
            rw [hob] at hcc
            repeat ((first | refine ldX_eq rfl ?_ | refine callX_pure hcc (pure1 pM) ?_ | refine condX_f rfl ?_ | refine And.intro rfl (wrapX_i64 (by decide) ?_) | refine And.intro rfl ?_); conv => whnf)
            exact ⟨1, [_, _], by show 2 - 1 < 2 - 0; decide, by decide, rfl, rfl, rfl, rfl, rfl, rfl, trivial⟩
          | true =>
            rw [hob] at hcc
            have h1 : ∀ r ∈ rowsC d.rows, r.1.length = 1 := one_rows hob
            have q1 := pos_chain (os := d.os) h1 hV.width (p := 0) (q := 1) (t := (b &&& allN d.n))
            have q2 := sure_chain (os := d.os) h1 hV.width (p := 0) (q := 1) (t := (b &&& allN d.n))
            have htri : tri d.os (rowsC d.rows) (b &&& allN d.n) 0 = tri d.os (rowsC d.rows) (b &&& allN d.n) 1 := by
              show [_, _, _] = [_, _, _]
              rw [q1, q2]
            rw [htri]
            repeat ((first | refine ldX_eq rfl ?_ | refine callX_pure hcc (pure1 pM) ?_ | refine condX_t rfl ?_ | refine condX_f rfl ?_ | refine And.intro ⟨by decide, by decide⟩ (And.intro (Nat.le_of_ble_eq_true rfl) ?_) | refine Or.inl (neq_arr (xs := tri d.os (rowsC d.rows) (b &&& allN d.n) 1) (eq_tri _ _ _) ?_) | refine And.intro rfl (wrapX_i64 (by decide) ?_) | refine And.intro rfl ?_); conv => whnf)
            exact ⟨1, [_, _], by show 2 - 1 < 2 - 0; decide, by decide, rfl, rfl, rfl, rfl, rfl, rfl, trivial⟩
      · have hMO := rows1_ok
        have hV := valid_of hMO
        have pM := pure_model d.os (some d.n) d.rows1 (some d.n)
        conv => whnf
        refine condX_t (decide_eq_true (by decide)) ?_
        conv => whnf
        repeat ((first | refine And.intro ⟨by decide, by decide⟩ ⟨.agg (modV d.os (some d.n) d.rows1 (some d.n)), rfl, ?_⟩ | refine And.intro ⟨by decide, rfl⟩ ?_ | refine stX_box rfl ?_ | refine ldX_eq rfl ?_ | refine lenX_eq hlo ?_ | refine And.intro (Int.natCast_nonneg d.n) ?_ | refine And.intro rfl (wrapX_nat (allN d.n) hall (u64_wrap _ halt) ?_) | refine callX_pure hs1 (pure2 (.int _ _) (.int _ _)) ?_ | refine callX_pure hs2 (pure2 (.int _ _) (.int _ _)) ?_ | refine And.intro rfl ?_); conv => whnf)
        refine loop_p growT_ok mixed 167 (fun p : Nat => 2 - p) (fun p => p ≤ 2) (fun p => [(1, .int .u16 ((b : Nat) : Int)), (2, .int .u16 ((m : Nat) : Int)), (8, .ptr 1 0 0), (9, .int .i64 ((d.n : Nat) : Int)), (10, .int .u64 ((allN d.n : Nat) : Int)), (11, .int .u64 (((b &&& allN d.n) : Nat) : Int)), (12, .int .u64 ((((b ||| m) &&& allN d.n) : Nat) : Int)), (13, .ptr 2 0 0), (33, .agg [.vs (osV d.os) (some d.n), .vs (rowsV (rowsC d.rows)) (some d.n), .vs (osV d.os) (some d.n), .vs (rowsV (rowsC d.rows1)) (some d.n)]), (34, .int .i64 ((1 : Nat) : Int)), (51, .int .i64 ((p : Nat) : Int))]) (fun p => ⟨[some (.rows [drV d _] false false), some (.rows [modV d.os (some d.n) d.rows1 (some d.n)] false false), some (.rows [match p with | 0 => z3 ++ z3 | 1 => (tri d.os (rowsC d.rows1) (b &&& allN d.n) 0) ++ z3 | _ => (tri d.os (rowsC d.rows1) (b &&& allN d.n) 0) ++ (tri d.os (rowsC d.rows1) (b &&& allN d.n) 1)] false false)], []⟩) ?_ 0 _ (Nat.zero_le _) rfl rfl ⟨rfl, rfl, rfl, rfl, rfl, rfl, rfl, rfl, rfl, rfl, rfl, trivial⟩
        rintro p g2 p1
        replace p1 : p ≤ 2 := p1
        have hp3 : p = 0 ∨ p = 1 ∨ p = 2 := by omega
        rcases hp3 with rfl | rfl | rfl
        · have h01 : 0 = 0 ∨ 0 = 1 := by omega
          have hSn : Sub (b &&& allN d.n) (allN d.os.length) := by rw [hol]; exact sub_and b d.n
          have hTn : Sub ((b ||| m) &&& allN d.n) (allN d.os.length) := by rw [hol]; exact sub_and (b ||| m) d.n
          have hST := sub_and_or b m d.n
          have c1 := positive_ok (oc := some d.n) (cc := some d.n) hV pM hSn (player := 0) h01
          have c2 := sure_ok (oc := some d.n) (cc := some d.n) hV pM hSn (player := 0) h01
          have c3 := avoid_ok (oc := some d.n) (cc := some d.n) hV pM hSn (player := 0) h01
          have c4 := positive_ok (oc := some d.n) (cc := some d.n) hV pM hTn (player := 0) h01
          have c5 := sure_ok (oc := some d.n) (cc := some d.n) hV pM hTn (player := 0) h01
          have c6 := positive_ok (oc := some d.n) (cc := some d.n) hV pM hSn (player := 1) (by omega)
          have D1 := diffN_zero (target_sure (rows := rowsC d.rows1) (player := 0) hSn)
          have D2 := diffN_zero (sure_pos (rows := rowsC d.rows1) (player := 0) hSn)
          have D3 := diffN_zero (pos_pos (os := d.os) (rows := rowsC d.rows1) (player := 0) hST)
          have D4 := diffN_zero (sure_sure (rows := rowsC d.rows1) (player := 0) hST hTn)
          have D5 : diffN (allN d.os.length) (posN d.os (rowsC d.rows1) (1 - 0) (b &&& allN d.n)) = diffN (allN d.n) (posN d.os (rowsC d.rows1) 1 (b &&& allN d.n)) := by rw [hol]
          conv => whnf
          refine condX_t (decide_eq_true (by decide)) ?_
          conv => whnf
          repeat ((first | refine ldX_eq rfl ?_ | refine callX_pure c1 (pure3 pM (.int _ _) (.int _ _)) ?_ | refine callX_pure c2 (pure3 pM (.int _ _) (.int _ _)) ?_ | refine callX_pure c3 (pure3 pM (.int _ _) (.int _ _)) ?_ | refine callX_pure c4 (pure3 pM (.int _ _) (.int _ _)) ?_ | refine callX_pure c5 (pure3 pM (.int _ _) (.int _ _)) ?_ | refine callX_pure c6 (pure3 pM (.int _ _) (.int _ _)) ?_ | refine condX_t rfl ?_ | refine condX_f rfl ?_ | rw [ne0 D1] | rw [ne0 D2] | rw [eqr D5] | rw [ne0 D3] | rw [ne0 D4] | refine And.intro rfl (wrapX_nat 1 rfl rfl ?_) | refine And.intro ⟨by decide, by decide⟩ (And.intro (Nat.le_of_ble_eq_true rfl) ?_) | refine stX_box rfl ?_ | refine And.intro rfl (wrapX_i64 (by decide) ?_) | refine And.intro rfl ?_); conv => whnf)
          exact ⟨1, by show 2 - 1 < 2 - 0; decide, by decide, rfl, rfl, rfl, rfl, rfl, rfl, rfl, rfl, rfl, rfl, rfl, rfl, rfl, trivial⟩
        · have h01 : 1 = 0 ∨ 1 = 1 := by omega
          have hSn : Sub (b &&& allN d.n) (allN d.os.length) := by rw [hol]; exact sub_and b d.n
          have hTn : Sub ((b ||| m) &&& allN d.n) (allN d.os.length) := by rw [hol]; exact sub_and (b ||| m) d.n
          have hST := sub_and_or b m d.n
          have c1 := positive_ok (oc := some d.n) (cc := some d.n) hV pM hSn (player := 1) h01
          have c2 := sure_ok (oc := some d.n) (cc := some d.n) hV pM hSn (player := 1) h01
          have c3 := avoid_ok (oc := some d.n) (cc := some d.n) hV pM hSn (player := 1) h01
          have c4 := positive_ok (oc := some d.n) (cc := some d.n) hV pM hTn (player := 1) h01
          have c5 := sure_ok (oc := some d.n) (cc := some d.n) hV pM hTn (player := 1) h01
          have c6 := positive_ok (oc := some d.n) (cc := some d.n) hV pM hSn (player := 0) (by omega)
          have D1 := diffN_zero (target_sure (rows := rowsC d.rows1) (player := 1) hSn)
          have D2 := diffN_zero (sure_pos (rows := rowsC d.rows1) (player := 1) hSn)
          have D3 := diffN_zero (pos_pos (os := d.os) (rows := rowsC d.rows1) (player := 1) hST)
          have D4 := diffN_zero (sure_sure (rows := rowsC d.rows1) (player := 1) hST hTn)
          have D5 : diffN (allN d.os.length) (posN d.os (rowsC d.rows1) (1 - 1) (b &&& allN d.n)) = diffN (allN d.n) (posN d.os (rowsC d.rows1) 0 (b &&& allN d.n)) := by rw [hol]
          conv => whnf
          refine condX_t (decide_eq_true (by decide)) ?_
          conv => whnf
          repeat ((first | refine ldX_eq rfl ?_ | refine callX_pure c1 (pure3 pM (.int _ _) (.int _ _)) ?_ | refine callX_pure c2 (pure3 pM (.int _ _) (.int _ _)) ?_ | refine callX_pure c3 (pure3 pM (.int _ _) (.int _ _)) ?_ | refine callX_pure c4 (pure3 pM (.int _ _) (.int _ _)) ?_ | refine callX_pure c5 (pure3 pM (.int _ _) (.int _ _)) ?_ | refine callX_pure c6 (pure3 pM (.int _ _) (.int _ _)) ?_ | refine condX_t rfl ?_ | refine condX_f rfl ?_ | rw [ne0 D1] | rw [ne0 D2] | rw [eqr D5] | rw [ne0 D3] | rw [ne0 D4] | refine And.intro rfl (wrapX_nat 0 rfl rfl ?_) | refine And.intro ⟨by decide, by decide⟩ (And.intro (Nat.le_of_ble_eq_true rfl) ?_) | refine stX_box rfl ?_ | refine And.intro rfl (wrapX_i64 (by decide) ?_) | refine And.intro rfl ?_); conv => whnf)
          exact ⟨2, by show 2 - 2 < 2 - 1; decide, by decide, rfl, rfl, rfl, rfl, rfl, rfl, rfl, rfl, rfl, rfl, rfl, rfl, rfl, trivial⟩
        · have hcc := chain_pure (oc := some d.n) (cc := some d.n) hMO
          conv => whnf
          refine condX_f (decide_eq_false (by decide)) ?_
          conv => whnf
          cases hob : oneB d.rows1 with
          | false =>
            rw [hob] at hcc
            repeat ((first | refine ldX_eq rfl ?_ | refine callX_pure hcc (pure1 pM) ?_ | refine condX_f rfl ?_ | refine And.intro rfl (wrapX_i64 (by decide) ?_) | refine And.intro rfl ?_); conv => whnf)
            exact ⟨2, [_, _], by show 2 - 2 < 2 - 1; decide, by decide, rfl, rfl, rfl, rfl, rfl, rfl, trivial⟩
          | true =>
            rw [hob] at hcc
            have h1 : ∀ r ∈ rowsC d.rows1, r.1.length = 1 := one_rows hob
            have q1 := pos_chain (os := d.os) h1 hV.width (p := 0) (q := 1) (t := (b &&& allN d.n))
            have q2 := sure_chain (os := d.os) h1 hV.width (p := 0) (q := 1) (t := (b &&& allN d.n))
            have htri : tri d.os (rowsC d.rows1) (b &&& allN d.n) 0 = tri d.os (rowsC d.rows1) (b &&& allN d.n) 1 := by
              show [_, _, _] = [_, _, _]
              rw [q1, q2]
            rw [htri]
            repeat ((first | refine ldX_eq rfl ?_ | refine callX_pure hcc (pure1 pM) ?_ | refine condX_t rfl ?_ | refine condX_f rfl ?_ | refine And.intro ⟨by decide, by decide⟩ (And.intro (Nat.le_of_ble_eq_true rfl) ?_) | refine Or.inl (neq_arr (xs := tri d.os (rowsC d.rows1) (b &&& allN d.n) 1) (eq_tri _ _ _) ?_) | refine And.intro rfl (wrapX_i64 (by decide) ?_) | refine And.intro rfl ?_); conv => whnf)
            exact ⟨2, [_, _], by show 2 - 2 < 2 - 1; decide, by decide, rfl, rfl, rfl, rfl, rfl, rfl, trivial⟩
      · conv => whnf
        refine condX_f (decide_eq_false (by decide)) ?_
        conv => whnf
        repeat ((first | refine And.intro rfl ?_); conv => whnf)
        exact .pure _ (.bool _)
end
end Go.Abs
