/-
  Steps to a law of this program: SMd8, SMd9, SRf0, SRf1, SRf2, SRf3, SRf4, SRg1, SKn2.
  Conditions: none.
-/
import Derived.Test.YtpdnijifmebnbaaGreatDoorB26
import Derived.Test.YtpdnijifmebnbaaGreatDoorB25
import Derived.Test.YtpdnijifmebnbaaGreatDoorB15
import Derived.Test.YtpdnijifmebnbaaGreatDoorB20
import Derived.Test.YtpdnijifmebnbaaGreatDoorB19
set_option linter.unusedVariables false
set_option linter.unusedSimpArgs false
set_option linter.unusedSectionVars false
namespace Go.Abs
noncomputable section
open Go.Proofs
set_option maxRecDepth 100000

theorem owned1_pure {o : Nat} (ho : o = 0 ∨ o = 1) : PureSem Tryz.prog 98 [.int .i64 ((o : Nat) : Int)] (.bool false) := by
  refine pure_of_call (pure1 (.int _ _)) (.bool _) (call_x modelT_ok mixed Tryz.func98 rfl (by decide +kernel) ?_)
  rcases ho with rfl | rfl
  all_goals
    conv => whnf
    repeat ((first | refine condX_t rfl ?_ | refine condX_f rfl ?_ | refine And.intro rfl ?_); conv => whnf)
    exact .pure _ (.bool _)

theorem sized1_pure {cs : List (List AV)} {cap : Option Nat} (hp : Pure (.vs cs cap)) (h1 : 1 ≤ cs.length ∧ cs.length ≤ 4) : PureSem Tryz.prog 96 [.vs cs cap] (.bool false) := by
  have e1 : ¬ ((cs.length : Nat) : Int) < 1 := by omega
  have e2 : ¬ ((cs.length : Nat) : Int) > 4 := by omega
  refine pure_of_call (pure1 hp) (.bool _) (call_x modelT_ok mixed Tryz.func96 rfl (by decide +kernel) ?_)
  conv => whnf
  repeat ((first | refine lenX_eq rfl ?_ | refine condX_t (by rw [decide_eq_false e1]; rfl) ?_ | refine condX_f (decide_eq_false e1) ?_ | refine condX_f (decide_eq_false e2) ?_ | refine condX_t rfl ?_ | refine condX_f rfl ?_ | refine And.intro rfl ?_); conv => whnf)
  rw [decide_eq_false e2]
  exact .pure _ (.bool _)

theorem named1_pure {b : UInt8} (h : 97 ≤ b.toNat ∧ b.toNat ≤ 122) : PureSem Tryz.prog 100 [.int .u8 b.toNat] (.bool false) := by
  have e1 : ¬ ((b.toNat : Nat) : Int) < 97 := by omega
  have e2 : ¬ ((b.toNat : Nat) : Int) > 122 := by omega
  refine pure_of_call (pure1 (.int _ _)) (.bool _) (call_x modelT_ok mixed Tryz.func100 rfl (by decide +kernel) ?_)
  conv => whnf
  repeat ((first | refine condX_t (by rw [decide_eq_false e1]; rfl) ?_ | refine condX_f (decide_eq_false e1) ?_ | refine condX_f (decide_eq_false e2) ?_ | refine condX_t rfl ?_ | refine condX_f rfl ?_ | refine And.intro rfl ?_); conv => whnf)
  rw [decide_eq_false e2]
  exact .pure _ (.bool _)

theorem actOf {a : List UInt8} (h : a.length ≤ 8) (hb : ∀ b ∈ a, 97 ≤ b.toNat ∧ b.toNat ≤ 122) : ActOf a := by
  refine ⟨h, con_none_byte (c := none) (by omega) ?_ (fun z hz => named1_pure (hb z hz)) (fun z hz => .int _ _)⟩
  refine .vs _ _ fun i hi j hj => ?_
  have hi' : i < a.length := by simpa [byV] using hi
  have e : (byV a)[i] = [.int .u8 a[i].toNat] := by simp [byV]
  have hm : (byV a)[i][j] ∈ [AV.int .u8 a[i].toNat] := by rw [← e]; exact List.getElem_mem _
  rw [List.mem_singleton.1 hm]
  exact .int _ _

theorem pure_os (os : List Nat) (oc : Option Nat) : Pure (.vs (osV os) oc) := .vs _ _ fun i hi j hj => by
  have hi' : i < os.length := by simpa [osV] using hi
  have e : (osV os)[i] = [.int .i64 ((os[i] : Nat) : Int)] := by simp [osV]
  have hm : (osV os)[i][j] ∈ [AV.int .i64 ((os[i] : Nat) : Int)] := by rw [← e]; exact List.getElem_mem _
  rw [List.mem_singleton.1 hm]
  exact .int _ _

theorem owned_call {rows : List ChR} {os : List Nat} {oc cc : Option Nat} {p g : Nat} (ho : ∀ o ∈ os, o = 0 ∨ o = 1) (hn : os.length < 4611686018427387904) :
    CallSem Tryz.prog 77 [.ptr 0 0 0] ⟨[cellH (osV os) oc rows cc p g], []⟩ fun r h' => r = .bool true ∧ h' = ⟨[cellH (osV os) oc rows cc p g], []⟩ := by
  have hc := con_none_int (c := oc) hn (pure_os os oc) (fun z hz => owned1_pure (ho z hz)) (fun z hz => .int _ _)
  refine call_x modelT_ok mixed Tryz.func77 rfl (by decide +kernel) ?_
  conv => whnf
  repeat ((first | refine ldX_eq rfl ?_ | refine callX_pure hc (pure2 (pure_os os oc) (pure_fn0 _)) ?_ | refine And.intro rfl ?_); conv => whnf)

set_option maxHeartbeats 2000000 in
set_option maxRecDepth 100000 in
theorem sized_call {rows : List ChR} {os : List Nat} {oc cc : Option Nat} {p g : Nat} (pM : Pure (.agg [.vs (osV os) oc, .vs (rowsV rows) cc])) (hn : 1 ≤ os.length ∧ os.length ≤ 12) (hr : rows.length = os.length) (hc1 : ∀ r ∈ rows, 1 ≤ r.1.length ∧ r.1.length ≤ 4) (hpr : ∀ r ∈ rows, Pure (.vs r.1 r.2)) :
    CallSem Tryz.prog 76 [.ptr 0 0 0] ⟨[cellH (osV os) oc rows cc p g], []⟩ fun r h' => r = .bool true ∧ h' = ⟨[cellH (osV os) oc rows cc p g], []⟩ := by
  have pR : Pure (.vs (rowsV rows) cc) := by
    cases pM with
    | agg _ hq => exact hq 1 (by simp)
  have hc := con_none_rows (c := cc) (by omega) pR (fun z hz => sized1_pure (hpr z hz) (hc1 z hz)) hpr
  have hlo : (osV os).length = os.length := by simp [osV]
  have hlr : (rowsV rows).length = os.length := by simp [rowsV, hr]
  have e1 : ((os.length : Nat) : Int) ≥ 1 := by omega
  have e2 : ((os.length : Nat) : Int) ≤ 12 := by omega
  refine call_x modelT_ok mixed Tryz.func76 rfl (by decide +kernel) ?_
  conv => whnf
  refine Or.inl ⟨by decide +kernel, ?_⟩
  conv => whnf
  repeat ((first | refine condX_t (by rw [decide_eq_true e1]; rfl) ?_ | refine condX_t (by rw [decide_eq_true e2]; rfl) ?_ | refine condX_t (by simp) ?_ | refine condX_t rfl ?_ | refine ⟨_, _, fun K hK => (by (conv => whnf); first | exact hK | exact ldX_eq rfl hK | exact condX_t (decide_eq_true e1) hK | exact condX_t (decide_eq_true e2) hK | exact condX_t (by simp) hK | exact condX_t rfl hK | exact lenX_eq hlo hK | exact lenX_eq hlr hK | exact callX_pure hc (pure2 pR (pure_fn0 _)) hK | (refine stX_box rfl ?_; (conv => whnf); exact hK)), Or.inl ⟨rfl, (by repeat' (first | exact True.intro | refine And.intro ?_ ?_ | exact Or.inl (by decide +kernel) | decide +kernel | exact Or.inr (fun K hK => (by (conv => whnf); first | exact hK | exact ldX_eq rfl hK | exact condX_t (decide_eq_true e1) hK | exact condX_t (decide_eq_true e2) hK | exact condX_t (by simp) hK | exact condX_t rfl hK | exact lenX_eq hlo hK | exact lenX_eq hlr hK | exact callX_pure hc (pure2 pR (pure_fn0 _)) hK | (refine stX_box rfl ?_; (conv => whnf); exact hK))))), ?_⟩⟩ | refine ⟨_, _, fun K hK => (by (conv => whnf); first | exact hK | exact ldX_eq rfl hK | exact condX_t (decide_eq_true e1) hK | exact condX_t (decide_eq_true e2) hK | exact condX_t (by simp) hK | exact condX_t rfl hK | exact lenX_eq hlo hK | exact lenX_eq hlr hK | exact callX_pure hc (pure2 pR (pure_fn0 _)) hK | (refine stX_box rfl ?_; (conv => whnf); exact hK)), Or.inr ⟨(by repeat' (first | exact True.intro | refine And.intro ?_ ?_ | exact Or.inl (by decide +kernel) | decide +kernel | exact Or.inr (fun K hK => (by (conv => whnf); first | exact hK | exact ldX_eq rfl hK | exact condX_t (decide_eq_true e1) hK | exact condX_t (decide_eq_true e2) hK | exact condX_t (by simp) hK | exact condX_t rfl hK | exact lenX_eq hlo hK | exact lenX_eq hlr hK | exact callX_pure hc (pure2 pR (pure_fn0 _)) hK | (refine stX_box rfl ?_; (conv => whnf); exact hK))))), (by repeat' (first | exact True.intro | refine And.intro ?_ ?_ | exact Or.inl (by decide +kernel) | decide +kernel | exact Or.inr (fun K hK => (by (conv => whnf); first | exact hK | exact ldX_eq rfl hK | exact condX_t (decide_eq_true e1) hK | exact condX_t (decide_eq_true e2) hK | exact condX_t (by simp) hK | exact condX_t rfl hK | exact lenX_eq hlo hK | exact lenX_eq hlr hK | exact callX_pure hc (pure2 pR (pure_fn0 _)) hK | (refine stX_box rfl ?_; (conv => whnf); exact hK))))), ?_⟩⟩); conv => whnf)
  exact ⟨rfl, rfl⟩
end
end Go.Abs

namespace Go.Abs
noncomputable section
open Go.Proofs

def RuleOK (f : FuncId) (os : List Nat) (oc : Option Nat) (rows : List ChR) (cc : Option Nat) : Prop :=
  ∀ p g, CallSem Tryz.prog f [.ptr 0 0 0] ⟨[cellH (osV os) oc rows cc p g], []⟩ fun r h' => r = .bool true ∧ ∃ q : Nat × Nat, h' = ⟨[cellH (osV os) oc rows cc q.1 q.2], []⟩

theorem rule_at {f : FuncId} {os : List Nat} {oc : Option Nat} {rows : List ChR} {cc : Option Nat} {p g B : Nat} {h : Heap} {K : AV → Heap → Prop} (hR : RuleOK f os oc rows cc) (pM : Pure (.agg [.vs (osV os) oc, .vs (rowsV rows) cc]))
    (hb : h.blk? B = cellH (osV os) oc rows cc p g) (hB : B < h.blks.length) (hfz : ∀ (b : Nat) (rs : List (List AV)) (g fz : Bool), h.blk? b = some (.rows rs g fz) → fz = false)
    (hk : ∀ p g : Nat, K (.bool true) (h.put B (.rows [[.vs (osV os) oc, .vs (rowsV rows) cc, .int .i64 ((p : Nat) : Int), .int .i64 ((g : Nat) : Int)]] false false))) : CallSem Tryz.prog f [.ptr B 0 0] h K :=
  call_cell (Φ := fun _ : Nat × Nat => True) (row' := fun q => [.vs (osV os) oc, .vs (rowsV rows) cc, .int .i64 ((q.1 : Nat) : Int), .int .i64 ((q.2 : Nat) : Int)]) (R := .bool true) hb hB hfz (fun _ h => by simp at h) (cell_pure pM) (fun _ _ => cell_pure pM)
    ((hR p g).mono fun r h' ⟨h1, q, h2⟩ => ⟨h1, q, trivial, h2⟩) (.bool _) fun q _ => hk q.1 q.2

structure ValidM (os : List Nat) (rows : List ChR) : Prop where
  states : 1 ≤ os.length ∧ os.length ≤ 12
  owners : ∀ o ∈ os, o = 0 ∨ o = 1
  width : rows.length = os.length
  count : ∀ r ∈ rows, 1 ≤ r.1.length ∧ r.1.length ≤ 4
  names : ∀ v ∈ allV 0 rows, NameV v
  gains : ∃ D, (D ≤ 9999 ∧ 0 < D) ∧ ∀ v ∈ allV 0 rows, GainV D v
  branches : ∃ D, (D ≤ 9999 ∧ 0 < D) ∧ ∀ v ∈ allV 0 rows, SprV os.length D v
  cells : ∀ r ∈ rows, ∀ ch ∈ r.1, ChC ch

theorem ValidM.chs {os : List Nat} {rows : List ChR} (h : ValidM os rows) : ∀ r ∈ rows, r.1.length < 4611686018427387904 := fun r hr => by have := h.count r hr; omega
theorem pureOs {os : List Nat} : ∀ r ∈ osV os, ∀ x ∈ r, Pure x := fun r hr x hx => by
  obtain ⟨o, _, rfl⟩ := List.mem_map.1 hr
  rw [List.mem_singleton.1 hx]; exact .int _ _
theorem pureCh {rows : List ChR} (hc : ∀ r ∈ rows, ∀ ch ∈ r.1, ChC ch) : ∀ r ∈ rows, Pure (.vs r.1 r.2) := fun r hr => .vs _ _ fun p hp q hq => by
  obtain ⟨a, g, ns, c, hch, hns⟩ := hc r hr _ (List.getElem_mem hp)
  have hm : r.1[p][q] ∈ [AV.str a, .str g, .vs ns c] := by rw [← hch]; exact List.getElem_mem _
  simp only [List.mem_cons, List.not_mem_nil, or_false] at hm
  rcases hm with h | h | h <;> rw [h]
  · exact .str _
  · exact .str _
  · exact .vs _ _ fun x hx y hy => hns _ (List.getElem_mem hx) _ (List.getElem_mem hy)

theorem rule_sized {os : List Nat} {oc : Option Nat} {rows : List ChR} {cc : Option Nat} (h : ValidM os rows) (pM : Pure (.agg [.vs (osV os) oc, .vs (rowsV rows) cc])) : RuleOK 76 os oc rows cc := fun p g =>
  (sized_call pM h.states h.width h.count (pureCh h.cells)).mono fun _ _ ⟨h1, h2⟩ => ⟨h1, (p, g), h2⟩
theorem rule_owned {os : List Nat} {oc : Option Nat} {rows : List ChR} {cc : Option Nat} (h : ValidM os rows) : RuleOK 77 os oc rows cc := fun p g =>
  (owned_call h.owners (by have := h.states; omega)).mono fun _ _ ⟨h1, h2⟩ => ⟨h1, (p, g), h2⟩
theorem rule_named {os : List Nat} {oc : Option Nat} {rows : List ChR} {cc : Option Nat} (h : ValidM os rows) (pM : Pure (.agg [.vs (osV os) oc, .vs (rowsV rows) cc])) : RuleOK 78 os oc rows cc := fun p g => by
  refine call_drop (named_call pureOs h.cells (by have := h.states; have := h.width; omega) h.chs h.names) rfl ?_
  rintro r h' ⟨rfl, G, rfl⟩
  exact ⟨[cellH (osV os) oc rows cc p g], G, 1, rfl, Nat.le_refl _, ltB1 (p := p) pM g, .bool _, rfl, (p, g), rfl⟩
theorem rule_gained {os : List Nat} {oc : Option Nat} {rows : List ChR} {cc : Option Nat} (h : ValidM os rows) (pM : Pure (.agg [.vs (osV os) oc, .vs (rowsV rows) cc])) : RuleOK 79 os oc rows cc := fun p g => by
  obtain ⟨D, hD, hv⟩ := h.gains
  refine call_drop (gained_call pureOs h.cells (by have := h.states; have := h.width; omega) h.chs hD hv) rfl ?_
  rintro r h' ⟨rfl, g', G, rfl⟩
  exact ⟨[cellH (osV os) oc rows cc p g'], G, 1, rfl, Nat.le_refl _, ltB1 (p := p) pM g', .bool _, rfl, (p, g'), rfl⟩
theorem rule_branched {os : List Nat} {oc : Option Nat} {rows : List ChR} {cc : Option Nat} (h : ValidM os rows) (pM : Pure (.agg [.vs (osV os) oc, .vs (rowsV rows) cc])) : RuleOK 80 os oc rows cc := fun p g => by
  obtain ⟨D, hD, hv⟩ := h.branches
  have hlen : (osV os).length = os.length := by simp [osV]
  refine call_drop (branched_call pureOs h.cells (by have := h.states; have := h.width; omega) h.chs (by rw [hlen]; have := h.states; omega) hD (by rw [hlen]; exact hv)) rfl ?_
  rintro r h' ⟨rfl, p', G, rfl⟩
  exact ⟨[cellH (osV os) oc rows cc p' g], G, 1, rfl, Nat.le_refl _, ltB1 (p := p') pM g, .bool _, rfl, (p', g), rfl⟩

set_option maxHeartbeats 4000000 in
set_option maxRecDepth 100000 in
theorem check_ok {os : List Nat} {oc : Option Nat} {rows : List ChR} {cc : Option Nat} (h : ValidM os rows) : PureSem Tryz.prog 39 [.agg [.vs (osV os) oc, .vs (rowsV rows) cc]] (.int .i64 0) := by
  have hall := all_pure (oc := oc) (cc := cc) (pureOs (os := os)) h.cells
  have pM := pM_of hall.pure
  refine pure_of_call (pure1 pM) (.int _ _) (call_x modelT_ok mixed Tryz.func39 rfl (by decide +kernel) ?_)
  conv => whnf
  repeat ((first | refine And.intro ⟨rfl, by decide, rfl⟩ ?_ | refine And.intro ⟨by decide, rfl⟩ ?_ | refine ldX_eq rfl ?_ | refine stX_box rfl ?_); conv => whnf)
  refine callX_of (call_x modelT_ok mixed Tryz.func57 rfl (by decide +kernel) ?_)
  conv => whnf
  repeat ((first | refine And.intro ⟨rfl, by decide, rfl⟩ ?_ | refine And.intro ⟨by decide, rfl⟩ ?_ | refine ldX_eq rfl ?_ | refine stX_box rfl ?_); conv => whnf)
  refine t_inScope (run_x modelT_ok mixed ?_)
  conv => whnf
  repeat ((first | refine And.intro ⟨rfl, by decide, rfl⟩ ?_ | refine And.intro ⟨by decide, rfl⟩ ?_ | refine ldX_eq rfl ?_ | refine stX_box rfl ?_); conv => whnf)
  refine t_inLoop (run_x modelT_ok mixed ?_)
  conv => whnf
  repeat ((first | refine condX_t rfl ?_ | refine condX_f rfl ?_ | refine And.intro rfl ?_ | refine And.intro ⟨by decide, by decide⟩ ⟨_, rfl, ?_⟩); conv => whnf)
  refine callX_of (rule_at (rule_sized h pM) pM rfl (by simp) (nofz_ok rfl) fun p0 g0 => ?_)
  conv => whnf
  repeat ((first | refine condX_t rfl ?_ | refine condX_f rfl ?_ | refine And.intro rfl (wrapX_i64 (by omega) ?_) | refine And.intro rfl ?_); conv => whnf)
  refine t_inLoop (run_x modelT_ok mixed ?_)
  conv => whnf
  repeat ((first | refine condX_t rfl ?_ | refine condX_f rfl ?_ | refine And.intro rfl ?_ | refine And.intro ⟨by decide, by decide⟩ ⟨_, rfl, ?_⟩); conv => whnf)
  refine callX_of (rule_at (rule_owned h) pM rfl (by simp) (nofz_ok rfl) fun p1 g1 => ?_)
  conv => whnf
  repeat ((first | refine condX_t rfl ?_ | refine condX_f rfl ?_ | refine And.intro rfl (wrapX_i64 (by omega) ?_) | refine And.intro rfl ?_); conv => whnf)
  refine t_inLoop (run_x modelT_ok mixed ?_)
  conv => whnf
  repeat ((first | refine condX_t rfl ?_ | refine condX_f rfl ?_ | refine And.intro rfl ?_ | refine And.intro ⟨by decide, by decide⟩ ⟨_, rfl, ?_⟩); conv => whnf)
  refine callX_of (rule_at (rule_named h pM) pM rfl (by simp) (nofz_ok rfl) fun p2 g2 => ?_)
  conv => whnf
  repeat ((first | refine condX_t rfl ?_ | refine condX_f rfl ?_ | refine And.intro rfl (wrapX_i64 (by omega) ?_) | refine And.intro rfl ?_); conv => whnf)
  refine t_inLoop (run_x modelT_ok mixed ?_)
  conv => whnf
  repeat ((first | refine condX_t rfl ?_ | refine condX_f rfl ?_ | refine And.intro rfl ?_ | refine And.intro ⟨by decide, by decide⟩ ⟨_, rfl, ?_⟩); conv => whnf)
  refine callX_of (rule_at (rule_gained h pM) pM rfl (by simp) (nofz_ok rfl) fun p3 g3 => ?_)
  conv => whnf
  repeat ((first | refine condX_t rfl ?_ | refine condX_f rfl ?_ | refine And.intro rfl (wrapX_i64 (by omega) ?_) | refine And.intro rfl ?_); conv => whnf)
  refine t_inLoop (run_x modelT_ok mixed ?_)
  conv => whnf
  repeat ((first | refine condX_t rfl ?_ | refine condX_f rfl ?_ | refine And.intro rfl ?_ | refine And.intro ⟨by decide, by decide⟩ ⟨_, rfl, ?_⟩); conv => whnf)
  refine callX_of (rule_at (rule_branched h pM) pM rfl (by simp) (nofz_ok rfl) fun p4 g4 => ?_)
  conv => whnf
  repeat ((first | refine condX_t rfl ?_ | refine condX_f rfl ?_ | refine And.intro rfl (wrapX_i64 (by omega) ?_) | refine And.intro rfl ?_); conv => whnf)
  refine t_inLoop (run_x modelT_ok mixed ?_)
  conv => whnf
  repeat ((first | refine condX_t rfl ?_ | refine condX_f rfl ?_ | refine And.intro rfl ?_); conv => whnf)
  exact .pure _ (.int _ _)
end
end Go.Abs

namespace Go.Abs
noncomputable section
open Go.Proofs

def refT : List (TypeId × TI) := [
  (24, { desc := (.struct #[{ name := "States", type := 5, offset := 0, embedded := false, tag := "", pkgPath := "", byteOffset := 0 }, { name := "Owners", type := 5, offset := 1, embedded := false, tag := "", pkgPath := "", byteOffset := 1 }, { name := "Grain", type := 5, offset := 2, embedded := false, tag := "", pkgPath := "", byteOffset := 2 }, { name := "Cents", type := 5, offset := 3, embedded := false, tag := "", pkgPath := "", byteOffset := 3 }, { name := "Picks", type := 22, offset := 4, embedded := false, tag := "", pkgPath := "", byteOffset := 8 }]), size := 5, bytes := 32, zero := [.int .u8 0, .int .u8 0, .int .u8 0, .int .u8 0, .nils], cmp := true }),
  (36, { desc := (.struct #[{ name := "Owner", type := 33, offset := 0, embedded := false, tag := "", pkgPath := "", byteOffset := 0 }, { name := "Choices", type := 34, offset := 1, embedded := false, tag := "", pkgPath := "", byteOffset := 24 }]), size := 2, bytes := 48, zero := [.nils, .nils], cmp := true }),
  (33, { desc := (.slice 3), size := 1, bytes := 24, zero := [.nils], cmp := true }),
  (34, { desc := (.slice 61), size := 1, bytes := 24, zero := [.nils], cmp := true }),
  (3, { desc := (.int .i64), size := 1, bytes := 8, zero := [.int .i64 0], cmp := true }),
  (5, { desc := (.int .u8), size := 1, bytes := 1, zero := [.int .u8 0], cmp := true }),
  (22, { desc := (.slice 60), size := 1, bytes := 24, zero := [.nils], cmp := true }),
  (60, { desc := (.struct #[{ name := "State", type := 5, offset := 0, embedded := false, tag := "", pkgPath := "", byteOffset := 0 }, { name := "Act", type := 5, offset := 1, embedded := false, tag := "", pkgPath := "", byteOffset := 1 }, { name := "Gain", type := 5, offset := 2, embedded := false, tag := "", pkgPath := "", byteOffset := 2 }, { name := "To", type := 57, offset := 3, embedded := false, tag := "", pkgPath := "", byteOffset := 3 }, { name := "Part", type := 58, offset := 6, embedded := false, tag := "", pkgPath := "", byteOffset := 6 }]), size := 8, bytes := 8, zero := [.int .u8 0, .int .u8 0, .int .u8 0, .int .u8 0, .int .u8 0, .int .u8 0, .int .u8 0, .int .u8 0], cmp := true }),
  (61, { desc := (.slice 64), size := 1, bytes := 24, zero := [.nils], cmp := true }),
  (67, { desc := (.struct #[{ name := "To", type := 3, offset := 0, embedded := false, tag := "", pkgPath := "", byteOffset := 0 }, { name := "P", type := 25, offset := 1, embedded := false, tag := "", pkgPath := "", byteOffset := 8 }]), size := 2, bytes := 24, zero := [.int .i64 0, .str []], cmp := true }),
  (62, { desc := (.slice 67), size := 1, bytes := 24, zero := [.nils], cmp := true }),
  (64, { desc := (.struct #[{ name := "Act", type := 9, offset := 0, embedded := false, tag := "", pkgPath := "", byteOffset := 0 }, { name := "Gain", type := 25, offset := 1, embedded := false, tag := "", pkgPath := "", byteOffset := 16 }, { name := "Next", type := 62, offset := 2, embedded := false, tag := "", pkgPath := "", byteOffset := 32 }]), size := 3, bytes := 56, zero := [.str [], .str [], .nils], cmp := true }),
  (27, { desc := (.struct #[{ name := "What", type := 5, offset := 0, embedded := false, tag := "", pkgPath := "", byteOffset := 0 }, { name := "State", type := 5, offset := 1, embedded := false, tag := "", pkgPath := "", byteOffset := 1 }, { name := "At", type := 5, offset := 2, embedded := false, tag := "", pkgPath := "", byteOffset := 2 }, { name := "N", type := 3, offset := 3, embedded := false, tag := "", pkgPath := "", byteOffset := 8 }, { name := "Q", type := 25, offset := 4, embedded := false, tag := "", pkgPath := "", byteOffset := 16 }, { name := "S", type := 9, offset := 5, embedded := false, tag := "", pkgPath := "", byteOffset := 32 }]), size := 6, bytes := 48, zero := [.int .u8 0, .int .u8 0, .int .u8 0, .int .i64 0, .str [], .str []], cmp := true }),
  (9, { desc := .string, size := 1, bytes := 16, zero := [.str []], cmp := true }),
  (25, { desc := .string, size := 1, bytes := 16, zero := [.str []], cmp := true }),
  (30, { desc := (.int .u16), size := 1, bytes := 2, zero := [.int .u16 0], cmp := true }),
  (29, { desc := (.int .u64), size := 1, bytes := 8, zero := [.int .u64 0], cmp := true }),
  (4, { desc := .bool, size := 1, bytes := 1, zero := [.bool false], cmp := true }),
  (81, { desc := (.array 8 3), size := 8, bytes := 64, zero := [.int .i64 0, .int .i64 0, .int .i64 0, .int .i64 0, .int .i64 0, .int .i64 0, .int .i64 0, .int .i64 0], cmp := true }),
  (58, { desc := (.array 2 5), size := 2, bytes := 2, zero := [.int .u8 0, .int .u8 0], cmp := true }),
  (57, { desc := (.array 3 5), size := 3, bytes := 3, zero := [.int .u8 0, .int .u8 0, .int .u8 0], cmp := true }),
  (82, { desc := (.array 4 9), size := 4, bytes := 64, zero := [.str [], .str [], .str [], .str []], cmp := true }),
  (84, { desc := (.array 4 3), size := 4, bytes := 32, zero := [.int .i64 0, .int .i64 0, .int .i64 0, .int .i64 0], cmp := true }),
  (111, { desc := (.slice 25), size := 1, bytes := 24, zero := [.nils], cmp := true }),
  (145, { desc := (.slice 5), size := 1, bytes := 24, zero := [.nils], cmp := true }),
  (157, { desc := (.interface #[("Error", 184)]), size := 1, bytes := 16, zero := [.nili], cmp := false }),
  (185, { desc := (.int .i64), size := 1, bytes := 8, zero := [.int .i64 0], cmp := true })]
theorem refT_ok : TabOK Tryz.prog (tabL refT) := tabL_ok refT (by
  intro p hp
  simp only [refT, List.mem_cons, List.not_mem_nil, or_false] at hp
  rcases hp with rfl | rfl | rfl | rfl | rfl | rfl | rfl | rfl | rfl | rfl | rfl | rfl | rfl | rfl | rfl | rfl | rfl | rfl | rfl | rfl | rfl | rfl | rfl | rfl | rfl | rfl | rfl <;> kernel_rfl)

end
end Go.Abs

namespace Go.Abs
noncomputable section
open Go.Proofs

theorem pureT2 {x y : AV} (h : Pure x) (h' : Pure y) : Pure (.tup [x, y]) := .tup _ fun i hi => by
  match i, hi with
  | 0, _ => exact h
  | 1, _ => exact h'

def valD : List UInt8 → Nat → Nat
  | [], a => a
  | c :: l, a => valD l (a * 10 + (c.toNat - 48))
def DigS (s : List UInt8) : Prop := ∀ c ∈ s, 48 ≤ c.toNat ∧ c.toNat ≤ 57

set_option maxHeartbeats 1000000 in
theorem iatoi_pure {s : List UInt8} (hd : DigS s) (h1 : 1 ≤ s.length) (h2 : s.length ≤ 9) : PureSem Tryz.prog 122 [.str s] (.tup [.int .i64 ((valD s 0 : Nat) : Int), .nili]) := by
  refine pure_of_call (pure1 (.str _)) (pureT2 (.int _ _) .nili) (call_x refT_ok mixed Tryz.func122 rfl (by decide +kernel) ?_)
  conv => whnf
  have hc0 := hd (s[0]'h1) (List.getElem_mem _)
  have e1 : decide ((0 : Int) < ((s.length : Nat) : Int)) = true := decide_eq_true (by omega)
  have e2 : decide (((s.length : Nat) : Int) < (19 : Int)) = true := decide_eq_true (by omega)
  have e3 : ((((s[0]'h1).toNat : Nat) : Int) == 45) = false := beq_eq_false_iff_ne.2 (by omega)
  have e4 : ((((s[0]'h1).toNat : Nat) : Int) == 43) = false := beq_eq_false_iff_ne.2 (by omega)
  repeat ((first | refine And.intro ⟨rfl, by decide, rfl⟩ ?_ | refine And.intro ⟨by decide, rfl⟩ ?_ | refine ldX_eq rfl ?_ | refine And.intro rfl ?_ | refine condX_f rfl ?_ | refine condX_t rfl ?_ | refine lenX_eq rfl ?_ | refine condX_t e1 ?_ | refine condX_t ((congrArg (· == true) e1).trans rfl) ?_ | refine condX_t e2 ?_ | refine condX_t ((congrArg (· == true) e2).trans rfl) ?_ | refine idsX_at 0 rfl h1 ?_ | refine condX_f e3 ?_ | refine condX_f e4 ?_ | refine condX_t ((congrArg (· == false) e3).trans rfl) ?_ | refine condX_t ((congrArg (· == false) e4).trans rfl) ?_); conv => whnf)
  refine Or.inr ?_
  conv => whnf
  have hbl : (s.map fun b => [AV.int .u8 b.toNat]).length = s.length := by simp
  repeat ((first | refine And.intro ⟨rfl, by decide, rfl⟩ ?_ | refine And.intro ⟨by decide, rfl⟩ ?_ | refine ldX_eq rfl ?_ | refine And.intro rfl ?_ | refine lenX_eq hbl ?_); conv => whnf)
  refine loop_p refT_ok mixed 77 (fun z : Nat × Nat => s.length - z.1) (fun z => z.1 ≤ s.length ∧ valD (s.drop z.1) z.2 = valD s 0 ∧ z.2 < 10 ^ z.1)
    (fun z => [(5, .str s), (6, .int .i64 ((z.2 : Nat) : Int)), (47, .vs (s.map fun b => [AV.int .u8 b.toNat]) none), (48, .int .i64 ((s.length : Nat) : Int)), (49, .int .i64 ((z.1 : Nat) : Int))]) (fun _ => ⟨[], []⟩) ?_ (0, 0) _ ⟨Nat.zero_le _, rfl, by decide⟩ rfl rfl ⟨rfl, rfl, rfl, rfl, rfl, trivial⟩
  rintro ⟨i, a⟩ g ⟨i1, i2, i3⟩
  replace i1 : i ≤ s.length := i1
  replace i2 : valD (s.drop i) a = valD s 0 := i2
  replace i3 : a < 10 ^ i := i3
  have i4 : a < 1000000000 := Nat.lt_of_lt_of_le i3 (Nat.pow_le_pow_right (by decide) (by omega : i ≤ 9))
  conv => whnf
  refine condX_dec (fun h4 => ?_) (fun h4 => ?_) <;> conv => whnf
  · have hi : i < s.length := by have : ((i : Nat) : Int) < ((s.length : Nat) : Int) := h4; omega
    obtain ⟨c, hc⟩ : ∃ c, s[i] = c := ⟨_, rfl⟩
    obtain ⟨hc1, hc2⟩ : 48 ≤ c.toNat ∧ c.toNat ≤ 57 := hc ▸ hd (s[i]) (List.getElem_mem hi)
    have hdr : s.drop i = c :: s.drop (i + 1) := by rw [List.drop_eq_getElem_cons hi, hc]
    rw [hdr] at i2
    have hbi : (s.map fun b => [AV.int .u8 b.toNat])[i]? = some [.int .u8 ((c.toNat : Nat) : Int)] := by simp [hi, hc]
    have i5 : a * 10 + (c.toNat - 48) < 10 ^ (i + 1) := by rw [Nat.pow_succ]; omega
    repeat ((first | refine idxX_at i rfl hbi rfl ?_ | refine ldX_eq rfl ?_ | refine condX_f (decide_eq_false (by omega)) ?_ | refine And.intro rfl (wrapX_u8 (by omega) ?_) | refine And.intro rfl (wrapX_i64 (by omega) ?_) | refine wrapX_i64 (by omega) ?_ | refine And.intro rfl ?_); conv => whnf)
    refine ⟨(i + 1, a * 10 + (c.toNat - 48)), by show s.length - (i + 1) < s.length - i; omega, ⟨hi, i2, i5⟩, rfl, rfl, rfl, ?_, rfl, rfl, ?_, trivial⟩
    · show some (AV.int .i64 _) = some (AV.int .i64 _)
      congr 2
      push_cast
      omega
    · show some (AV.int .i64 _) = some (AV.int .i64 _)
      congr 2
  · have hi : ¬ ((i : Nat) : Int) < ((s.length : Nat) : Int) := h4
    obtain rfl : i = s.length := by omega
    rw [List.drop_length] at i2
    replace i2 : a = valD s 0 := i2
    repeat ((first | refine idsX_at 0 rfl h1 ?_ | refine condX_f e3 ?_ | refine And.intro rfl ?_); conv => whnf)
    rw [← i2]
    exact .pure _ (pureT2 (.int _ _) .nili)
end
end Go.Abs

namespace Go.Abs
noncomputable section
open Go.Proofs

theorem pureT3 {x y z : AV} (h : Pure x) (h' : Pure y) (h'' : Pure z) : Pure (.tup [x, y, z]) := .tup _ fun i hi => by
  match i, hi with
  | 0, _ => exact h
  | 1, _ => exact h'
  | 2, _ => exact h''

def tx (n : Nat) : List UInt8 := digs 20 n []

theorem valD_app : ∀ (s t : List UInt8) (a : Nat), valD (s ++ t) a = valD t (valD s a)
  | [], _, _ => rfl
  | c :: s, t, a => valD_app s t _
theorem digs_ok : ∀ (k n : Nat) (acc : List UInt8), n < 10 ^ (k + 1) → ∃ s, digs (k + 1) n acc = s ++ acc ∧ DigS s ∧ 1 ≤ s.length ∧ valD s 0 = n ∧ ∀ m, n < 10 ^ m → 1 ≤ m → s.length ≤ m
  | 0, n, acc, h => by
    have : Nat.ble n 9 = true := Nat.ble_eq_true_of_le (by omega)
    have e : (UInt8.ofNat (Nat.add 48 n)).toNat = 48 + n := by
      show (48 + n) % 256 = _
      omega
    refine ⟨[UInt8.ofNat (Nat.add 48 n)], by simp [digs, this], fun c hc => ?_, by simp, ?_, fun m _ hm => by simpa using hm⟩
    · rw [List.mem_singleton.1 hc, e]; omega
    · show 0 * 10 + ((UInt8.ofNat (Nat.add 48 n)).toNat - 48) = n
      rw [e]; omega
  | k + 1, n, acc, h => by
    cases hb : Nat.ble n 9 with
    | true =>
      have hn := Nat.le_of_ble_eq_true hb
      have e : (UInt8.ofNat (Nat.add 48 n)).toNat = 48 + n := by
        show (48 + n) % 256 = _
        omega
      refine ⟨[UInt8.ofNat (Nat.add 48 n)], by simp [digs, hb], fun c hc => ?_, by simp, ?_, fun m _ hm => by simpa using hm⟩
      · rw [List.mem_singleton.1 hc, e]; omega
      · show 0 * 10 + ((UInt8.ofNat (Nat.add 48 n)).toNat - 48) = n
        rw [e]; omega
    | false =>
      have hn : 9 < n := by
        rcases Nat.lt_or_ge 9 n with h | h
        · exact h
        · rw [Nat.ble_eq_true_of_le h] at hb; cases hb
      have e : (UInt8.ofNat (Nat.add 48 (Nat.mod n 10))).toNat = 48 + n % 10 := by
        show (48 + n % 10) % 256 = _
        omega
      obtain ⟨s, h1, h2, h3, h4, h5⟩ := digs_ok k (Nat.div n 10) (UInt8.ofNat (Nat.add 48 (Nat.mod n 10)) :: acc) (by rw [Nat.pow_succ] at h; show n / 10 < _; omega)
      refine ⟨s ++ [UInt8.ofNat (Nat.add 48 (Nat.mod n 10))], ?_, fun c hc => ?_, by simp, ?_, fun m hm h1m => ?_⟩
      · rw [List.append_assoc, List.singleton_append, ← h1]
        conv => lhs; unfold digs
        rw [hb]
      · rcases List.mem_append.1 hc with hc | hc
        · exact h2 c hc
        · rw [List.mem_singleton.1 hc, e]; omega
      · rw [valD_app, h4]
        show n / 10 * 10 + ((UInt8.ofNat (Nat.add 48 (Nat.mod n 10))).toNat - 48) = n
        rw [e]; omega
      · rw [List.length_append, List.length_singleton]
        match m, h1m with
        | 1, _ => simp at hm; omega
        | m + 2, _ =>
          have := h5 (m + 1) (by show n / 10 < _; rw [Nat.pow_succ] at hm; omega) (by omega)
          omega

theorem tx_ok {n : Nat} (h : n < 1000000000) : DigS (tx n) ∧ 1 ≤ (tx n).length ∧ valD (tx n) 0 = n ∧ ∀ m, n < 10 ^ m → 1 ≤ m → (tx n).length ≤ m := by
  obtain ⟨s, h1, h2, h3, h4, h5⟩ := digs_ok 19 n [] (Nat.lt_of_lt_of_le h (by decide))
  rw [List.append_nil] at h1
  unfold tx
  rw [h1]
  exact ⟨h2, h3, h4, h5⟩
theorem tx_len {n : Nat} (h : n < 1000000000) : (tx n).length ≤ 9 := (tx_ok h).2.2.2 9 h (by decide)
theorem tx_inj {n m : Nat} (h : n < 1000000000) (h' : m < 1000000000) (e : tx n = tx m) : n = m := by
  rw [← (tx_ok h).2.2.1, ← (tx_ok h').2.2.1, e]

theorem iatoi_tx {n : Nat} (h : n < 1000000000) : PureSem Tryz.prog 122 [.str (tx n)] (.tup [.int .i64 ((n : Nat) : Int), .nili]) := by
  obtain ⟨h1, h2, h3, _⟩ := tx_ok h
  have := iatoi_pure h1 h2 (tx_len h)
  rw [h3] at this
  exact this
theorem atoi_tx {n : Nat} (h : n < 1000000000) : PureSem Tryz.prog 112 [.str (tx n)] (.tup [.int .i64 ((n : Nat) : Int), .nili]) := by
  have hi := iatoi_tx h
  refine pure_of_call (pure1 (.str _)) (pureT2 (.int _ _) .nili) (call_x refT_ok mixed Tryz.func112 rfl (by decide +kernel) ?_)
  conv => whnf
  repeat ((first | refine And.intro ⟨rfl, by decide, rfl⟩ ?_ | refine And.intro ⟨by decide, rfl⟩ ?_ | refine callX_pure hi (pure1 (.str _)) ?_ | refine ldX_eq rfl ?_ | refine And.intro rfl ?_ | refine condX_f rfl ?_ | refine condX_t rfl ?_ | refine Or.inr ⟨_, Or.inl rfl, ?_⟩); conv => whnf)
  exact .pure _ (pureT2 (.int _ _) .nili)
theorem of1_pure {n : Nat} (h : n < 1000000000) : PureSem Tryz.prog 56 [.int .i64 ((n : Nat) : Int)] (.str (tx n)) := by
  have hi := itoa_pure [.int .i64 ((n : Nat) : Int)] (.str (tx n)) (by
    have : i64B ((n : Nat) : Int) = true := Nat.ble_eq_true_of_le (by omega)
    show (match i64B ((n : Nat) : Int) with | true => some (AV.str (itoaE ((n : Nat) : Int))) | false => none) = _
    rw [this]; rfl)
  refine pure_of_call (pure1 (.int _ _)) (.str _) (call_x refT_ok mixed Tryz.func56 rfl (by decide +kernel) ?_)
  conv => whnf
  repeat ((first | refine And.intro ⟨rfl, by decide, rfl⟩ ?_ | refine callX_pure hi (pure1 (.int _ _)) ?_ | refine And.intro rfl ?_); conv => whnf)
  exact .pure _ (.str _)
theorem little_tx {n m : Nat} (h : n < 1000000000) (h' : m < 1000000000) : PureSem Tryz.prog 88 [.str (tx n), .str (tx m)] (.tup [.int .i64 ((n : Nat) : Int), .int .i64 ((m : Nat) : Int), .bool true]) := by
  have hi := atoi_tx h
  have hj := atoi_tx h'
  have e1 : decide ((((tx n).length : Nat) : Int) > 9) = false := decide_eq_false (by have := tx_len h; omega)
  have e2 : decide ((((tx m).length : Nat) : Int) > 9) = false := decide_eq_false (by have := tx_len h'; omega)
  refine pure_of_call (pure2 (.str _) (.str _)) (pureT3 (.int _ _) (.int _ _) (.bool _)) (call_x refT_ok mixed Tryz.func88 rfl (by decide +kernel) ?_)
  conv => whnf
  repeat ((first | refine And.intro ⟨rfl, by decide, rfl⟩ ?_ | refine callX_pure hi (pure1 (.str _)) ?_ | refine callX_pure hj (pure1 (.str _)) ?_ | refine condX_f e1 ?_ | refine condX_f e2 ?_ | refine condX_t ((congrArg (· == false) e1).trans rfl) ?_ | refine lenX_eq rfl ?_ | refine And.intro rfl ?_); conv => whnf)
  exact .pure _ (pureT3 (.int _ _) (.int _ _) (.bool _))
end
end Go.Abs

namespace Go.Abs
noncomputable section
open Go.Proofs

theorem i64n (n : Nat) (h : n < 9223372036854775808) : IntKind.i64.wrap ((n : Nat) : Int) = ((n : Nat) : Int) := IntWalk.i64_in _ (by omega)

theorem add1_tx {n m : Nat} (h : n < 1000000000) (h' : m < 1000000000) (h2 : n + m < 1000000000) : PureSem Tryz.prog 84 [.str (tx n), .str (tx m)] (.str (tx (n + m))) := by
  have hl := little_tx h h'
  have ho := of1_pure h2
  refine pure_of_call (pure2 (.str _) (.str _)) (.str _) (call_x refT_ok mixed Tryz.func84 rfl (by decide +kernel) ?_)
  conv => whnf
  repeat ((first | refine And.intro ⟨rfl, by decide, rfl⟩ ?_ | refine callX_pure hl (pure2 (.str _) (.str _)) ?_ | refine callX_pure ho (pure1 (.int _ _)) ?_ | refine condX_t rfl ?_ | refine And.intro rfl (wrapX_nat (n + m) (by push_cast; rfl) (i64n _ (by omega)) ?_) | refine And.intro rfl ?_); conv => whnf)
  exact .pure _ (.str _)

theorem mul1_tx {n m : Nat} (h : n < 1000000000) (h' : m < 1000000000) (h2 : n * m < 1000000000) : PureSem Tryz.prog 85 [.str (tx n), .str (tx m)] (.str (tx (n * m))) := by
  have hl := little_tx h h'
  have ho := of1_pure h2
  refine pure_of_call (pure2 (.str _) (.str _)) (.str _) (call_x refT_ok mixed Tryz.func85 rfl (by decide +kernel) ?_)
  conv => whnf
  repeat ((first | refine And.intro ⟨rfl, by decide, rfl⟩ ?_ | refine callX_pure hl (pure2 (.str _) (.str _)) ?_ | refine callX_pure ho (pure1 (.int _ _)) ?_ | refine condX_t rfl ?_ | refine And.intro rfl (wrapX_nat (n * m) (by push_cast; rfl) (i64n _ (by omega)) ?_) | refine And.intro rfl ?_); conv => whnf)
  exact .pure _ (.str _)

theorem sign1_tx {n : Nat} (h : n < 1000000000) (h0 : 0 < n) : PureSem Tryz.prog 72 [.str (tx n)] (.int .i64 1) := by
  obtain ⟨h1, h2, h3, _⟩ := tx_ok h
  have hne : (tx n == [48]) = false := beq_eq_false_iff_ne.2 fun e => by
    rw [e] at h3
    have : valD [48] 0 = 0 := rfl
    omega
  have hn : PureSem Tryz.prog 92 [.str (tx n)] (.bool false) := by
    have hc0 := h1 ((tx n)[0]'h2) (List.getElem_mem _)
    have e3 : (((((tx n)[0]'h2).toNat : Nat) : Int) == 45) = false := beq_eq_false_iff_ne.2 (by omega)
    refine pure_of_call (pure1 (.str _)) (.bool _) (call_x refT_ok mixed Tryz.func92 rfl (by decide +kernel) ?_)
    conv => whnf
    repeat ((first | refine And.intro ⟨rfl, by decide, rfl⟩ ?_ | refine idsX_at 0 rfl h2 ?_ | refine And.intro rfl ?_); conv => whnf)
    rw [e3]
    exact .pure _ (.bool _)
  refine pure_of_call (pure1 (.str _)) (.int _ _) (call_x refT_ok mixed Tryz.func72 rfl (by decide +kernel) ?_)
  conv => whnf
  repeat ((first | refine And.intro ⟨rfl, by decide, rfl⟩ ?_ | refine condX_f hne ?_ | refine callX_pure hn (pure1 (.str _)) ?_ | refine condX_f rfl ?_ | refine And.intro rfl ?_); conv => whnf)
  exact .pure _ (.int _ _)
theorem sign1_zero : PureSem Tryz.prog 72 [.str [48]] (.int .i64 0) := by
  refine pure_of_call (pure1 (.str _)) (.int _ _) (call_x refT_ok mixed Tryz.func72 rfl (by decide +kernel) ?_)
  conv => whnf
  repeat ((first | refine And.intro ⟨rfl, by decide, rfl⟩ ?_ | refine condX_t rfl ?_ | refine And.intro rfl ?_); conv => whnf)
  exact .pure _ (.int _ _)

theorem gcd1_tx {n m : Nat} (h : n < 1000000000) (h' : m < 1000000000) : PureSem Tryz.prog 71 [.str (tx n), .str (tx m)] (.str (tx (Nat.gcd n m))) := by
  have hl := little_tx h h'
  have hg : Nat.gcd n m < 1000000000 := by
    rcases Nat.eq_zero_or_pos n with e | e
    · subst e; rw [Nat.gcd_zero_left]; exact h'
    · exact Nat.lt_of_le_of_lt (Nat.gcd_le_left m e) h
  have ho := of1_pure hg
  refine pure_of_call (pure2 (.str _) (.str _)) (.str _) (call_x refT_ok mixed Tryz.func71 rfl (by decide +kernel) ?_)
  conv => whnf
  repeat ((first | refine And.intro ⟨rfl, by decide, rfl⟩ ?_ | refine callX_pure hl (pure2 (.str _) (.str _)) ?_ | refine condX_t rfl ?_ | refine And.intro rfl ?_); conv => whnf)
  refine loop_p refT_ok mixed 50 (fun z : Nat × Nat => z.2) (fun z => z.1 < 1000000000 ∧ z.2 < 1000000000 ∧ Nat.gcd z.1 z.2 = Nat.gcd n m)
    (fun z => [(5, .int .i64 ((z.1 : Nat) : Int)), (6, .int .i64 ((z.2 : Nat) : Int))]) (fun _ => ⟨[], []⟩) ?_ (n, m) _ ⟨h, h', rfl⟩ rfl rfl ⟨rfl, rfl, trivial⟩
  rintro ⟨a, b⟩ g ⟨i1, i2, i3⟩
  replace i1 : a < 1000000000 := i1
  replace i2 : b < 1000000000 := i2
  replace i3 : Nat.gcd a b = Nat.gcd n m := i3
  conv => whnf
  by_cases hb : b = 0
  · subst hb
    rw [Nat.gcd_zero_right] at i3
    subst i3
    refine condX_f rfl ?_
    conv => whnf
    repeat ((first | refine And.intro rfl (wrapX_i64 (by omega) ?_) | refine wrapX_i64 (by omega) ?_ | refine And.intro rfl ?_); conv => whnf)
    have ho' : PureSem Tryz.prog 56 [.int .i64 (max ((Nat.gcd n m : Nat) : Int) (0 - ((Nat.gcd n m : Nat) : Int)))] (.str (tx (Nat.gcd n m))) := by
      have e : max ((Nat.gcd n m : Nat) : Int) (0 - ((Nat.gcd n m : Nat) : Int)) = ((Nat.gcd n m : Nat) : Int) := by omega
      rw [e]; exact ho
    refine callX_pure ho' (pure1 (.int _ _)) ?_
    conv => whnf
    repeat ((first | refine And.intro rfl ?_); conv => whnf)
    exact .pure _ (.str _)
  · refine condX_t (bne_iff_ne.2 (by omega)) ?_
    conv => whnf
    repeat ((first | refine And.intro rfl (remX_nat a b rfl rfl hb ?_) | refine And.intro rfl ?_); conv => whnf)
    have hlt := Nat.mod_lt a (Nat.pos_of_ne_zero hb)
    refine ⟨(b, a % b), hlt, ⟨i2, by omega, ?_⟩, rfl, rfl, rfl, rfl, trivial⟩
    show Nat.gcd b (a % b) = _
    rw [← i3, Nat.gcd_comm b, ← Nat.gcd_rec, Nat.gcd_comm]

theorem div1_tx {n m : Nat} (h : n < 1000000000) (h' : m < 1000000000) (h0 : m ≠ 0) : PureSem Tryz.prog 74 [.str (tx n), .str (tx m)] (.tup [.str (tx (n / m)), .str (tx (n % m))]) := by
  have hl := little_tx h h'
  have hq : n / m ≤ n := Nat.div_le_self n m
  have ho := of1_pure (n := n / m) (by omega)
  have hr := Nat.mod_lt n (Nat.pos_of_ne_zero h0)
  have ho2 := of1_pure (n := n % m) (by omega)
  have hdm := Nat.div_add_mod n m
  have hmul : (((m : Nat) : Int) * ((n / m : Nat) : Int)) = ((n - n % m : Nat) : Int) := by
    have : m * (n / m) = n - n % m := by omega
    rw [← this]; push_cast; rfl
  have hmod : n % m ≤ n := Nat.mod_le n m
  have n1 : decide (((n : Nat) : Int) < 0) = false := decide_eq_false (by omega)
  have n2 : decide (((m : Nat) : Int) < 0) = false := decide_eq_false (by omega)
  refine pure_of_call (pure2 (.str _) (.str _)) (pureT2 (.str _) (.str _)) (call_x refT_ok mixed Tryz.func74 rfl (by decide +kernel) ?_)
  conv => whnf
  by_cases hz : n % m = 0
  · have z1 : (((n % m : Nat) : Int) != 0) = false := by rw [hz]; rfl
    repeat ((first | refine And.intro ⟨rfl, by decide, rfl⟩ ?_ | refine callX_pure hl (pure2 (.str _) (.str _)) ?_ | refine callX_pure ho (pure1 (.int _ _)) ?_ | refine callX_pure ho2 (pure1 (.int _ _)) ?_ | refine condX_t rfl ?_ | refine condX_f rfl ?_ | refine condX_f z1 ?_ | refine condX_f ((congrArg (· == true) z1).trans rfl) ?_ | refine And.intro rfl (divX_nat n m rfl rfl h0 (i64n _ (by omega)) ?_) | refine And.intro rfl (remX_nat n m rfl rfl h0 ?_) | refine And.intro rfl (wrapX_nat (n - n % m) hmul (i64n _ (by omega)) ?_) | refine And.intro rfl (wrapX_nat (n % m) (by omega) (i64n _ (by omega)) ?_) | refine And.intro rfl ?_); conv => whnf)
    exact .pure _ (pureT2 (.str _) (.str _))
  · have z1 : (((n % m : Nat) : Int) != 0) = true := bne_iff_ne.2 (by omega)
    repeat ((first | refine And.intro ⟨rfl, by decide, rfl⟩ ?_ | refine callX_pure hl (pure2 (.str _) (.str _)) ?_ | refine callX_pure ho (pure1 (.int _ _)) ?_ | refine callX_pure ho2 (pure1 (.int _ _)) ?_ | refine condX_t rfl ?_ | refine condX_f rfl ?_ | refine condX_t z1 ?_ | refine condX_t ((congrArg (· == true) z1).trans rfl) ?_ | refine condX_f (by show (decide (((n : Nat) : Int) < 0) != decide (((m : Nat) : Int) < 0)) = false; rw [n1, n2]; rfl) ?_ | refine And.intro rfl (divX_nat n m rfl rfl h0 (i64n _ (by omega)) ?_) | refine And.intro rfl (remX_nat n m rfl rfl h0 ?_) | refine And.intro rfl (wrapX_nat (n - n % m) hmul (i64n _ (by omega)) ?_) | refine And.intro rfl (wrapX_nat (n % m) (by omega) (i64n _ (by omega)) ?_) | refine And.intro rfl ?_ | refine Or.inl ?_); conv => whnf)
    exact .pure _ (pureT2 (.str _) (.str _))
end
end Go.Abs

namespace Go.Abs
noncomputable section
open Go.Proofs

theorem cut_none {s : List UInt8} (h : ∀ c ∈ s, c.toNat ≠ 47) (hl : s.length < 4611686018427387904) : PureSem Tryz.prog 104 [.str s] (.tup [.str s, .str [49], .bool false]) := by
  refine pure_of_call (pure1 (.str _)) (pureT3 (.str _) (.str _) (.bool _)) (call_x refT_ok mixed Tryz.func104 rfl (by decide +kernel) ?_)
  conv => whnf
  repeat ((first | refine And.intro ⟨rfl, by decide, rfl⟩ ?_ | refine And.intro rfl ?_); conv => whnf)
  refine loop_p refT_ok mixed 24 (fun i : Nat => s.length - i) (fun i => i ≤ s.length) (fun i => [(0, .str s), (5, .int .i64 ((i : Nat) : Int))]) (fun _ => ⟨[], []⟩) ?_ 0 _ (Nat.zero_le _) rfl rfl ⟨rfl, rfl, trivial⟩
  rintro i g i1
  replace i1 : i ≤ s.length := i1
  conv => whnf
  refine lenX_eq rfl ?_
  conv => whnf
  refine condX_dec (fun h4 => ?_) (fun h4 => ?_) <;> conv => whnf
  · have hi : i < s.length := by have : ((i : Nat) : Int) < ((s.length : Nat) : Int) := h4; omega
    have hc := h (s[i]) (List.getElem_mem hi)
    have e : ((((s[i]'hi).toNat : Nat) : Int) == 47) = false := beq_eq_false_iff_ne.2 (by omega)
    repeat ((first | refine idsX_at i rfl hi ?_ | refine condX_f e ?_ | refine And.intro rfl (wrapX_i64 (by omega) ?_) | refine And.intro rfl ?_); conv => whnf)
    refine ⟨i + 1, by show s.length - (i + 1) < s.length - i; omega, hi, rfl, rfl, rfl, ?_, trivial⟩
    show some (AV.int .i64 _) = some (AV.int .i64 _)
    congr 2
  · have hi : ¬ ((i : Nat) : Int) < ((s.length : Nat) : Int) := h4
    repeat ((first | refine And.intro rfl ?_); conv => whnf)
    exact .pure _ (pureT3 (.str _) (.str _) (.bool _))

theorem cut_some {a b s : List UInt8} (hs : s = a ++ 47 :: b) (h : ∀ c ∈ a, c.toNat ≠ 47) (hl : s.length < 4611686018427387904) : PureSem Tryz.prog 104 [.str s] (.tup [.str a, .str b, .bool true]) := by
  have hls : s.length = a.length + (b.length + 1) := by rw [hs]; simp
  refine pure_of_call (pure1 (.str _)) (pureT3 (.str _) (.str _) (.bool _)) (call_x refT_ok mixed Tryz.func104 rfl (by decide +kernel) ?_)
  conv => whnf
  repeat ((first | refine And.intro ⟨rfl, by decide, rfl⟩ ?_ | refine And.intro rfl ?_); conv => whnf)
  refine loop_p refT_ok mixed 24 (fun i : Nat => s.length - i) (fun i => i ≤ a.length) (fun i => [(0, .str s), (5, .int .i64 ((i : Nat) : Int))]) (fun _ => ⟨[], []⟩) ?_ 0 _ (Nat.zero_le _) rfl rfl ⟨rfl, rfl, trivial⟩
  rintro i g i1
  replace i1 : i ≤ a.length := i1
  have hi : i < s.length := by omega
  conv => whnf
  refine lenX_eq rfl ?_
  conv => whnf
  refine condX_t (decide_eq_true (by omega)) ?_
  conv => whnf
  by_cases hia : i < a.length
  · have hsi : s[i] = a[i] := by subst hs; rw [List.getElem_append_left hia]
    have hc := h (a[i]) (List.getElem_mem hia)
    rw [← hsi] at hc
    have e : ((((s[i]'hi).toNat : Nat) : Int) == 47) = false := beq_eq_false_iff_ne.2 (by omega)
    repeat ((first | refine idsX_at i rfl hi ?_ | refine condX_f e ?_ | refine And.intro rfl (wrapX_i64 (by omega) ?_) | refine And.intro rfl ?_); conv => whnf)
    refine ⟨i + 1, by show s.length - (i + 1) < s.length - i; omega, hia, rfl, rfl, rfl, ?_, trivial⟩
    show some (AV.int .i64 _) = some (AV.int .i64 _)
    congr 2
  · obtain rfl : i = a.length := by omega
    have hsi : s[a.length] = 47 := by subst hs; simp
    have e : ((((s[a.length]'hi).toNat : Nat) : Int) == 47) = true := by rw [hsi]; rfl
    have ha1 : (s.take (((a.length : Nat) : Int)).toNat).drop (0 : Int).toNat = a := by subst hs; simp
    have hb1 : (s.take (((s.length : Nat) : Int)).toNat).drop (((a.length : Nat) : Int) + 1).toNat = b := by
      have : (((a.length : Nat) : Int) + 1).toNat = a.length + 1 := by omega
      rw [this, Int.toNat_natCast, List.take_length]; subst hs; simp [List.drop_append]
    repeat ((first | refine idsX_at a.length rfl hi ?_ | refine condX_t e ?_ | refine And.intro rfl ?_); conv => whnf)
    refine Or.inl ⟨by decide +kernel, ?_⟩
    conv => whnf
    repeat ((first | refine ⟨_, _, fun K hK => (by (conv => whnf); first | exact hK | exact ldX_eq rfl hK | exact slsX_eq ⟨by omega, by omega, by omega⟩ ha1 hK | exact slsX_eq ⟨by omega, by omega, by omega⟩ hb1 hK | exact And.intro rfl (wrapX_i64 (by omega) hK) | (refine stX_box rfl ?_; (conv => whnf); exact hK)), Or.inl ⟨rfl, (by repeat' (first | exact True.intro | refine And.intro ?_ ?_ | exact Or.inl (by decide +kernel) | decide +kernel | exact Or.inr (fun K hK => (by (conv => whnf); first | exact hK | exact ldX_eq rfl hK | exact slsX_eq ⟨by omega, by omega, by omega⟩ ha1 hK | exact slsX_eq ⟨by omega, by omega, by omega⟩ hb1 hK | exact And.intro rfl (wrapX_i64 (by omega) hK) | (refine stX_box rfl ?_; (conv => whnf); exact hK))))), ?_⟩⟩ | refine ⟨_, _, fun K hK => (by (conv => whnf); first | exact hK | exact ldX_eq rfl hK | exact slsX_eq ⟨by omega, by omega, by omega⟩ ha1 hK | exact slsX_eq ⟨by omega, by omega, by omega⟩ hb1 hK | exact And.intro rfl (wrapX_i64 (by omega) hK) | (refine stX_box rfl ?_; (conv => whnf); exact hK)), Or.inr ⟨(by repeat' (first | exact True.intro | refine And.intro ?_ ?_ | exact Or.inl (by decide +kernel) | decide +kernel | exact Or.inr (fun K hK => (by (conv => whnf); first | exact hK | exact ldX_eq rfl hK | exact slsX_eq ⟨by omega, by omega, by omega⟩ ha1 hK | exact slsX_eq ⟨by omega, by omega, by omega⟩ hb1 hK | exact And.intro rfl (wrapX_i64 (by omega) hK) | (refine stX_box rfl ?_; (conv => whnf); exact hK))))), (by repeat' (first | exact True.intro | refine And.intro ?_ ?_ | exact Or.inl (by decide +kernel) | decide +kernel | exact Or.inr (fun K hK => (by (conv => whnf); first | exact hK | exact ldX_eq rfl hK | exact slsX_eq ⟨by omega, by omega, by omega⟩ ha1 hK | exact slsX_eq ⟨by omega, by omega, by omega⟩ hb1 hK | exact And.intro rfl (wrapX_i64 (by omega) hK) | (refine stX_box rfl ?_; (conv => whnf); exact hK))))), ?_⟩⟩); conv => whnf)
    exact .pure _ (pureT3 (.str _) (.str _) (.bool _))

def qt (n d : Nat) : List UInt8 := if d = 1 then tx n else tx n ++ 47 :: tx d
def qN (n d : Nat) : List UInt8 := qt (n / Nat.gcd n d) (d / Nat.gcd n d)

theorem make_tx {n d : Nat} (h : n < 1000000000) (h' : d < 1000000000) (h0 : 0 < d) : PureSem Tryz.prog 55 [.str (tx n), .str (tx d)] (.str (qN n d)) := by
  have hg0 : 0 < Nat.gcd n d := Nat.gcd_pos_of_pos_right n h0
  have hg : Nat.gcd n d < 1000000000 := Nat.lt_of_le_of_lt (Nat.gcd_le_right n h0) h'
  have hgcd := gcd1_tx h h'
  have hsg := sign1_tx h' h0
  have hd1 := div1_tx h hg (by omega)
  have hd2 := div1_tx h' hg (by omega)
  obtain ⟨n', hn'⟩ : ∃ n', n / Nat.gcd n d = n' := ⟨_, rfl⟩
  obtain ⟨d', hd'⟩ : ∃ d', d / Nat.gcd n d = d' := ⟨_, rfl⟩
  have ln : n' < 1000000000 := by rw [← hn']; exact Nat.lt_of_le_of_lt (Nat.div_le_self _ _) h
  have ld : d' < 1000000000 := by rw [← hd']; exact Nat.lt_of_le_of_lt (Nat.div_le_self _ _) h'
  have l1 := tx_len ln
  have l2 := tx_len ld
  unfold qN
  rw [hn', hd']
  rw [hn'] at hd1
  rw [hd'] at hd2
  have e1 : (tx d' == [49]) = decide (d' = 1) := by
    by_cases e : d' = 1
    · subst e; decide
    · rw [decide_eq_false e]
      exact beq_eq_false_iff_ne.2 fun e2 => e (tx_inj ld (by decide) (e2.trans (by decide : [49] = tx 1)))
  refine pure_of_call (pure2 (.str _) (.str _)) (.str _) (call_x refT_ok mixed Tryz.func55 rfl (by decide +kernel) ?_)
  conv => whnf
  repeat ((first | refine And.intro ⟨rfl, by decide, rfl⟩ ?_ | refine callX_pure hgcd (pure2 (.str _) (.str _)) ?_ | refine callX_pure hsg (pure1 (.str _)) ?_ | refine callX_pure hd1 (pure2 (.str _) (.str _)) ?_ | refine callX_pure hd2 (pure2 (.str _) (.str _)) ?_ | refine condX_f rfl ?_ | refine And.intro rfl ?_); conv => whnf)
  by_cases e : d' = 1
  · refine condX_t (e1.trans (decide_eq_true e)) ?_
    conv => whnf
    repeat ((first | refine And.intro rfl ?_); conv => whnf)
    unfold qt
    rw [if_pos e]
    exact .pure _ (.str _)
  · refine condX_f (e1.trans (decide_eq_false e)) ?_
    conv => whnf
    repeat ((first | refine And.intro rfl ?_ | refine And.intro (by simp only [List.length_append, List.length_cons, List.length_nil]; omega) ?_); conv => whnf)
    unfold qt
    have ea : tx n' ++ 47 :: tx d' = tx n' ++ [47] ++ tx d' := by simp
    rw [if_neg e, ea]
    exact Frz.pure (.str (tx n' ++ [47] ++ tx d')) (.str _)

theorem of2_pure {n d : Nat} (h : n < 1000000000) (h' : d < 1000000000) (h0 : 0 < d) : PureSem Tryz.prog 38 [.int .i64 ((n : Nat) : Int), .int .i64 ((d : Nat) : Int)] (.str (qN n d)) := by
  have hm := make_tx h h' h0
  have hn := of1_pure h
  have hd := of1_pure h'
  refine pure_of_call (pure2 (.int _ _) (.int _ _)) (.str _) (call_x refT_ok mixed Tryz.func38 rfl (by decide +kernel) ?_)
  conv => whnf
  repeat ((first | refine And.intro ⟨rfl, by decide, rfl⟩ ?_ | refine callX_pure hn (pure1 (.int _ _)) ?_ | refine callX_pure hd (pure1 (.int _ _)) ?_ | refine callX_pure hm (pure2 (.str _) (.str _)) ?_ | refine And.intro rfl ?_); conv => whnf)
  exact .pure _ (.str _)

theorem tx_no47 {n : Nat} (h : n < 1000000000) : ∀ c ∈ tx n, c.toNat ≠ 47 := fun c hc => by have := (tx_ok h).1 c hc; omega
theorem cut_qt {n d : Nat} (h : n < 1000000000) (h' : d < 1000000000) : PureSem Tryz.prog 104 [.str (qt n d)] (.tup [.str (tx n), .str (tx d), .bool (decide (d ≠ 1))]) := by
  have l1 := tx_len h
  have l2 := tx_len h'
  unfold qt
  by_cases e : d = 1
  · subst e
    rw [if_pos rfl]
    exact cut_none (tx_no47 h) (by omega)
  · rw [if_neg e, decide_eq_true e]
    exact cut_some rfl (tx_no47 h) (by simp; omega)
theorem parts_qt {n d : Nat} (h : n < 1000000000) (h' : d < 1000000000) : PureSem Tryz.prog 83 [.str (qt n d)] (.tup [.str (tx n), .str (tx d)]) := by
  have hc := cut_qt h h'
  refine pure_of_call (pure1 (.str _)) (pureT2 (.str _) (.str _)) (call_x refT_ok mixed Tryz.func83 rfl (by decide +kernel) ?_)
  conv => whnf
  repeat ((first | refine And.intro ⟨rfl, by decide, rfl⟩ ?_ | refine callX_pure hc (pure1 (.str _)) ?_ | refine And.intro rfl ?_); conv => whnf)
  exact .pure _ (pureT2 (.str _) (.str _))

theorem sign2_qt {n d : Nat} (h : n < 1000000000) (h' : d < 1000000000) : PureSem Tryz.prog 62 [.str (qt n d)] (.int .i64 (if n = 0 then 0 else 1)) := by
  have hp := parts_qt h h'
  have hs : PureSem Tryz.prog 72 [.str (tx n)] (.int .i64 (if n = 0 then 0 else 1)) := by
    by_cases e : n = 0
    · subst e; exact sign1_zero
    · rw [if_neg e]; exact sign1_tx h (by omega)
  refine pure_of_call (pure1 (.str _)) (.int _ _) (call_x refT_ok mixed Tryz.func62 rfl (by decide +kernel) ?_)
  conv => whnf
  repeat ((first | refine And.intro ⟨rfl, by decide, rfl⟩ ?_ | refine callX_pure hp (pure1 (.str _)) ?_ | refine callX_pure hs (pure1 (.str _)) ?_ | refine And.intro rfl ?_); conv => whnf)
  exact .pure _ (.int _ _)

theorem txOne {d : Nat} (h : d < 1000000000) : (tx d == [49]) = decide (d = 1) := by
  by_cases e : d = 1
  · subst e; decide
  · rw [decide_eq_false e]
    exact beq_eq_false_iff_ne.2 fun e2 => e (tx_inj h (by decide) (e2.trans (by decide : [49] = tx 1)))

theorem add2_qt {n d m e : Nat} (hn : n < 1000000000) (hd : d < 1000000000) (hm : m < 1000000000) (he : e < 1000000000) (h1 : n * e < 1000000000) (h2 : m * d < 1000000000) (h3 : n * e + m * d < 1000000000) (h4 : d * e < 1000000000) (d0 : 0 < d) (e0 : 0 < e) :
    PureSem Tryz.prog 63 [.str (qt n d), .str (qt m e)] (.str (qN (n * e + m * d) (d * e))) := by
  have hp1 := parts_qt hn hd
  have hp2 := parts_qt hm he
  have z1 := txOne hd
  have z2 := txOne he
  refine pure_of_call (pure2 (.str _) (.str _)) (.str _) (call_x refT_ok mixed Tryz.func63 rfl (by decide +kernel) ?_)
  conv => whnf
  by_cases hde : d = 1 ∧ e = 1
  · obtain ⟨rfl, rfl⟩ := hde
    rw [Nat.mul_one, Nat.mul_one] at h3
    have ha := add1_tx hn hm h3
    have hr : qN (n * 1 + m * 1) (1 * 1) = tx (n + m) := by
      unfold qN qt
      simp
    rw [hr]
    repeat ((first | refine And.intro ⟨rfl, by decide, rfl⟩ ?_ | refine callX_pure hp1 (pure1 (.str _)) ?_ | refine callX_pure hp2 (pure1 (.str _)) ?_ | refine callX_pure ha (pure2 (.str _) (.str _)) ?_ | refine condX_t rfl ?_ | refine And.intro rfl ?_); conv => whnf)
    exact .pure _ (.str _)
  · have hm1 := mul1_tx hn he h1
    have hm2 := mul1_tx hm hd h2
    have hm3 := mul1_tx hd he h4
    have ha := add1_tx h1 h2 h3
    have hk := make_tx h3 h4 (Nat.mul_pos d0 e0)
    by_cases hd1 : d = 1
    · have he1 : e ≠ 1 := fun h => hde ⟨hd1, h⟩
      rw [decide_eq_true hd1] at z1
      rw [decide_eq_false he1] at z2
      repeat ((first | refine And.intro ⟨rfl, by decide, rfl⟩ ?_ | refine callX_pure hp1 (pure1 (.str _)) ?_ | refine callX_pure hp2 (pure1 (.str _)) ?_ | refine callX_pure ha (pure2 (.str _) (.str _)) ?_ | refine callX_pure hm1 (pure2 (.str _) (.str _)) ?_ | refine callX_pure hm2 (pure2 (.str _) (.str _)) ?_ | refine callX_pure hm3 (pure2 (.str _) (.str _)) ?_ | refine callX_pure hk (pure2 (.str _) (.str _)) ?_ | refine condX_t z1 ?_ | refine condX_t ((congrArg (· == true) z1).trans rfl) ?_ | refine condX_f z2 ?_ | refine And.intro rfl ?_); conv => whnf)
      exact .pure _ (.str _)
    · rw [decide_eq_false hd1] at z1
      repeat ((first | refine And.intro ⟨rfl, by decide, rfl⟩ ?_ | refine callX_pure hp1 (pure1 (.str _)) ?_ | refine callX_pure hp2 (pure1 (.str _)) ?_ | refine callX_pure ha (pure2 (.str _) (.str _)) ?_ | refine callX_pure hm1 (pure2 (.str _) (.str _)) ?_ | refine callX_pure hm2 (pure2 (.str _) (.str _)) ?_ | refine callX_pure hm3 (pure2 (.str _) (.str _)) ?_ | refine callX_pure hk (pure2 (.str _) (.str _)) ?_ | refine condX_f z1 ?_ | refine condX_f ((congrArg (· == true) z1).trans rfl) ?_ | refine condX_f rfl ?_ | refine And.intro rfl ?_); conv => whnf)
      exact .pure _ (.str _)
end
end Go.Abs

namespace Go.Abs
noncomputable section
open Go.Proofs

def NameS (s : List UInt8) : Prop := (∀ c ∈ s, 97 ≤ c.toNat ∧ c.toNat ≤ 122) ∧ s.length ≤ 8

theorem act_pure {s : List UInt8} (h : NameS s) : PureSem Tryz.prog 60 [.str s] (.bool true) := by
  have hl := h.2
  refine pure_of_call (pure1 (.str _)) (.bool _) (call_x refT_ok mixed Tryz.func60 rfl (by decide +kernel) ?_)
  conv => whnf
  repeat ((first | refine And.intro ⟨rfl, by decide, rfl⟩ ?_ | refine And.intro rfl ?_); conv => whnf)
  refine loop_p refT_ok mixed 23 (fun i : Nat => s.length - i) (fun i => i ≤ s.length) (fun i => [(0, .str s), (3, .int .i64 ((i : Nat) : Int))]) (fun _ => ⟨[], []⟩) ?_ 0 _ (Nat.zero_le _) rfl rfl ⟨rfl, rfl, trivial⟩
  rintro i g i1
  replace i1 : i ≤ s.length := i1
  conv => whnf
  refine lenX_eq rfl ?_
  conv => whnf
  refine condX_dec (fun h4 => ?_) (fun h4 => ?_) <;> conv => whnf
  · have hi : i < s.length := by have : ((i : Nat) : Int) < ((s.length : Nat) : Int) := h4; omega
    have hc := h.1 (s[i]) (List.getElem_mem hi)
    have e1 : decide ((((s[i]'hi).toNat : Nat) : Int) < 97) = false := decide_eq_false (by omega)
    have e2 : decide ((((s[i]'hi).toNat : Nat) : Int) > 122) = false := decide_eq_false (by omega)
    repeat ((first | refine idsX_at i rfl hi ?_ | refine condX_f e1 ?_ | refine condX_t ((congrArg (· == false) e1).trans rfl) ?_ | refine condX_f e2 ?_ | refine And.intro rfl (wrapX_i64 (by omega) ?_) | refine And.intro rfl ?_); conv => whnf)
    refine ⟨i + 1, by show s.length - (i + 1) < s.length - i; omega, hi, rfl, rfl, rfl, ?_, trivial⟩
    show some (AV.int .i64 _) = some (AV.int .i64 _)
    congr 2
  · have hi : ¬ ((i : Nat) : Int) < ((s.length : Nat) : Int) := h4
    have e3 : decide (((s.length : Nat) : Int) ≤ 8) = true := decide_eq_true (by omega)
    repeat ((first | refine lenX_eq rfl ?_ | refine And.intro rfl ?_); conv => whnf)
    rw [e3]
    exact .pure _ (.bool _)
end
end Go.Abs

namespace Go.Abs
noncomputable section
open Go.Proofs

noncomputable def kM (T : List (FuncId × List (List AV × AV))) : FuncId → Option (List AV → Option AV) := seatM (tabM T)
theorem kM_ok {T : List (FuncId × List (List AV × AV))} (h : TabHolds Tryz.prog T) : MemOK Tryz.prog (kM T) := seatM_ok (tabM_ok h)
def hdOf (l : List Nat) : Op → Bool
  | .buildSlice t _ _ => l.any fun u => Nat.beq u t
  | _ => false
noncomputable def kIs (T : List (FuncId × List (List AV × AV))) (hl : List Nat) (n : Nat) (f : FuncId) (x : List AV × AV) : Bool :=
  rowIs (tiOf Tryz.prog) (drawX (tiOf Tryz.prog) (kM T) (hdOf hl)) (funOf Tryz.prog) (kM T) n f x.1 x.2
theorem kIs_ok {T : List (FuncId × List (List AV × AV))} (h : TabHolds Tryz.prog T) {hl : List Nat} {n : Nat} {f : FuncId} {x : List AV × AV} (hx : kIs T hl n f x = true) : KnownSem Tryz.prog f x.1 x.2 :=
  rowIs_ok _ _ _ _ (tiOf_ok Tryz.prog) seatBareOK (funOf_ok Tryz.prog) (kM_ok h) (drawX_ok (tiOf Tryz.prog) (kM T) (hdOf hl) (tiOf_ok Tryz.prog) seatBareOK (kM_ok h) (by decide +kernel)) hx
theorem tab_nil : TabHolds Tryz.prog [] := fun x hx => by cases hx
theorem tab_cons {T T' : List (FuncId × List (List AV × AV))} {hl : List Nat} {n : Nat} {f : FuncId} {rows : List (List AV × AV)} (h : TabHolds Tryz.prog T) (hr : allTrue (kIs T hl n f) rows = true) (h' : TabHolds Tryz.prog T') : TabHolds Tryz.prog ((f, rows) :: T') := fun x hx => by
  rcases List.mem_cons.1 hx with rfl | hx
  · exact fun y hy => kIs_ok h (allTrue_ok hr y hy)
  · exact h' x hx
end
end Go.Abs
