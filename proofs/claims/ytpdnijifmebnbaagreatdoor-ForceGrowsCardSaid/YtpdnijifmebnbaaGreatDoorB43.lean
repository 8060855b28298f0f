/-
  Steps to a law of this program: SFc5, SFl1.
  Conditions: none.
-/
import Derived.Test.YtpdnijifmebnbaaGreatDoorB42
set_option linter.unusedVariables false
set_option linter.unusedSimpArgs false
set_option linter.unusedSectionVars false
namespace Go.Abs
noncomputable section
open Go.Proofs

theorem patF_lt {n m : Nat} {l : List (Nat × AV)} (h : ∀ p ∈ l, Lt n m p.2) (k i : Nat) : ∀ x ∈ patF l (fun _ => .junk) k i, Lt n m x := fun x hx => by
  obtain ⟨j, hj, rfl⟩ := List.getElem_of_mem hx
  rcases patF_get _ _ _ _ (List.getElem?_eq_getElem hj) with h1 | ⟨_, h1⟩
  · exact h _ (look_mem h1)
  · rw [h1]; exact .junk
theorem less_pat {l : List (Nat × AV)} {ts : List AV} {k : Nat} (hl : ts.length = k) (hm : matchP ts l) : Less (patF l (fun _ => .junk) k 0) ts :=
  ⟨by rw [patF_len, hl], fun i x y hx hy => by
    rcases patF_get _ _ _ _ hx with h | ⟨_, h⟩
    · rw [Nat.zero_add] at h
      have := matchP_look hm _ _ h
      rw [hy] at this; injection this with this
      exact .inl this.symm
    · exact .inr h⟩
theorem pure4 {x y z u : AV} (h : Pure x) (h' : Pure y) (h'' : Pure z) (h3 : Pure u) : ∀ w ∈ [x, y, z, u], Pure w := fun w hw => by
  simp only [List.mem_cons, List.not_mem_nil, or_false] at hw
  rcases hw with rfl | rfl | rfl | rfl <;> assumption

def growH (os : List Nat) (oc : Option Nat) (rows : List ChR) (cc : Option Nat) (player : Nat) (A : AV) (x : Nat) : List (Option Blk) :=
  [some (.rows [[.vs (osV os) oc, .vs (rowsV rows) cc]] false false), some (.rows [[.int .i64 ((player : Nat) : Int)]] false false), some (.rows [[A]] false false), some (.rows [[.int .u64 ((x : Nat) : Int)]] false false)]
theorem growH_lt {os : List Nat} {oc : Option Nat} {rows : List ChR} {cc : Option Nat} {player : Nat} {A : AV} {x : Nat} (pM : Pure (.agg [.vs (osV os) oc, .vs (rowsV rows) cc])) (pA : Pure A) : LtB (growH os oc rows cc player A x) := by
  intro b y hb
  have one : ∀ (row : List AV) (z : Blk), (∀ w ∈ row, Pure w) → some (Blk.rows [row] false false) = some z → z.Lt 4 0 := fun row z hr he => by
    injection he with he; subst he
    exact rows_lt fun w hw => (hr w hw).lt _ _
  match b, hb with
  | 0, hb =>
    refine one _ _ (fun w hw => ?_) (by simpa [Heap.blk?, growH] using hb)
    cases pM with
    | agg _ h => obtain ⟨i, hi, rfl⟩ := List.getElem_of_mem hw; exact h i hi
  | 1, hb => exact one _ _ (pure1 (.int _ _)) (by simpa [Heap.blk?, growH] using hb)
  | 2, hb => exact one _ _ (pure1 pA) (by simpa [Heap.blk?, growH] using hb)
  | 3, hb => exact one _ _ (pure1 (.int _ _)) (by simpa [Heap.blk?, growH] using hb)
  | b + 4, hb => simp [Heap.blk?, growH] at hb
theorem growN_some {n : Nat} {pl : Nat → Nat → Bool} {f x s : Nat} (h : firstS (fun s => !x.testBit s && pl x s) 0 n = some s) : growN n pl (f + 1) x = growN n pl f (x ||| 2 ^ s) := by
  conv => lhs; unfold growN
  rw [h]
theorem growN_none {n : Nat} {pl : Nat → Nat → Bool} {f x : Nat} (h : firstS (fun s => !x.testBit s && pl x s) 0 n = none) : growN n pl f x = x := by
  cases f with
  | zero => rfl
  | succ f =>
    conv => lhs; unfold growN
    rw [h]

theorem frz_good {f41 : FuncId} {A : AV} {x : Nat} {h : Heap} (pA : Pure A) (h2 : h.blk? 2 = some (.rows [[A]] false false)) (h3 : h.blk? 3 = some (.rows [[.int .u64 ((x : Nat) : Int)]] false false)) :
    Frz h (.fn (.func f41) [] [.ptr 2 0 0, .ptr 3 0 0]) (.fn (.func f41) [] [.vp [A] 0, .vp [.int .u64 ((x : Nat) : Int)] 0]) := by
  refine .fn _ _ _ _ _ rfl rfl (fun i hi => by simp at hi) fun i hi hj => ?_
  match i, hi with
  | 0, _ => exact .ptr 2 0 0 [[A]] false false _ h2 (by simp) rfl fun t h1 h2 => (match t, h1 with | 0, _ => .pure _ pA)
  | 1, _ => exact .ptr 3 0 0 [[_]] false false _ h3 (by simp) rfl fun t h1 h2 => (match t, h1 with | 0, _ => .pure _ (.int _ _))
theorem frz_bad {f43 f41 : FuncId} {A : AV} {x : Nat} {h : Heap} (pA : Pure A) (h2 : h.blk? 2 = some (.rows [[A]] false false)) (h3 : h.blk? 3 = some (.rows [[.int .u64 ((x : Nat) : Int)]] false false))
    (h4 : h.blk? 4 = some (.rows [[.fn (.func f41) [] [.ptr 2 0 0, .ptr 3 0 0]]] false false)) :
    Frz h (.fn (.func f43) [] [.ptr 4 0 0]) (.fn (.func f43) [] [.vp [.fn (.func f41) [] [.vp [A] 0, .vp [.int .u64 ((x : Nat) : Int)] 0]] 0]) := by
  refine .fn _ _ _ _ _ rfl rfl (fun i hi => by simp at hi) fun i hi hj => ?_
  match i, hi with
  | 0, _ => exact .ptr 4 0 0 [[_]] false false _ h4 (by simp) rfl fun t h1 h2' => (match t, h1 with | 0, _ => frz_good (f41 := f41) pA h2 h3)
theorem borrow2 {f44 : FuncId} {V F F' : AV} {h : Heap} {b : Bool} {K : AV → Heap → Prop} (pV : Pure V) (hF : Frz h F F') (hp : PureSem Tryz.prog f44 [V, F'] (.bool b)) (hk : K (.bool b) h) : CallSem Tryz.prog f44 [V, F] h K := by
  refine call_borrow (args' := [V, F']) rfl (fun i hi hj => ?_) hp (.bool _) hk
  match i, hi with
  | 0, _ => exact .pure _ pV
  | 1, _ => exact hF
theorem pure_row {os : List Nat} {oc cc : Option Nat} {rows : List ChR} (pM : Pure (.agg [.vs (osV os) oc, .vs (rowsV rows) cc])) {r : ChR} {t : Nat} (hr : rows[t]? = some r) : Pure (.vs r.1 r.2) := by
  cases pM with
  | agg _ h =>
    have h1 : Pure (.vs (rowsV rows) cc) := h 1 (by simp)
    cases h1 with
    | vs _ _ h2 =>
      obtain ⟨ht, rfl⟩ := List.getElem?_eq_some_iff.1 hr
      have := h2 t (by simpa [rowsV] using ht) 0 (by simp [rowsV])
      simpa [rowsV] using this

set_option maxHeartbeats 8000000 in
set_option maxRecDepth 100000 in
theorem grow_p {ga : FuncId} {os : List Nat} {oc cc : Option Nat} {rows : List ChR} {target player : Nat} {φ : List AV → Bool} (hG : GameOK os rows) (pM : Pure (.agg [.vs (osV os) oc, .vs (rowsV rows) cc])) (ht : target < 18446744073709551616)
    (ha : ∀ r ∈ rows, ∀ ch ∈ r.1, PureSem Tryz.prog ga [.agg ch] (.bool (φ ch))) :
    PureSem Tryz.prog 23 [.agg [.vs (osV os) oc, .vs (rowsV rows) cc], .int .u64 ((target : Nat) : Int), .int .i64 ((player : Nat) : Int), .fn (.func ga) [] []] (.int .u64 ((growN os.length (pulled os rows φ player) os.length target : Nat) : Int)) := by
  have pA : Pure (.fn (.func ga) [] []) := pure_fnc (fun _ h => by simp at h)
  have hall := all_states (oc := oc) (cc := cc) pM hG.states
  obtain ⟨X, hXd⟩ : ∃ X, growN os.length (pulled os rows φ player) os.length target = X := ⟨_, rfl⟩
  rw [hXd]
  refine pure_of_call (pure4 pM (.int _ _) (.int _ _) pA) (.int _ _) (call_x forceT_ok mixed Tryz.func23 rfl (by decide +kernel) ?_)
  conv => whnf
  repeat ((first | refine And.intro ⟨rfl, by decide, rfl⟩ ?_); conv => whnf)
  refine scope_loop (A := Nat × Nat) (fun a => a.1) (fun a => a.2 < 18446744073709551616 ∧ outs a.2 0 os.length ≤ a.1 ∧ growN os.length (pulled os rows φ player) a.1 a.2 = X)
    (fun _ => patF [(4, .ptr 0 0 0), (6, .ptr 1 0 0), (7, .ptr 2 0 0), (9, .ptr 3 0 0)] (fun _ => .junk) 63 0) (fun a => growH os oc rows cc player (.fn (.func ga) [] []) a.2) rfl ?_ ?_ ?_
  · rintro ⟨f, x⟩ -
    refine ⟨patF_lt (fun p hp => ?_) _ _, growH_lt pM pA⟩
    simp only [List.mem_cons, List.not_mem_nil, or_false] at hp
    rcases hp with rfl | rfl | rfl | rfl <;> exact .ptr _ _ _ (by simp [growH])
  · refine run_x forceT_ok mixed ?_
    conv => whnf
    repeat ((first | refine And.intro ⟨by decide, rfl⟩ ?_ | refine stX_box rfl ?_); conv => whnf)
    exact ⟨rfl, (os.length, target), ⟨ht, outs_le _ _ _, hXd⟩, 0, rfl, less_pat rfl ⟨rfl, rfl, rfl, rfl, trivial⟩⟩
  · rintro ⟨f, x⟩ ⟨hx, ho, hX⟩
    replace hx : x < 18446744073709551616 := hx
    replace ho : outs x 0 os.length ≤ f := ho
    replace hX : growN os.length (pulled os rows φ player) f x = X := hX
    have hmem := members_pure (x := diffN (allN os.length) x) (oc := oc) (cc := cc) pM
    refine run_x forceT_ok mixed ?_
    conv => whnf
    refine Or.inl ⟨by decide +kernel, ?_⟩
    conv => whnf
    repeat ((first | refine ⟨_, _, fun K hK => (by (conv => whnf); first | (rw [diffE]; exact hK) | exact hK | exact ldX_eq rfl hK | exact callX_pure hall (pure1 pM) hK | exact callX_pure hmem (pure2 pM (.int _ _)) hK | (refine stX_box rfl ?_; (conv => whnf); exact hK)), Or.inl ⟨rfl, (by repeat' (first | exact True.intro | refine And.intro ?_ ?_ | exact Or.inl (by decide +kernel) | decide +kernel | exact Or.inr (fun K hK => (by (conv => whnf); first | (rw [diffE]; exact hK) | exact hK | exact ldX_eq rfl hK | exact callX_pure hall (pure1 pM) hK | exact callX_pure hmem (pure2 pM (.int _ _)) hK | (refine stX_box rfl ?_; (conv => whnf); exact hK))))), ?_⟩⟩ | refine ⟨_, _, fun K hK => (by (conv => whnf); first | (rw [diffE]; exact hK) | exact hK | exact ldX_eq rfl hK | exact callX_pure hall (pure1 pM) hK | exact callX_pure hmem (pure2 pM (.int _ _)) hK | (refine stX_box rfl ?_; (conv => whnf); exact hK)), Or.inr ⟨(by repeat' (first | exact True.intro | refine And.intro ?_ ?_ | exact Or.inl (by decide +kernel) | decide +kernel | exact Or.inr (fun K hK => (by (conv => whnf); first | (rw [diffE]; exact hK) | exact hK | exact ldX_eq rfl hK | exact callX_pure hall (pure1 pM) hK | exact callX_pure hmem (pure2 pM (.int _ _)) hK | (refine stX_box rfl ?_; (conv => whnf); exact hK))))), (by repeat' (first | exact True.intro | refine And.intro ?_ ?_ | exact Or.inl (by decide +kernel) | decide +kernel | exact Or.inr (fun K hK => (by (conv => whnf); first | (rw [diffE]; exact hK) | exact hK | exact ldX_eq rfl hK | exact callX_pure hall (pure1 pM) hK | exact callX_pure hmem (pure2 pM (.int _ _)) hK | (refine stX_box rfl ?_; (conv => whnf); exact hK))))), ?_⟩⟩); conv => whnf)
    have hst := hG.states
    have hbit : ∀ t, t < os.length → (diffN (allN os.length) x).testBit t = !x.testBit t := fun t h => by
      rw [diffN_bit _ _ _ (by omega), allN_bit]; simp [h]
    have hpy : ∀ t, t < 0 + os.length → (!x.testBit t && pulled os rows φ player x t) = true → (diffN (allN os.length) x).testBit t = true := fun t h1 h2 => by
      rw [hbit t (by omega)]
      cases hb : x.testBit t with
      | false => rfl
      | true => rw [hb] at h2; simp at h2
    refine range_iterD (members_iter hst) rfl (fun _ h => by cases h)
      (fun vs B => (∃ s k, vs = memV (diffN (allN os.length) x) s k ∧ s + k = os.length ∧ firstS (fun s => !x.testBit s && pulled os rows φ player x s) 0 os.length = firstS (fun s => !x.testBit s && pulled os rows φ player x s) s k) ∧ B = growH os oc rows cc player (.fn (.func ga) [] []) x)
      ⟨⟨0, os.length, rfl, by omega, rfl⟩, rfl⟩ (growH_lt pM pA) ?_ ?_
    · rintro v vs B ⟨⟨s, k, hvs, hsk, hfs⟩, rfl⟩ -
      obtain ⟨t, j, rfl, e2, e3, e4, e5, e6⟩ := memV_cons (fun t h1 => hpy t (by omega)) hvs.symm
      have htn : t < os.length := by omega
      have htb : x.testBit t = false := by
        rw [hbit t htn] at e4
        simpa using e4
      refine ⟨rfl, pure1 (.int _ _), fun r => run_x forceT_ok mixed ?_⟩
      conv => whnf
      refine ⟨rfl, _, rfl, fun r' => run_x forceT_ok mixed ?_⟩
      conv => whnf
      repeat ((first | refine And.intro ⟨by decide, rfl⟩ ?_ | refine stX_box rfl ?_); conv => whnf)
      obtain ⟨o, hot⟩ : ∃ o, os[t]? = some o := ⟨_, List.getElem?_eq_getElem htn⟩
      obtain ⟨r0, hrt⟩ : ∃ r0, rows[t]? = some r0 := ⟨_, List.getElem?_eq_getElem (by rw [hG.width]; exact htn)⟩
      have hrm : r0 ∈ rows := List.mem_of_getElem? hrt
      have hos : (osV os)[t]? = some [.int .i64 ((o : Nat) : Int)] := by simp [osV, hot]
      have hrs : (rowsV rows)[t]? = some [.vs r0.1 r0.2] := by simp [rowsV, hrt]
      have pR := pure_row pM hrt
      have hch := fun (z : List AV) (hz : z ∈ r0.1) => hG.cells r0 hrm z hz
      have hgd := con_any_ch2 (c := r0.2) (g := 41) (r0 := [.fn (.func ga) [] []]) (r1 := [.int .u64 ((x : Nat) : Int)]) (fun ch => φ ch && touchesA x ch) (hG.count r0 hrm) pR (pure2 (pure_vp1 pA) (pure_set x)) (fun z hz => (hch z hz).elim fun l h => ⟨l, h.1⟩)
        (fun z hz => by obtain ⟨l, h1, h2, h3⟩ := hch z hz; rw [touchesA_eq h1]; exact good_p h1 h2 h3 (ha r0 hrm z hz))
      have hbd := con_any_ch1 (c := r0.2) (g := 43) (r0 := [.fn (.func 41) [] [.vp [.fn (.func ga) [] []] 0, .vp [.int .u64 ((x : Nat) : Int)] 0]]) (fun ch => !(φ ch && touchesA x ch)) (hG.count r0 hrm) pR (pure1 (pure_vp1 (pure_fnc (pure2 (pure_vp1 pA) (pure_set x))))) (fun z hz => (hch z hz).elim fun l h => ⟨l, h.1⟩)
        (fun z hz => by obtain ⟨l, h1, h2, h3⟩ := hch z hz; rw [touchesA_eq h1]; exact bad_p h1 h2 h3 (ha r0 hrm z hz))
      have hpl : pulled os rows φ player x t = if o = player then r0.1.any (fun ch => φ ch && touchesA x ch) else !(r0.1.any fun ch => !(φ ch && touchesA x ch)) := by
        unfold pulled chsOf
        rw [List.getD_eq_getElem?_getD, hot, hrt]; rfl
      generalize (r0.1.any fun ch => φ ch && touchesA x ch) = b1 at hgd hpl
      generalize (r0.1.any fun ch => !(φ ch && touchesA x ch)) = b2 at hbd hpl
      refine Or.inl ⟨by decide +kernel, ?_⟩
      conv => whnf
      have hnext : pulled os rows φ player x t = true → ∃ f', f = f' + 1 ∧ x ||| 2 ^ t < 18446744073709551616 ∧ outs (x ||| 2 ^ t) 0 os.length ≤ f' ∧ growN os.length (pulled os rows φ player) f' (x ||| 2 ^ t) = X := fun hp => by
        have o1 := outs_pos htb (k := os.length) (s := 0) (Nat.zero_le _) (by omega)
        obtain ⟨f', rfl⟩ : ∃ f', f = f' + 1 := ⟨f - 1, by omega⟩
        have o2 := outs_add x t htb os.length 0
        rw [if_pos ⟨Nat.zero_le _, by omega⟩] at o2
        refine ⟨f', rfl, Nat.or_lt_two_pow (n := 64) hx (Nat.pow_lt_pow_right (by decide) (by omega)), by omega, ?_⟩
        have hpt : (!x.testBit t && pulled os rows φ player x t) = true := by rw [htb, hp]; rfl
        rw [← hX]
        exact (growN_some (hfs.trans (e6.trans (if_pos hpt)))).symm
      have hstay : pulled os rows φ player x t = false → firstS (fun s => !x.testBit s && pulled os rows φ player x s) 0 os.length = firstS (fun s => !x.testBit s && pulled os rows φ player x s) (t + 1) j := fun hp => by
        have hpt : ¬ (!x.testBit t && pulled os rows φ player x t) = true := by rw [hp]; simp
        exact hfs.trans (e6.trans (if_neg hpt))
      obtain ⟨eo, heo⟩ : ∃ eo, (((o : Nat) : Int) == ((player : Nat) : Int)) = eo := ⟨_, rfl⟩
      have heo2 : (((o : Nat) : Int) != ((player : Nat) : Int)) = !eo := by rw [← heo]; rfl
      have hpl2 : pulled os rows φ player x t = bif eo then b1 else !b2 := by
        rw [hpl]
        by_cases h : o = player
        · subst h
          have : eo = true := by rw [← heo]; simp
          rw [this, if_pos rfl]; rfl
        · have : eo = false := by rw [← heo]; exact beq_eq_false_iff_ne.2 fun e => h (by omega)
          rw [this, if_neg h]; rfl
      clear hpl
      cases eo
      · cases b2
        all_goals
          repeat ((first | refine condX_t (by first | rfl | exact heo | exact heo2 | exact (congrArg (· == true) heo).trans rfl | exact (congrArg (· == true) heo2).trans rfl) ?_ | refine condX_f (by first | rfl | exact heo | exact heo2 | exact (congrArg (· == true) heo).trans rfl | exact (congrArg (· == true) heo2).trans rfl) ?_ | refine ⟨_, _, fun K hK => (by (conv => whnf); first | exact hK | exact ldX_eq rfl hK | exact condX_t (by first | rfl | exact heo | exact heo2 | exact (congrArg (· == true) heo).trans rfl | exact (congrArg (· == true) heo2).trans rfl) hK | exact condX_f (by first | rfl | exact heo | exact heo2 | exact (congrArg (· == true) heo).trans rfl | exact (congrArg (· == true) heo2).trans rfl) hK | exact idxX_at t rfl hos rfl hK | exact idxX_at t rfl hrs rfl hK | exact callX_of (borrow2 pR (frz_bad pA rfl rfl rfl) hbd hK) | (refine stX_box rfl ?_; (conv => whnf); exact hK)), Or.inl ⟨rfl, (by repeat' (first | exact True.intro | refine And.intro ?_ ?_ | exact Or.inl (by decide +kernel) | decide +kernel | exact Or.inr (fun K hK => (by (conv => whnf); first | exact hK | exact ldX_eq rfl hK | exact condX_t (by first | rfl | exact heo | exact heo2 | exact (congrArg (· == true) heo).trans rfl | exact (congrArg (· == true) heo2).trans rfl) hK | exact condX_f (by first | rfl | exact heo | exact heo2 | exact (congrArg (· == true) heo).trans rfl | exact (congrArg (· == true) heo2).trans rfl) hK | exact idxX_at t rfl hos rfl hK | exact idxX_at t rfl hrs rfl hK | exact callX_of (borrow2 pR (frz_bad pA rfl rfl rfl) hbd hK) | (refine stX_box rfl ?_; (conv => whnf); exact hK))))), ?_⟩⟩ | refine ⟨_, _, fun K hK => (by (conv => whnf); first | exact hK | exact ldX_eq rfl hK | exact condX_t (by first | rfl | exact heo | exact heo2 | exact (congrArg (· == true) heo).trans rfl | exact (congrArg (· == true) heo2).trans rfl) hK | exact condX_f (by first | rfl | exact heo | exact heo2 | exact (congrArg (· == true) heo).trans rfl | exact (congrArg (· == true) heo2).trans rfl) hK | exact idxX_at t rfl hos rfl hK | exact idxX_at t rfl hrs rfl hK | exact callX_of (borrow2 pR (frz_bad pA rfl rfl rfl) hbd hK) | (refine stX_box rfl ?_; (conv => whnf); exact hK)), Or.inr ⟨(by repeat' (first | exact True.intro | refine And.intro ?_ ?_ | exact Or.inl (by decide +kernel) | decide +kernel | exact Or.inr (fun K hK => (by (conv => whnf); first | exact hK | exact ldX_eq rfl hK | exact condX_t (by first | rfl | exact heo | exact heo2 | exact (congrArg (· == true) heo).trans rfl | exact (congrArg (· == true) heo2).trans rfl) hK | exact condX_f (by first | rfl | exact heo | exact heo2 | exact (congrArg (· == true) heo).trans rfl | exact (congrArg (· == true) heo2).trans rfl) hK | exact idxX_at t rfl hos rfl hK | exact idxX_at t rfl hrs rfl hK | exact callX_of (borrow2 pR (frz_bad pA rfl rfl rfl) hbd hK) | (refine stX_box rfl ?_; (conv => whnf); exact hK))))), (by repeat' (first | exact True.intro | refine And.intro ?_ ?_ | exact Or.inl (by decide +kernel) | decide +kernel | exact Or.inr (fun K hK => (by (conv => whnf); first | exact hK | exact ldX_eq rfl hK | exact condX_t (by first | rfl | exact heo | exact heo2 | exact (congrArg (· == true) heo).trans rfl | exact (congrArg (· == true) heo2).trans rfl) hK | exact condX_f (by first | rfl | exact heo | exact heo2 | exact (congrArg (· == true) heo).trans rfl | exact (congrArg (· == true) heo2).trans rfl) hK | exact idxX_at t rfl hos rfl hK | exact idxX_at t rfl hrs rfl hK | exact callX_of (borrow2 pR (frz_bad pA rfl rfl rfl) hbd hK) | (refine stX_box rfl ?_; (conv => whnf); exact hK))))), ?_⟩⟩); conv => whnf)
        · obtain ⟨f', rfl, hx2, ho2, hX2⟩ := hnext hpl2
          refine Or.inl ⟨by decide +kernel, ?_⟩
          conv => whnf
          repeat ((first | refine ⟨_, _, fun K hK => (by (conv => whnf); first | (rw [addE x t hx (by omega)]; exact hK) | exact hK | exact ldX_eq rfl hK | exact And.intro (Int.natCast_nonneg _) hK | (refine stX_box rfl ?_; (conv => whnf); exact hK)), Or.inl ⟨rfl, (by repeat' (first | exact True.intro | refine And.intro ?_ ?_ | exact Or.inl (by decide +kernel) | decide +kernel | exact Or.inr (fun K hK => (by (conv => whnf); first | (rw [addE x t hx (by omega)]; exact hK) | exact hK | exact ldX_eq rfl hK | exact And.intro (Int.natCast_nonneg _) hK | (refine stX_box rfl ?_; (conv => whnf); exact hK))))), ?_⟩⟩ | refine ⟨_, _, fun K hK => (by (conv => whnf); first | (rw [addE x t hx (by omega)]; exact hK) | exact hK | exact ldX_eq rfl hK | exact And.intro (Int.natCast_nonneg _) hK | (refine stX_box rfl ?_; (conv => whnf); exact hK)), Or.inr ⟨(by repeat' (first | exact True.intro | refine And.intro ?_ ?_ | exact Or.inl (by decide +kernel) | decide +kernel | exact Or.inr (fun K hK => (by (conv => whnf); first | (rw [addE x t hx (by omega)]; exact hK) | exact hK | exact ldX_eq rfl hK | exact And.intro (Int.natCast_nonneg _) hK | (refine stX_box rfl ?_; (conv => whnf); exact hK))))), (by repeat' (first | exact True.intro | refine And.intro ?_ ?_ | exact Or.inl (by decide +kernel) | decide +kernel | exact Or.inr (fun K hK => (by (conv => whnf); first | (rw [addE x t hx (by omega)]; exact hK) | exact hK | exact ldX_eq rfl hK | exact And.intro (Int.natCast_nonneg _) hK | (refine stX_box rfl ?_; (conv => whnf); exact hK))))), ?_⟩⟩); conv => whnf)
          exact ⟨growH os oc rows cc player (.fn (.func ga) [] []) (x ||| 2 ^ t), [some _], rfl, rfl, growH_lt pM pA, rfl, rfl, (f', x ||| 2 ^ t), Nat.lt_succ_self _, ⟨hx2, ho2, hX2⟩, 1, rfl, less_pat rfl ⟨rfl, rfl, rfl, rfl, trivial⟩⟩
        · exact ⟨growH os oc rows cc player (.fn (.func ga) [] []) x, [some _], rfl, rfl, growH_lt pM pA, ⟨⟨t + 1, j, e5, by omega, hstay hpl2⟩, rfl⟩⟩
      · cases b1
        all_goals
          repeat ((first | refine condX_t (by first | rfl | exact heo | exact heo2 | exact (congrArg (· == true) heo).trans rfl | exact (congrArg (· == true) heo2).trans rfl) ?_ | refine condX_f (by first | rfl | exact heo | exact heo2 | exact (congrArg (· == true) heo).trans rfl | exact (congrArg (· == true) heo2).trans rfl) ?_ | refine ⟨_, _, fun K hK => (by (conv => whnf); first | exact hK | exact ldX_eq rfl hK | exact condX_t (by first | rfl | exact heo | exact heo2 | exact (congrArg (· == true) heo).trans rfl | exact (congrArg (· == true) heo2).trans rfl) hK | exact condX_f (by first | rfl | exact heo | exact heo2 | exact (congrArg (· == true) heo).trans rfl | exact (congrArg (· == true) heo2).trans rfl) hK | exact idxX_at t rfl hos rfl hK | exact idxX_at t rfl hrs rfl hK | exact callX_of (borrow2 pR (frz_good pA rfl rfl) hgd hK) | (refine stX_box rfl ?_; (conv => whnf); exact hK)), Or.inl ⟨rfl, (by repeat' (first | exact True.intro | refine And.intro ?_ ?_ | exact Or.inl (by decide +kernel) | decide +kernel | exact Or.inr (fun K hK => (by (conv => whnf); first | exact hK | exact ldX_eq rfl hK | exact condX_t (by first | rfl | exact heo | exact heo2 | exact (congrArg (· == true) heo).trans rfl | exact (congrArg (· == true) heo2).trans rfl) hK | exact condX_f (by first | rfl | exact heo | exact heo2 | exact (congrArg (· == true) heo).trans rfl | exact (congrArg (· == true) heo2).trans rfl) hK | exact idxX_at t rfl hos rfl hK | exact idxX_at t rfl hrs rfl hK | exact callX_of (borrow2 pR (frz_good pA rfl rfl) hgd hK) | (refine stX_box rfl ?_; (conv => whnf); exact hK))))), ?_⟩⟩ | refine ⟨_, _, fun K hK => (by (conv => whnf); first | exact hK | exact ldX_eq rfl hK | exact condX_t (by first | rfl | exact heo | exact heo2 | exact (congrArg (· == true) heo).trans rfl | exact (congrArg (· == true) heo2).trans rfl) hK | exact condX_f (by first | rfl | exact heo | exact heo2 | exact (congrArg (· == true) heo).trans rfl | exact (congrArg (· == true) heo2).trans rfl) hK | exact idxX_at t rfl hos rfl hK | exact idxX_at t rfl hrs rfl hK | exact callX_of (borrow2 pR (frz_good pA rfl rfl) hgd hK) | (refine stX_box rfl ?_; (conv => whnf); exact hK)), Or.inr ⟨(by repeat' (first | exact True.intro | refine And.intro ?_ ?_ | exact Or.inl (by decide +kernel) | decide +kernel | exact Or.inr (fun K hK => (by (conv => whnf); first | exact hK | exact ldX_eq rfl hK | exact condX_t (by first | rfl | exact heo | exact heo2 | exact (congrArg (· == true) heo).trans rfl | exact (congrArg (· == true) heo2).trans rfl) hK | exact condX_f (by first | rfl | exact heo | exact heo2 | exact (congrArg (· == true) heo).trans rfl | exact (congrArg (· == true) heo2).trans rfl) hK | exact idxX_at t rfl hos rfl hK | exact idxX_at t rfl hrs rfl hK | exact callX_of (borrow2 pR (frz_good pA rfl rfl) hgd hK) | (refine stX_box rfl ?_; (conv => whnf); exact hK))))), (by repeat' (first | exact True.intro | refine And.intro ?_ ?_ | exact Or.inl (by decide +kernel) | decide +kernel | exact Or.inr (fun K hK => (by (conv => whnf); first | exact hK | exact ldX_eq rfl hK | exact condX_t (by first | rfl | exact heo | exact heo2 | exact (congrArg (· == true) heo).trans rfl | exact (congrArg (· == true) heo2).trans rfl) hK | exact condX_f (by first | rfl | exact heo | exact heo2 | exact (congrArg (· == true) heo).trans rfl | exact (congrArg (· == true) heo2).trans rfl) hK | exact idxX_at t rfl hos rfl hK | exact idxX_at t rfl hrs rfl hK | exact callX_of (borrow2 pR (frz_good pA rfl rfl) hgd hK) | (refine stX_box rfl ?_; (conv => whnf); exact hK))))), ?_⟩⟩); conv => whnf)
        · exact ⟨growH os oc rows cc player (.fn (.func ga) [] []) x, [some _], rfl, rfl, growH_lt pM pA, ⟨⟨t + 1, j, e5, by omega, hstay hpl2⟩, rfl⟩⟩
        · obtain ⟨f', rfl, hx2, ho2, hX2⟩ := hnext hpl2
          refine Or.inl ⟨by decide +kernel, ?_⟩
          conv => whnf
          repeat ((first | refine ⟨_, _, fun K hK => (by (conv => whnf); first | (rw [addE x t hx (by omega)]; exact hK) | exact hK | exact ldX_eq rfl hK | exact And.intro (Int.natCast_nonneg _) hK | (refine stX_box rfl ?_; (conv => whnf); exact hK)), Or.inl ⟨rfl, (by repeat' (first | exact True.intro | refine And.intro ?_ ?_ | exact Or.inl (by decide +kernel) | decide +kernel | exact Or.inr (fun K hK => (by (conv => whnf); first | (rw [addE x t hx (by omega)]; exact hK) | exact hK | exact ldX_eq rfl hK | exact And.intro (Int.natCast_nonneg _) hK | (refine stX_box rfl ?_; (conv => whnf); exact hK))))), ?_⟩⟩ | refine ⟨_, _, fun K hK => (by (conv => whnf); first | (rw [addE x t hx (by omega)]; exact hK) | exact hK | exact ldX_eq rfl hK | exact And.intro (Int.natCast_nonneg _) hK | (refine stX_box rfl ?_; (conv => whnf); exact hK)), Or.inr ⟨(by repeat' (first | exact True.intro | refine And.intro ?_ ?_ | exact Or.inl (by decide +kernel) | decide +kernel | exact Or.inr (fun K hK => (by (conv => whnf); first | (rw [addE x t hx (by omega)]; exact hK) | exact hK | exact ldX_eq rfl hK | exact And.intro (Int.natCast_nonneg _) hK | (refine stX_box rfl ?_; (conv => whnf); exact hK))))), (by repeat' (first | exact True.intro | refine And.intro ?_ ?_ | exact Or.inl (by decide +kernel) | decide +kernel | exact Or.inr (fun K hK => (by (conv => whnf); first | (rw [addE x t hx (by omega)]; exact hK) | exact hK | exact ldX_eq rfl hK | exact And.intro (Int.natCast_nonneg _) hK | (refine stX_box rfl ?_; (conv => whnf); exact hK))))), ?_⟩⟩); conv => whnf)
          exact ⟨growH os oc rows cc player (.fn (.func ga) [] []) (x ||| 2 ^ t), [some _], rfl, rfl, growH_lt pM pA, rfl, rfl, (f', x ||| 2 ^ t), Nat.lt_succ_self _, ⟨hx2, ho2, hX2⟩, 1, rfl, less_pat rfl ⟨rfl, rfl, rfl, rfl, trivial⟩⟩
    · rintro B ⟨⟨s, k, hvs, hsk, hfs⟩, rfl⟩ -
      have hno : firstS (fun s => !x.testBit s && pulled os rows φ player x s) 0 os.length = none := hfs.trans (memV_nil (fun t h1 => hpy t (by omega)) hvs.symm)
      rw [growN_none hno] at hX
      subst hX
      conv => whnf
      repeat ((first | refine ldX_eq rfl ?_ | refine And.intro rfl ?_); conv => whnf)
      exact .pure _ (.int _ _)

set_option maxHeartbeats 8000000 in
set_option maxRecDepth 100000 in
theorem grow_s {ga : FuncId} {os : List Nat} {oc cc : Option Nat} {rows : List ChR} {target player y : Nat} {φ : List AV → Bool} (hG : GameOK os rows) (pM : Pure (.agg [.vs (osV os) oc, .vs (rowsV rows) cc])) (ht : target < 18446744073709551616)
    (ha : ∀ r ∈ rows, ∀ ch ∈ r.1, PureSem Tryz.prog ga [.agg ch, .vp [.int .u64 ((y : Nat) : Int)] 0] (.bool (φ ch))) :
    PureSem Tryz.prog 23 [.agg [.vs (osV os) oc, .vs (rowsV rows) cc], .int .u64 ((target : Nat) : Int), .int .i64 ((player : Nat) : Int), .fn (.func ga) [] [.vp [.int .u64 ((y : Nat) : Int)] 0]] (.int .u64 ((growN os.length (pulled os rows φ player) os.length target : Nat) : Int)) := by
  have pA : Pure (.fn (.func ga) [] [.vp [.int .u64 ((y : Nat) : Int)] 0]) := pure_fnc (pure1 (pure_set y))
  have hall := all_states (oc := oc) (cc := cc) pM hG.states
  obtain ⟨X, hXd⟩ : ∃ X, growN os.length (pulled os rows φ player) os.length target = X := ⟨_, rfl⟩
  rw [hXd]
  refine pure_of_call (pure4 pM (.int _ _) (.int _ _) pA) (.int _ _) (call_x forceT_ok mixed Tryz.func23 rfl (by decide +kernel) ?_)
  conv => whnf
  repeat ((first | refine And.intro ⟨rfl, by decide, rfl⟩ ?_); conv => whnf)
  refine scope_loop (A := Nat × Nat) (fun a => a.1) (fun a => a.2 < 18446744073709551616 ∧ outs a.2 0 os.length ≤ a.1 ∧ growN os.length (pulled os rows φ player) a.1 a.2 = X)
    (fun _ => patF [(4, .ptr 0 0 0), (6, .ptr 1 0 0), (7, .ptr 2 0 0), (9, .ptr 3 0 0)] (fun _ => .junk) 63 0) (fun a => growH os oc rows cc player (.fn (.func ga) [] [.vp [.int .u64 ((y : Nat) : Int)] 0]) a.2) rfl ?_ ?_ ?_
  · rintro ⟨f, x⟩ -
    refine ⟨patF_lt (fun p hp => ?_) _ _, growH_lt pM pA⟩
    simp only [List.mem_cons, List.not_mem_nil, or_false] at hp
    rcases hp with rfl | rfl | rfl | rfl <;> exact .ptr _ _ _ (by simp [growH])
  · refine run_x forceT_ok mixed ?_
    conv => whnf
    repeat ((first | refine And.intro ⟨by decide, rfl⟩ ?_ | refine stX_box rfl ?_); conv => whnf)
    exact ⟨rfl, (os.length, target), ⟨ht, outs_le _ _ _, hXd⟩, 0, rfl, less_pat rfl ⟨rfl, rfl, rfl, rfl, trivial⟩⟩
  · rintro ⟨f, x⟩ ⟨hx, ho, hX⟩
    replace hx : x < 18446744073709551616 := hx
    replace ho : outs x 0 os.length ≤ f := ho
    replace hX : growN os.length (pulled os rows φ player) f x = X := hX
    have hmem := members_pure (x := diffN (allN os.length) x) (oc := oc) (cc := cc) pM
    refine run_x forceT_ok mixed ?_
    conv => whnf
    refine Or.inl ⟨by decide +kernel, ?_⟩
    conv => whnf
    repeat ((first | refine ⟨_, _, fun K hK => (by (conv => whnf); first | (rw [diffE]; exact hK) | exact hK | exact ldX_eq rfl hK | exact callX_pure hall (pure1 pM) hK | exact callX_pure hmem (pure2 pM (.int _ _)) hK | (refine stX_box rfl ?_; (conv => whnf); exact hK)), Or.inl ⟨rfl, (by repeat' (first | exact True.intro | refine And.intro ?_ ?_ | exact Or.inl (by decide +kernel) | decide +kernel | exact Or.inr (fun K hK => (by (conv => whnf); first | (rw [diffE]; exact hK) | exact hK | exact ldX_eq rfl hK | exact callX_pure hall (pure1 pM) hK | exact callX_pure hmem (pure2 pM (.int _ _)) hK | (refine stX_box rfl ?_; (conv => whnf); exact hK))))), ?_⟩⟩ | refine ⟨_, _, fun K hK => (by (conv => whnf); first | (rw [diffE]; exact hK) | exact hK | exact ldX_eq rfl hK | exact callX_pure hall (pure1 pM) hK | exact callX_pure hmem (pure2 pM (.int _ _)) hK | (refine stX_box rfl ?_; (conv => whnf); exact hK)), Or.inr ⟨(by repeat' (first | exact True.intro | refine And.intro ?_ ?_ | exact Or.inl (by decide +kernel) | decide +kernel | exact Or.inr (fun K hK => (by (conv => whnf); first | (rw [diffE]; exact hK) | exact hK | exact ldX_eq rfl hK | exact callX_pure hall (pure1 pM) hK | exact callX_pure hmem (pure2 pM (.int _ _)) hK | (refine stX_box rfl ?_; (conv => whnf); exact hK))))), (by repeat' (first | exact True.intro | refine And.intro ?_ ?_ | exact Or.inl (by decide +kernel) | decide +kernel | exact Or.inr (fun K hK => (by (conv => whnf); first | (rw [diffE]; exact hK) | exact hK | exact ldX_eq rfl hK | exact callX_pure hall (pure1 pM) hK | exact callX_pure hmem (pure2 pM (.int _ _)) hK | (refine stX_box rfl ?_; (conv => whnf); exact hK))))), ?_⟩⟩); conv => whnf)
    have hst := hG.states
    have hbit : ∀ t, t < os.length → (diffN (allN os.length) x).testBit t = !x.testBit t := fun t h => by
      rw [diffN_bit _ _ _ (by omega), allN_bit]; simp [h]
    have hpy : ∀ t, t < 0 + os.length → (!x.testBit t && pulled os rows φ player x t) = true → (diffN (allN os.length) x).testBit t = true := fun t h1 h2 => by
      rw [hbit t (by omega)]
      cases hb : x.testBit t with
      | false => rfl
      | true => rw [hb] at h2; simp at h2
    refine range_iterD (members_iter hst) rfl (fun _ h => by cases h)
      (fun vs B => (∃ s k, vs = memV (diffN (allN os.length) x) s k ∧ s + k = os.length ∧ firstS (fun s => !x.testBit s && pulled os rows φ player x s) 0 os.length = firstS (fun s => !x.testBit s && pulled os rows φ player x s) s k) ∧ B = growH os oc rows cc player (.fn (.func ga) [] [.vp [.int .u64 ((y : Nat) : Int)] 0]) x)
      ⟨⟨0, os.length, rfl, by omega, rfl⟩, rfl⟩ (growH_lt pM pA) ?_ ?_
    · rintro v vs B ⟨⟨s, k, hvs, hsk, hfs⟩, rfl⟩ -
      obtain ⟨t, j, rfl, e2, e3, e4, e5, e6⟩ := memV_cons (fun t h1 => hpy t (by omega)) hvs.symm
      have htn : t < os.length := by omega
      have htb : x.testBit t = false := by
        rw [hbit t htn] at e4
        simpa using e4
      refine ⟨rfl, pure1 (.int _ _), fun r => run_x forceT_ok mixed ?_⟩
      conv => whnf
      refine ⟨rfl, _, rfl, fun r' => run_x forceT_ok mixed ?_⟩
      conv => whnf
      repeat ((first | refine And.intro ⟨by decide, rfl⟩ ?_ | refine stX_box rfl ?_); conv => whnf)
      obtain ⟨o, hot⟩ : ∃ o, os[t]? = some o := ⟨_, List.getElem?_eq_getElem htn⟩
      obtain ⟨r0, hrt⟩ : ∃ r0, rows[t]? = some r0 := ⟨_, List.getElem?_eq_getElem (by rw [hG.width]; exact htn)⟩
      have hrm : r0 ∈ rows := List.mem_of_getElem? hrt
      have hos : (osV os)[t]? = some [.int .i64 ((o : Nat) : Int)] := by simp [osV, hot]
      have hrs : (rowsV rows)[t]? = some [.vs r0.1 r0.2] := by simp [rowsV, hrt]
      have pR := pure_row pM hrt
      have hch := fun (z : List AV) (hz : z ∈ r0.1) => hG.cells r0 hrm z hz
      have hgd := con_any_ch2 (c := r0.2) (g := 41) (r0 := [.fn (.func ga) [] [.vp [.int .u64 ((y : Nat) : Int)] 0]]) (r1 := [.int .u64 ((x : Nat) : Int)]) (fun ch => φ ch && touchesA x ch) (hG.count r0 hrm) pR (pure2 (pure_vp1 pA) (pure_set x)) (fun z hz => (hch z hz).elim fun l h => ⟨l, h.1⟩)
        (fun z hz => by obtain ⟨l, h1, h2, h3⟩ := hch z hz; rw [touchesA_eq h1]; exact good_s h1 h2 h3 (ha r0 hrm z hz))
      have hbd := con_any_ch1 (c := r0.2) (g := 43) (r0 := [.fn (.func 41) [] [.vp [.fn (.func ga) [] [.vp [.int .u64 ((y : Nat) : Int)] 0]] 0, .vp [.int .u64 ((x : Nat) : Int)] 0]]) (fun ch => !(φ ch && touchesA x ch)) (hG.count r0 hrm) pR (pure1 (pure_vp1 (pure_fnc (pure2 (pure_vp1 pA) (pure_set x))))) (fun z hz => (hch z hz).elim fun l h => ⟨l, h.1⟩)
        (fun z hz => by obtain ⟨l, h1, h2, h3⟩ := hch z hz; rw [touchesA_eq h1]; exact bad_s h1 h2 h3 (ha r0 hrm z hz))
      have hpl : pulled os rows φ player x t = if o = player then r0.1.any (fun ch => φ ch && touchesA x ch) else !(r0.1.any fun ch => !(φ ch && touchesA x ch)) := by
        unfold pulled chsOf
        rw [List.getD_eq_getElem?_getD, hot, hrt]; rfl
      generalize (r0.1.any fun ch => φ ch && touchesA x ch) = b1 at hgd hpl
      generalize (r0.1.any fun ch => !(φ ch && touchesA x ch)) = b2 at hbd hpl
      refine Or.inl ⟨by decide +kernel, ?_⟩
      conv => whnf
      have hnext : pulled os rows φ player x t = true → ∃ f', f = f' + 1 ∧ x ||| 2 ^ t < 18446744073709551616 ∧ outs (x ||| 2 ^ t) 0 os.length ≤ f' ∧ growN os.length (pulled os rows φ player) f' (x ||| 2 ^ t) = X := fun hp => by
        have o1 := outs_pos htb (k := os.length) (s := 0) (Nat.zero_le _) (by omega)
        obtain ⟨f', rfl⟩ : ∃ f', f = f' + 1 := ⟨f - 1, by omega⟩
        have o2 := outs_add x t htb os.length 0
        rw [if_pos ⟨Nat.zero_le _, by omega⟩] at o2
        refine ⟨f', rfl, Nat.or_lt_two_pow (n := 64) hx (Nat.pow_lt_pow_right (by decide) (by omega)), by omega, ?_⟩
        have hpt : (!x.testBit t && pulled os rows φ player x t) = true := by rw [htb, hp]; rfl
        rw [← hX]
        exact (growN_some (hfs.trans (e6.trans (if_pos hpt)))).symm
      have hstay : pulled os rows φ player x t = false → firstS (fun s => !x.testBit s && pulled os rows φ player x s) 0 os.length = firstS (fun s => !x.testBit s && pulled os rows φ player x s) (t + 1) j := fun hp => by
        have hpt : ¬ (!x.testBit t && pulled os rows φ player x t) = true := by rw [hp]; simp
        exact hfs.trans (e6.trans (if_neg hpt))
      obtain ⟨eo, heo⟩ : ∃ eo, (((o : Nat) : Int) == ((player : Nat) : Int)) = eo := ⟨_, rfl⟩
      have heo2 : (((o : Nat) : Int) != ((player : Nat) : Int)) = !eo := by rw [← heo]; rfl
      have hpl2 : pulled os rows φ player x t = bif eo then b1 else !b2 := by
        rw [hpl]
        by_cases h : o = player
        · subst h
          have : eo = true := by rw [← heo]; simp
          rw [this, if_pos rfl]; rfl
        · have : eo = false := by rw [← heo]; exact beq_eq_false_iff_ne.2 fun e => h (by omega)
          rw [this, if_neg h]; rfl
      clear hpl
      cases eo
      · cases b2
        all_goals
          repeat ((first | refine condX_t (by first | rfl | exact heo | exact heo2 | exact (congrArg (· == true) heo).trans rfl | exact (congrArg (· == true) heo2).trans rfl) ?_ | refine condX_f (by first | rfl | exact heo | exact heo2 | exact (congrArg (· == true) heo).trans rfl | exact (congrArg (· == true) heo2).trans rfl) ?_ | refine ⟨_, _, fun K hK => (by (conv => whnf); first | exact hK | exact ldX_eq rfl hK | exact condX_t (by first | rfl | exact heo | exact heo2 | exact (congrArg (· == true) heo).trans rfl | exact (congrArg (· == true) heo2).trans rfl) hK | exact condX_f (by first | rfl | exact heo | exact heo2 | exact (congrArg (· == true) heo).trans rfl | exact (congrArg (· == true) heo2).trans rfl) hK | exact idxX_at t rfl hos rfl hK | exact idxX_at t rfl hrs rfl hK | exact callX_of (borrow2 pR (frz_bad pA rfl rfl rfl) hbd hK) | (refine stX_box rfl ?_; (conv => whnf); exact hK)), Or.inl ⟨rfl, (by repeat' (first | exact True.intro | refine And.intro ?_ ?_ | exact Or.inl (by decide +kernel) | decide +kernel | exact Or.inr (fun K hK => (by (conv => whnf); first | exact hK | exact ldX_eq rfl hK | exact condX_t (by first | rfl | exact heo | exact heo2 | exact (congrArg (· == true) heo).trans rfl | exact (congrArg (· == true) heo2).trans rfl) hK | exact condX_f (by first | rfl | exact heo | exact heo2 | exact (congrArg (· == true) heo).trans rfl | exact (congrArg (· == true) heo2).trans rfl) hK | exact idxX_at t rfl hos rfl hK | exact idxX_at t rfl hrs rfl hK | exact callX_of (borrow2 pR (frz_bad pA rfl rfl rfl) hbd hK) | (refine stX_box rfl ?_; (conv => whnf); exact hK))))), ?_⟩⟩ | refine ⟨_, _, fun K hK => (by (conv => whnf); first | exact hK | exact ldX_eq rfl hK | exact condX_t (by first | rfl | exact heo | exact heo2 | exact (congrArg (· == true) heo).trans rfl | exact (congrArg (· == true) heo2).trans rfl) hK | exact condX_f (by first | rfl | exact heo | exact heo2 | exact (congrArg (· == true) heo).trans rfl | exact (congrArg (· == true) heo2).trans rfl) hK | exact idxX_at t rfl hos rfl hK | exact idxX_at t rfl hrs rfl hK | exact callX_of (borrow2 pR (frz_bad pA rfl rfl rfl) hbd hK) | (refine stX_box rfl ?_; (conv => whnf); exact hK)), Or.inr ⟨(by repeat' (first | exact True.intro | refine And.intro ?_ ?_ | exact Or.inl (by decide +kernel) | decide +kernel | exact Or.inr (fun K hK => (by (conv => whnf); first | exact hK | exact ldX_eq rfl hK | exact condX_t (by first | rfl | exact heo | exact heo2 | exact (congrArg (· == true) heo).trans rfl | exact (congrArg (· == true) heo2).trans rfl) hK | exact condX_f (by first | rfl | exact heo | exact heo2 | exact (congrArg (· == true) heo).trans rfl | exact (congrArg (· == true) heo2).trans rfl) hK | exact idxX_at t rfl hos rfl hK | exact idxX_at t rfl hrs rfl hK | exact callX_of (borrow2 pR (frz_bad pA rfl rfl rfl) hbd hK) | (refine stX_box rfl ?_; (conv => whnf); exact hK))))), (by repeat' (first | exact True.intro | refine And.intro ?_ ?_ | exact Or.inl (by decide +kernel) | decide +kernel | exact Or.inr (fun K hK => (by (conv => whnf); first | exact hK | exact ldX_eq rfl hK | exact condX_t (by first | rfl | exact heo | exact heo2 | exact (congrArg (· == true) heo).trans rfl | exact (congrArg (· == true) heo2).trans rfl) hK | exact condX_f (by first | rfl | exact heo | exact heo2 | exact (congrArg (· == true) heo).trans rfl | exact (congrArg (· == true) heo2).trans rfl) hK | exact idxX_at t rfl hos rfl hK | exact idxX_at t rfl hrs rfl hK | exact callX_of (borrow2 pR (frz_bad pA rfl rfl rfl) hbd hK) | (refine stX_box rfl ?_; (conv => whnf); exact hK))))), ?_⟩⟩); conv => whnf)
        · obtain ⟨f', rfl, hx2, ho2, hX2⟩ := hnext hpl2
          refine Or.inl ⟨by decide +kernel, ?_⟩
          conv => whnf
          repeat ((first | refine ⟨_, _, fun K hK => (by (conv => whnf); first | (rw [addE x t hx (by omega)]; exact hK) | exact hK | exact ldX_eq rfl hK | exact And.intro (Int.natCast_nonneg _) hK | (refine stX_box rfl ?_; (conv => whnf); exact hK)), Or.inl ⟨rfl, (by repeat' (first | exact True.intro | refine And.intro ?_ ?_ | exact Or.inl (by decide +kernel) | decide +kernel | exact Or.inr (fun K hK => (by (conv => whnf); first | (rw [addE x t hx (by omega)]; exact hK) | exact hK | exact ldX_eq rfl hK | exact And.intro (Int.natCast_nonneg _) hK | (refine stX_box rfl ?_; (conv => whnf); exact hK))))), ?_⟩⟩ | refine ⟨_, _, fun K hK => (by (conv => whnf); first | (rw [addE x t hx (by omega)]; exact hK) | exact hK | exact ldX_eq rfl hK | exact And.intro (Int.natCast_nonneg _) hK | (refine stX_box rfl ?_; (conv => whnf); exact hK)), Or.inr ⟨(by repeat' (first | exact True.intro | refine And.intro ?_ ?_ | exact Or.inl (by decide +kernel) | decide +kernel | exact Or.inr (fun K hK => (by (conv => whnf); first | (rw [addE x t hx (by omega)]; exact hK) | exact hK | exact ldX_eq rfl hK | exact And.intro (Int.natCast_nonneg _) hK | (refine stX_box rfl ?_; (conv => whnf); exact hK))))), (by repeat' (first | exact True.intro | refine And.intro ?_ ?_ | exact Or.inl (by decide +kernel) | decide +kernel | exact Or.inr (fun K hK => (by (conv => whnf); first | (rw [addE x t hx (by omega)]; exact hK) | exact hK | exact ldX_eq rfl hK | exact And.intro (Int.natCast_nonneg _) hK | (refine stX_box rfl ?_; (conv => whnf); exact hK))))), ?_⟩⟩); conv => whnf)
          exact ⟨growH os oc rows cc player (.fn (.func ga) [] [.vp [.int .u64 ((y : Nat) : Int)] 0]) (x ||| 2 ^ t), [some _], rfl, rfl, growH_lt pM pA, rfl, rfl, (f', x ||| 2 ^ t), Nat.lt_succ_self _, ⟨hx2, ho2, hX2⟩, 1, rfl, less_pat rfl ⟨rfl, rfl, rfl, rfl, trivial⟩⟩
        · exact ⟨growH os oc rows cc player (.fn (.func ga) [] [.vp [.int .u64 ((y : Nat) : Int)] 0]) x, [some _], rfl, rfl, growH_lt pM pA, ⟨⟨t + 1, j, e5, by omega, hstay hpl2⟩, rfl⟩⟩
      · cases b1
        all_goals
          repeat ((first | refine condX_t (by first | rfl | exact heo | exact heo2 | exact (congrArg (· == true) heo).trans rfl | exact (congrArg (· == true) heo2).trans rfl) ?_ | refine condX_f (by first | rfl | exact heo | exact heo2 | exact (congrArg (· == true) heo).trans rfl | exact (congrArg (· == true) heo2).trans rfl) ?_ | refine ⟨_, _, fun K hK => (by (conv => whnf); first | exact hK | exact ldX_eq rfl hK | exact condX_t (by first | rfl | exact heo | exact heo2 | exact (congrArg (· == true) heo).trans rfl | exact (congrArg (· == true) heo2).trans rfl) hK | exact condX_f (by first | rfl | exact heo | exact heo2 | exact (congrArg (· == true) heo).trans rfl | exact (congrArg (· == true) heo2).trans rfl) hK | exact idxX_at t rfl hos rfl hK | exact idxX_at t rfl hrs rfl hK | exact callX_of (borrow2 pR (frz_good pA rfl rfl) hgd hK) | (refine stX_box rfl ?_; (conv => whnf); exact hK)), Or.inl ⟨rfl, (by repeat' (first | exact True.intro | refine And.intro ?_ ?_ | exact Or.inl (by decide +kernel) | decide +kernel | exact Or.inr (fun K hK => (by (conv => whnf); first | exact hK | exact ldX_eq rfl hK | exact condX_t (by first | rfl | exact heo | exact heo2 | exact (congrArg (· == true) heo).trans rfl | exact (congrArg (· == true) heo2).trans rfl) hK | exact condX_f (by first | rfl | exact heo | exact heo2 | exact (congrArg (· == true) heo).trans rfl | exact (congrArg (· == true) heo2).trans rfl) hK | exact idxX_at t rfl hos rfl hK | exact idxX_at t rfl hrs rfl hK | exact callX_of (borrow2 pR (frz_good pA rfl rfl) hgd hK) | (refine stX_box rfl ?_; (conv => whnf); exact hK))))), ?_⟩⟩ | refine ⟨_, _, fun K hK => (by (conv => whnf); first | exact hK | exact ldX_eq rfl hK | exact condX_t (by first | rfl | exact heo | exact heo2 | exact (congrArg (· == true) heo).trans rfl | exact (congrArg (· == true) heo2).trans rfl) hK | exact condX_f (by first | rfl | exact heo | exact heo2 | exact (congrArg (· == true) heo).trans rfl | exact (congrArg (· == true) heo2).trans rfl) hK | exact idxX_at t rfl hos rfl hK | exact idxX_at t rfl hrs rfl hK | exact callX_of (borrow2 pR (frz_good pA rfl rfl) hgd hK) | (refine stX_box rfl ?_; (conv => whnf); exact hK)), Or.inr ⟨(by repeat' (first | exact True.intro | refine And.intro ?_ ?_ | exact Or.inl (by decide +kernel) | decide +kernel | exact Or.inr (fun K hK => (by (conv => whnf); first | exact hK | exact ldX_eq rfl hK | exact condX_t (by first | rfl | exact heo | exact heo2 | exact (congrArg (· == true) heo).trans rfl | exact (congrArg (· == true) heo2).trans rfl) hK | exact condX_f (by first | rfl | exact heo | exact heo2 | exact (congrArg (· == true) heo).trans rfl | exact (congrArg (· == true) heo2).trans rfl) hK | exact idxX_at t rfl hos rfl hK | exact idxX_at t rfl hrs rfl hK | exact callX_of (borrow2 pR (frz_good pA rfl rfl) hgd hK) | (refine stX_box rfl ?_; (conv => whnf); exact hK))))), (by repeat' (first | exact True.intro | refine And.intro ?_ ?_ | exact Or.inl (by decide +kernel) | decide +kernel | exact Or.inr (fun K hK => (by (conv => whnf); first | exact hK | exact ldX_eq rfl hK | exact condX_t (by first | rfl | exact heo | exact heo2 | exact (congrArg (· == true) heo).trans rfl | exact (congrArg (· == true) heo2).trans rfl) hK | exact condX_f (by first | rfl | exact heo | exact heo2 | exact (congrArg (· == true) heo).trans rfl | exact (congrArg (· == true) heo2).trans rfl) hK | exact idxX_at t rfl hos rfl hK | exact idxX_at t rfl hrs rfl hK | exact callX_of (borrow2 pR (frz_good pA rfl rfl) hgd hK) | (refine stX_box rfl ?_; (conv => whnf); exact hK))))), ?_⟩⟩); conv => whnf)
        · exact ⟨growH os oc rows cc player (.fn (.func ga) [] [.vp [.int .u64 ((y : Nat) : Int)] 0]) x, [some _], rfl, rfl, growH_lt pM pA, ⟨⟨t + 1, j, e5, by omega, hstay hpl2⟩, rfl⟩⟩
        · obtain ⟨f', rfl, hx2, ho2, hX2⟩ := hnext hpl2
          refine Or.inl ⟨by decide +kernel, ?_⟩
          conv => whnf
          repeat ((first | refine ⟨_, _, fun K hK => (by (conv => whnf); first | (rw [addE x t hx (by omega)]; exact hK) | exact hK | exact ldX_eq rfl hK | exact And.intro (Int.natCast_nonneg _) hK | (refine stX_box rfl ?_; (conv => whnf); exact hK)), Or.inl ⟨rfl, (by repeat' (first | exact True.intro | refine And.intro ?_ ?_ | exact Or.inl (by decide +kernel) | decide +kernel | exact Or.inr (fun K hK => (by (conv => whnf); first | (rw [addE x t hx (by omega)]; exact hK) | exact hK | exact ldX_eq rfl hK | exact And.intro (Int.natCast_nonneg _) hK | (refine stX_box rfl ?_; (conv => whnf); exact hK))))), ?_⟩⟩ | refine ⟨_, _, fun K hK => (by (conv => whnf); first | (rw [addE x t hx (by omega)]; exact hK) | exact hK | exact ldX_eq rfl hK | exact And.intro (Int.natCast_nonneg _) hK | (refine stX_box rfl ?_; (conv => whnf); exact hK)), Or.inr ⟨(by repeat' (first | exact True.intro | refine And.intro ?_ ?_ | exact Or.inl (by decide +kernel) | decide +kernel | exact Or.inr (fun K hK => (by (conv => whnf); first | (rw [addE x t hx (by omega)]; exact hK) | exact hK | exact ldX_eq rfl hK | exact And.intro (Int.natCast_nonneg _) hK | (refine stX_box rfl ?_; (conv => whnf); exact hK))))), (by repeat' (first | exact True.intro | refine And.intro ?_ ?_ | exact Or.inl (by decide +kernel) | decide +kernel | exact Or.inr (fun K hK => (by (conv => whnf); first | (rw [addE x t hx (by omega)]; exact hK) | exact hK | exact ldX_eq rfl hK | exact And.intro (Int.natCast_nonneg _) hK | (refine stX_box rfl ?_; (conv => whnf); exact hK))))), ?_⟩⟩); conv => whnf)
          exact ⟨growH os oc rows cc player (.fn (.func ga) [] [.vp [.int .u64 ((y : Nat) : Int)] 0]) (x ||| 2 ^ t), [some _], rfl, rfl, growH_lt pM pA, rfl, rfl, (f', x ||| 2 ^ t), Nat.lt_succ_self _, ⟨hx2, ho2, hX2⟩, 1, rfl, less_pat rfl ⟨rfl, rfl, rfl, rfl, trivial⟩⟩
    · rintro B ⟨⟨s, k, hvs, hsk, hfs⟩, rfl⟩ -
      have hno : firstS (fun s => !x.testBit s && pulled os rows φ player x s) 0 os.length = none := hfs.trans (memV_nil (fun t h1 => hpy t (by omega)) hvs.symm)
      rw [growN_none hno] at hX
      subst hX
      conv => whnf
      repeat ((first | refine ldX_eq rfl ?_ | refine And.intro rfl ?_); conv => whnf)
      exact .pure _ (.int _ _)
end
end Go.Abs

namespace Go.Abs
noncomputable section

def Sub (a b : Nat) : Prop := ∀ i, a.testBit i = true → b.testBit i = true
theorem Sub.rfl' {a : Nat} : Sub a a := fun _ h => h
theorem Sub.trans {a b c : Nat} (h : Sub a b) (h' : Sub b c) : Sub a c := fun i hi => h' i (h i hi)
theorem Sub.le {a b : Nat} (h : Sub a b) : a ≤ b := by
  have : a &&& b = a := Nat.eq_of_testBit_eq fun i => by
    rw [Nat.testBit_and]
    cases ha : a.testBit i with
    | false => rfl
    | true => rw [h i ha]; rfl
  rw [← this]; exact Nat.and_le_right
theorem sub_add {x t : Nat} : Sub x (x ||| 2 ^ t) := fun i h => by rw [testBit_add, h]; rfl

def MonoP (pl : Nat → Nat → Bool) : Prop := ∀ a b s, Sub a b → pl a s = true → pl b s = true

theorem growN_ge {n : Nat} {pl : Nat → Nat → Bool} : ∀ (f x : Nat), Sub x (growN n pl f x)
  | 0, _ => Sub.rfl'
  | f + 1, x => by
    unfold growN
    split
    · exact Sub.rfl'
    · exact sub_add.trans (growN_ge f _)
theorem growN_closed {n : Nat} {pl : Nat → Nat → Bool} : ∀ (f x : Nat), outs x 0 n ≤ f → ∀ s, s < n → pl (growN n pl f x) s = true → (growN n pl f x).testBit s = true
  | f, x, hf, s, hs, hp => by
    cases hb : firstS (fun s => !x.testBit s && pl x s) 0 n with
    | none =>
      have e : growN n pl f x = x := by
        cases f with
        | zero => rfl
        | succ f => conv => lhs; unfold growN
                    rw [hb]
      rw [e] at hp ⊢
      have := firstS_none hb s (Nat.zero_le _) (by omega)
      rw [hp] at this
      simpa using this
    | some t =>
      obtain ⟨_, h2, h3⟩ := firstS_some hb
      have htb : x.testBit t = false := by
        cases h : x.testBit t with
        | false => rfl
        | true => rw [h] at h3; simp at h3
      have o1 := outs_pos htb (k := n) (s := 0) (Nat.zero_le _) h2
      have o2 := outs_add x t htb n 0
      rw [if_pos ⟨Nat.zero_le _, h2⟩] at o2
      cases f with
      | zero => omega
      | succ f =>
        have e : growN n pl (f + 1) x = growN n pl f (x ||| 2 ^ t) := by
          conv => lhs; unfold growN
          rw [hb]
        rw [e] at hp ⊢
        exact growN_closed f _ (by omega) s hs hp
theorem growN_least {n : Nat} {pl : Nat → Nat → Bool} (hm : MonoP pl) {Y : Nat} (hc : ∀ s, s < n → pl Y s = true → Y.testBit s = true) : ∀ (f x : Nat), Sub x Y → Sub (growN n pl f x) Y
  | 0, _, h => h
  | f + 1, x, h => by
    unfold growN
    split
    · exact h
    · rename_i t ht
      obtain ⟨_, h2, h3⟩ := firstS_some ht
      refine growN_least hm hc f _ fun i hi => ?_
      rw [testBit_add] at hi
      cases hx : x.testBit i with
      | true => exact h i hx
      | false =>
        rw [hx] at hi
        obtain rfl : t = i := by simpa using hi
        refine hc t (by omega) (hm x Y t h ?_)
        rw [hx] at h3; simpa using h3

theorem growN_mono {n : Nat} {pl pl' : Nat → Nat → Bool} (hm : MonoP pl) (hpp : ∀ x s, pl x s = true → pl' x s = true) {x y : Nat} (hxy : Sub x y) : Sub (growN n pl n x) (growN n pl' n y) :=
  growN_least hm (fun s hs hp => growN_closed n y (outs_le _ _ _) s hs (hpp _ _ hp)) n x (hxy.trans (growN_ge n y))
theorem growN_in {n : Nat} {pl : Nat → Nat → Bool} : ∀ (f x : Nat), Sub x (allN n) → Sub (growN n pl f x) (allN n)
  | 0, _, h => h
  | f + 1, x, h => by
    unfold growN
    split
    · exact h
    · rename_i t ht
      obtain ⟨_, h2, _⟩ := firstS_some ht
      refine growN_in f _ fun i hi => ?_
      rw [testBit_add] at hi
      cases hx : x.testBit i with
      | true => exact h i hx
      | false =>
        rw [hx] at hi
        obtain rfl : t = i := by simpa using hi
        rw [allN_bit]; simp; omega

theorem touchesA_mono {a b : Nat} (h : Sub a b) {ch : List AV} (ht : touchesA a ch = true) : touchesA b ch = true := by
  unfold touchesA at *
  rw [List.any_eq_true] at *
  obtain ⟨t, h1, h2⟩ := ht
  exact ⟨t, h1, h t h2⟩
theorem staysA_mono {a b : Nat} (h : Sub a b) {ch : List AV} (ht : staysA a ch = true) : staysA b ch = true := by
  unfold staysA at *
  cases hb : (toOf ch).any fun t => !b.testBit t with
  | false => rfl
  | true =>
    rw [List.any_eq_true] at hb
    obtain ⟨t, h1, h2⟩ := hb
    have : ((toOf ch).any fun t => !a.testBit t) = true := List.any_eq_true.2 ⟨t, h1, by
      cases ha : a.testBit t with
      | false => rfl
      | true => rw [h t ha] at h2; cases h2⟩
    rw [this] at ht; cases ht
theorem pulled_mono {os : List Nat} {rows : List ChR} {φ φ' : List AV → Bool} {player a b s : Nat} (hφ : ∀ ch, φ ch = true → φ' ch = true) (h : Sub a b) (hp : pulled os rows φ player a s = true) : pulled os rows φ' player b s = true := by
  have key : ∀ ch, (φ ch && touchesA a ch) = true → (φ' ch && touchesA b ch) = true := fun ch hc => by
    rw [Bool.and_eq_true] at *
    exact ⟨hφ ch hc.1, touchesA_mono h hc.2⟩
  unfold pulled at *
  split at hp
  · rename_i ho
    rw [if_pos ho]
    rw [List.any_eq_true] at *
    obtain ⟨ch, h1, h2⟩ := hp
    exact ⟨ch, h1, key ch h2⟩
  · rename_i ho
    rw [if_neg ho]
    cases hb : (chsOf rows s).any fun ch => !(φ' ch && touchesA b ch) with
    | false => rfl
    | true =>
      rw [List.any_eq_true] at hb
      obtain ⟨ch, h1, h2⟩ := hb
      have : ((chsOf rows s).any fun ch => !(φ ch && touchesA a ch)) = true := List.any_eq_true.2 ⟨ch, h1, by
        cases hk : (φ ch && touchesA a ch) with
        | false => rfl
        | true => rw [key ch hk] at h2; cases h2⟩
      rw [this] at hp; cases hp
theorem pulled_monoP {os : List Nat} {rows : List ChR} {φ : List AV → Bool} {player : Nat} : MonoP (pulled os rows φ player) := fun _ _ _ h hp => pulled_mono (fun _ h => h) h hp

def posN (os : List Nat) (rows : List ChR) (player target : Nat) : Nat := growN os.length (pulled os rows (fun _ => true) player) os.length target
def sureF (os : List Nat) (rows : List ChR) (player target x : Nat) : Nat := growN os.length (pulled os rows (staysA x) player) os.length target
def fixN (F : Nat → Nat) : Nat → Nat → Nat
  | 0, x => x
  | f + 1, x => if F x = x then x else fixN F f (F x)
theorem fixN_fix {F : Nat → Nat} {x : Nat} (h : F x = x) : ∀ f, fixN F f x = x
  | 0 => rfl
  | f + 1 => if_pos h
theorem fixN_step {F : Nat → Nat} {x f : Nat} (h : F x ≠ x) : fixN F (f + 1) x = fixN F f (F x) := if_neg h
def sureN (os : List Nat) (rows : List ChR) (player target : Nat) : Nat := fixN (sureF os rows player target) (allN os.length) (allN os.length)

section fix
variable {F : Nat → Nat} (hm : ∀ a b, Sub a b → Sub (F a) (F b))
include hm
theorem fixN_ok : ∀ (f x : Nat), x ≤ f → Sub (F x) x → F (fixN F f x) = fixN F f x ∧ Sub (fixN F f x) x ∧ ∀ Y, Sub Y x → Sub Y (F Y) → Sub Y (fixN F f x)
  | 0, x, h, hs => by
    obtain rfl : x = 0 := by omega
    have := hs.le
    refine ⟨?_, Sub.rfl', fun Y h _ => h⟩
    show F 0 = 0
    omega
  | f + 1, x, h, hs => by
    by_cases e : F x = x
    · rw [fixN_fix e]
      exact ⟨e, Sub.rfl', fun Y h _ => h⟩
    · rw [fixN_step e]
      have := hs.le
      obtain ⟨h1, h2, h3⟩ := fixN_ok f (F x) (by omega) (hm _ _ hs)
      exact ⟨h1, h2.trans hs, fun Y hY hF => h3 Y (hF.trans (hm _ _ hY)) hF⟩
end fix

theorem sureF_mono {os : List Nat} {rows : List ChR} {player target a b : Nat} (h : Sub a b) : Sub (sureF os rows player target a) (sureF os rows player target b) := by
  unfold sureF
  exact growN_mono (pl := pulled os rows (staysA a) player) (pl' := pulled os rows (staysA b) player) pulled_monoP (fun x s hp => pulled_mono (φ := staysA a) (φ' := staysA b) (fun ch hc => staysA_mono h hc) (Sub.rfl' (a := x)) hp) Sub.rfl'
theorem sureF_in {os : List Nat} {rows : List ChR} {player target x : Nat} (h : Sub target (allN os.length)) : Sub (sureF os rows player target x) (allN os.length) := growN_in _ _ h

theorem sureN_ok {os : List Nat} {rows : List ChR} {player target : Nat} (h : Sub target (allN os.length)) :
    sureF os rows player target (sureN os rows player target) = sureN os rows player target ∧ ∀ Y, Sub Y (allN os.length) → Sub Y (sureF os rows player target Y) → Sub Y (sureN os rows player target) := by
  obtain ⟨h1, _, h3⟩ := fixN_ok (F := sureF os rows player target) (fun _ _ => sureF_mono) _ (allN os.length) (Nat.le_refl _) (sureF_in h)
  exact ⟨h1, h3⟩
theorem sureN_in {os : List Nat} {rows : List ChR} {player target : Nat} (h : Sub target (allN os.length)) : Sub (sureN os rows player target) (allN os.length) := by
  rw [← (sureN_ok h).1]; exact sureF_in h
theorem target_sure {os : List Nat} {rows : List ChR} {player target : Nat} (h : Sub target (allN os.length)) : Sub target (sureN os rows player target) := by
  rw [← (sureN_ok h).1]; exact growN_ge _ _
theorem sure_pos {os : List Nat} {rows : List ChR} {player target : Nat} (h : Sub target (allN os.length)) : Sub (sureN os rows player target) (posN os rows player target) := by
  rw [← (sureN_ok h).1]
  exact growN_mono pulled_monoP (fun _ _ hp => pulled_mono (fun _ _ => rfl) Sub.rfl' hp) Sub.rfl'
theorem pos_pos {os : List Nat} {rows : List ChR} {player a b : Nat} (h : Sub a b) : Sub (posN os rows player a) (posN os rows player b) := growN_mono pulled_monoP (fun _ _ hp => hp) h
theorem sure_sure {os : List Nat} {rows : List ChR} {player a b : Nat} (h : Sub a b) (hb : Sub b (allN os.length)) : Sub (sureN os rows player a) (sureN os rows player b) := by
  have ha := h.trans hb
  refine (sureN_ok hb).2 _ (sureN_in ha) ?_
  have : Sub (sureF os rows player a (sureN os rows player a)) (sureF os rows player b (sureN os rows player a)) := growN_mono pulled_monoP (fun _ _ hp => hp) h
  rw [(sureN_ok ha).1] at this
  exact this

theorem pulled_chain {os : List Nat} {rows : List ChR} (h1 : ∀ r ∈ rows, r.1.length = 1) (hw : rows.length = os.length) {φ : List AV → Bool} {p q x s : Nat} (hs : s < os.length) : pulled os rows φ p x s = pulled os rows φ q x s := by
  have key : ∀ p, pulled os rows φ p x s = (chsOf rows s).any fun ch => φ ch && touchesA x ch := fun p => by
    unfold pulled
    split
    · rfl
    · obtain ⟨r, hr⟩ : ∃ r, rows[s]? = some r := ⟨_, List.getElem?_eq_getElem (by omega)⟩
      have hl := h1 r (List.mem_of_getElem? hr)
      obtain ⟨ch, hc⟩ := List.length_eq_one_iff.1 hl
      unfold chsOf
      rw [hr]
      simp [hc]
  rw [key p, key q]
theorem growN_congr {n : Nat} {pl pl' : Nat → Nat → Bool} (h : ∀ x s, s < n → pl x s = pl' x s) : ∀ (f x : Nat), growN n pl f x = growN n pl' f x
  | 0, _ => rfl
  | f + 1, x => by
    have e : ∀ (k s : Nat), s + k ≤ n → firstS (fun s => !x.testBit s && pl x s) s k = firstS (fun s => !x.testBit s && pl' x s) s k := by
      intro k
      induction k with
      | zero => intro s _; rfl
      | succ k ih =>
        intro s hs
        unfold firstS
        rw [h x s (by omega), ih (s + 1) (by omega)]
    unfold growN
    rw [e n 0 (by omega)]
    split
    · rfl
    · exact growN_congr h f _
theorem pos_chain {os : List Nat} {rows : List ChR} (h1 : ∀ r ∈ rows, r.1.length = 1) (hw : rows.length = os.length) {p q t : Nat} : posN os rows p t = posN os rows q t := growN_congr (fun _ _ hs => pulled_chain h1 hw hs) _ _
theorem sureF_chain {os : List Nat} {rows : List ChR} (h1 : ∀ r ∈ rows, r.1.length = 1) (hw : rows.length = os.length) {p q t : Nat} : sureF os rows p t = sureF os rows q t := funext fun _ => growN_congr (fun _ _ hs => pulled_chain h1 hw hs) _ _
theorem sure_chain {os : List Nat} {rows : List ChR} (h1 : ∀ r ∈ rows, r.1.length = 1) (hw : rows.length = os.length) {p q t : Nat} : sureN os rows p t = sureN os rows q t := by
  unfold sureN; rw [sureF_chain h1 hw (p := p) (q := q)]
end
end Go.Abs
