/-
  A region whose order is drawn: what must hold of its operations so that the order of the text stands for every order.
  Conditions: none.
-/
import Derived.Test.YthbpdiolceabhaaGreatDoorAbsDraw
set_option linter.unusedVariables false
set_option linter.unusedSimpArgs false
set_option linter.unusedSectionVars false
namespace Go.Abs
variable [Gl]

/-- Must come before, by the edges. -/
inductive Bef (ops : Array Oper) : Nat → Nat → Prop where
  | edge (o : Oper) (e : Edge) (i : Nat) (ho : ops[i]? = some o) (he : e ∈ o.after) (hb : Region.binds .any e = true) : Bef ops e.on i
  | trans (j k i : Nat) (a : Bef ops j k) (b : Bef ops k i) : Bef ops j i

/-- Where an operation's value goes. -/
def dstOf (ops : Array Oper) (i : Nat) : Option Tmp := (ops[i]?).bind (·.dst)

/-- The frame's places behind some operations, in the text's order. -/
def tmk (ops : Array Oper) (V : Nat → AV) (A0 : List AV) (S : Nat → Bool) : Nat → List AV
  | 0 => A0
  | k + 1 => match S k with
    | true => aput (tmk ops V A0 S k) (dstOf ops k) (V k)
    | false => tmk ops V A0 S k

section tm
variable {ops : Array Oper} {V : Nat → AV} {A0 : List AV}

omit [Gl] in
theorem aput_length (ts : List AV) (d : Option Tmp) (x : AV) : (aput ts d x).length = ts.length := by
  cases d <;> simp [aput]
omit [Gl] in
theorem aput_get {ts : List AV} {d : Option Tmp} {x : AV} {t : Nat} : (aput ts d x)[t]? = if d = some t then (if t < ts.length then some x else none) else ts[t]? := by
  cases d with
  | none => simp [aput]
  | some d =>
    simp only [aput, List.getElem?_set, Option.some.injEq]
    by_cases h : d = t
    · subst h; simp
    · simp [h]

theorem tmk_length (S : Nat → Bool) : ∀ k, (tmk ops V A0 S k).length = A0.length
  | 0 => rfl
  | k + 1 => by
    unfold tmk
    split
    · rw [aput_length, tmk_length S k]
    · exact tmk_length S k

theorem tmk_agree {S S' : Nat → Bool} {t : Nat} : ∀ k, (∀ j, j < k → dstOf ops j = some t → S j = S' j) → (tmk ops V A0 S k)[t]? = (tmk ops V A0 S' k)[t]?
  | 0, _ => rfl
  | k + 1, h => by
    have ih := tmk_agree k fun j hj => h j (by omega)
    by_cases hd : dstOf ops k = some t
    · have hs := h k (by omega) hd
      unfold tmk
      rw [← hs]
      split
      · rw [aput_get, aput_get, if_pos hd, if_pos hd, tmk_length, tmk_length]
      · exact ih
    · have one : ∀ S : Nat → Bool, (tmk ops V A0 S (k + 1))[t]? = (tmk ops V A0 S k)[t]? := fun S => by
        rw [tmk]
        split
        · rw [aput_get, if_neg hd]
        · rfl
      rw [one, one]; exact ih

theorem tmk_last {S : Nat → Bool} {t i : Nat} (hs : S i = true) (hd : dstOf ops i = some t) : ∀ k, i < k → (∀ j, i < j → j < k → dstOf ops j = some t → S j = false) →
    (tmk ops V A0 S k)[t]? = if t < A0.length then some (V i) else none
  | 0, h, _ => by omega
  | k + 1, h, hj => by
    by_cases hk : i = k
    · subst hk
      unfold tmk
      rw [hs]
      simp only
      rw [aput_get, if_pos hd, tmk_length]
    · have ih := tmk_last hs hd k (by omega) fun j h1 h2 => hj j h1 (by omega)
      by_cases hdk : dstOf ops k = some t
      · have := hj k (by omega) (by omega) hdk
        unfold tmk
        rw [this]
        exact ih
      · unfold tmk
        split
        · rw [aput_get, if_neg hdk]; exact ih
        · exact ih

omit [Gl] in
theorem tmk_all (S : Nat → Bool) (i : Nat) (h1 : ∀ j, j < i → S j = true) (k : Nat) (hk : k ≤ i) : tmk ops V A0 S k = tmk ops V A0 (fun _ => true) k := by
  induction k with
  | zero => rfl
  | succ k ih =>
    unfold tmk
    rw [h1 k (by omega), ih (by omega)]

omit [Gl] in
theorem tmk_stop (S : Nat → Bool) (i : Nat) (h2 : ∀ j, i ≤ j → S j = false) : ∀ k, i ≤ k → tmk ops V A0 S k = tmk ops V A0 S i
  | 0, h => by obtain rfl : i = 0 := by omega
               rfl
  | k + 1, h => by
    by_cases hk : i = k + 1
    · rw [hk]
    · rw [tmk, h2 k (by omega)]
      exact tmk_stop S i h2 k (by omega)
end tm

/-- What the places look like before an operation, in the text's order. -/
def XT (ops : Array Oper) (V : Nat → AV) (A0 : List AV) (i : Nat) : List AV := tmk ops V A0 (fun _ => true) i

structure Plan (P : Program) (T : Tab) (ops : Array Oper) (A0 : List AV) (V : Nat → AV) (isW : Nat → Bool) (H : Nat → Heap) : Prop where
  back : ∀ j i, Bef ops j i → j < i
  apart : ∀ i j oi oj d, ops[i]? = some oi → ops[j]? = some oj → i ≠ j → oi.dst = some d → (d ∈ oj.looksAt ops ∨ oj.dst = some d) → Bef ops i j ∨ Bef ops j i
  total : ∀ i j, i < j → j < ops.size → isW i = true → isW j = true → Bef ops i j
  same : ∀ i, i < ops.size → isW i = false → H (i + 1) = H i
  ok : ∀ i o, ops[i]? = some o →
    (guardA ops (XT ops V A0 i) o = some false ∧ V i = .tup [] ∧ isW i = false) ∨
    (guardA ops (XT ops V A0 i) o = some true ∧ isW i = true ∧ ∀ K : AV → Heap → Prop, K (V i) (H (i + 1)) → opW P T ⟨XT ops V A0 i, H i⟩ o K) ∨
    (guardA ops (XT ops V A0 i) o = some true ∧ isW i = false ∧ ∀ p, p ≤ ops.size → (∀ w, isW w = true → w < p → ¬ Bef ops i w) → (∀ w, isW w = true → w < ops.size → p ≤ w → ¬ Bef ops w i) →
      ∀ K : AV → Heap → Prop, K (V i) (H p) → opW P T ⟨XT ops V A0 i, H p⟩ o K)

/-- An operation reads its operands alone. -/
theorem opW_congr {P : Program} {T : Tab} {ops : Array Oper} {X Y : List AV} {h : Heap} {o : Oper} (hxy : ∀ t, t ∈ o.looksAt ops → X[t]? = Y[t]?) {K : AV → Heap → Prop} (hw : opW P T ⟨X, h⟩ o K) : opW P T ⟨Y, h⟩ o K := by
  have hev : ∀ x ∈ o.op.operands, St.ev ⟨X, h⟩ x = St.ev ⟨Y, h⟩ x := fun x hx => by
    cases x with
    | tmp t =>
      have : t ∈ o.looksAt ops := List.mem_append_left _ (List.mem_filterMap.2 ⟨.tmp t, by simpa using hx, rfl⟩)
      simp only [St.ev, List.getD_eq_getElem?_getD, hxy t this]
    | _ => rfl
  obtain ⟨dst, op, type, pos, after, guard⟩ := o
  have hmap : ∀ l : List Operand, (∀ x ∈ l, x ∈ op.operands) → l.map (St.ev ⟨X, h⟩) = l.map (St.ev ⟨Y, h⟩) := fun l hl => List.map_congr_left fun x hx => hev x (hl x hx)
  have hpar : ∀ ps : Array (Nat × Operand), (∀ p ∈ ps.toList, p.2 ∈ op.operands) → (ps.toList.map fun p => (p.1, St.ev ⟨X, h⟩ p.2)) = (ps.toList.map fun p => (p.1, St.ev ⟨Y, h⟩ p.2)) := fun ps hp =>
    List.map_congr_left fun p hm => by rw [hev p.2 (hp p hm)]
  have hopt : ∀ x : Option Operand, (∀ y, x = some y → y ∈ op.operands) → x.map (St.ev ⟨X, h⟩) = x.map (St.ev ⟨Y, h⟩) := fun x hx => by
    cases x with
    | none => rfl
    | some x => simp only [Option.map_some, hev x (hx x rfl)]
  cases op <;> simp only [Op.operands] at hev hmap hpar hopt <;> simp only [opW] at hw ⊢
  case move x => rw [← hev x (by simp)]; exact hw
  case assign x => rw [← hev x (by simp)]; exact hw
  case pick c a b => rw [← hev c (by simp), ← hev a (by simp), ← hev b (by simp)]; exact hw
  case alloc => exact hw
  case box t x => rw [← hev x (by simp)]; exact hw
  case build t ps => rw [← hpar ps (fun p hp => by simp; exact ⟨p.1, by simpa using hp⟩)]; exact hw
  case buildSlice t n ps => rw [← hpar ps (fun p hp => by simp; exact ⟨p.1, by simpa using hp⟩)]; exact hw
  case load t a => rw [← hev a (by simp)]; exact hw
  case store t a x => rw [← hev a (by simp), ← hev x (by simp)]; exact hw
  case nilCheck x => rw [← hev x (by simp)]; exact hw
  case binOp op t x y u => rw [← hev x (by simp), ← hev y (by simp)]; exact hw
  case unOp op t x => rw [← hev x (by simp)]; exact hw
  case convert s d x => rw [← hev x (by simp)]; exact hw
  case makeFunc f a c => rw [← hmap a.toList (fun x hx => by simp; exact .inl (by simpa using hx)), ← hmap c.toList (fun x hx => by simp; exact .inr (by simpa using hx))]; exact hw
  case makeSlice t l c => rw [← hev l (by simp), ← hev c (by simp)]; exact hw
  case slice t x lo hi mx =>
    rw [← hev x (by simp), ← hopt lo (fun y hy => by simp [hy]), ← hopt hi (fun y hy => by simp [hy]), ← hopt mx (fun y hy => by simp [hy])]; exact hw
  case fieldAddr t x f => rw [← hev x (by simp)]; exact hw
  case field t x f => rw [← hev x (by simp)]; exact hw
  case indexAddr t x i => rw [← hev x (by simp), ← hev i (by simp)]; exact hw
  case index t x i => rw [← hev x (by simp), ← hev i (by simp)]; exact hw
  case extract x i => rw [← hev x (by simp)]; exact hw
  case call c =>
    obtain ⟨callee, args, at'⟩ := c
    have hargs : args.toList.map (St.ev ⟨X, h⟩) = args.toList.map (St.ev ⟨Y, h⟩) := hmap _ fun x hx => by simp [Call.operands]; exact .inr (by simpa using hx)
    have harg : ∀ x, x ∈ args.toList → St.ev ⟨X, h⟩ x = St.ev ⟨Y, h⟩ x := fun x hx => hev x (by simp [Call.operands]; exact .inr (by simpa using hx))
    cases callee with
    | value f =>
      simp only [callW] at hw ⊢
      rw [← hargs, ← hev f (by simp [Call.operands])]; exact hw
    | invoke r mth => simp only [callW] at hw
    | builtin b =>
      cases b
      case len =>
        revert hw
        cases h1 : at'.toList with
        | nil => intro hw; simp only [callW, h1] at hw
        | cons t ts1 =>
          cases ts1 with
          | cons _ _ => intro hw; simp only [callW, h1] at hw
          | nil =>
            cases h2 : args.toList with
            | nil => intro hw; simp only [callW, h1, h2] at hw
            | cons x xs =>
              cases xs with
              | cons _ _ => intro hw; simp only [callW, h1, h2] at hw
              | nil =>
                intro hw
                simp only [callW, h1, h2] at hw ⊢
                rw [← harg x (by rw [h2]; simp)]; exact hw
      case append =>
        revert hw
        rcases h1 : at'.toList with _ | ⟨t, _ | ⟨u, _ | ⟨_, _⟩⟩⟩
        · intro hw; simp only [callW, h1] at hw
        · intro hw; simp only [callW, h1] at hw
        · rcases h2 : args.toList with _ | ⟨x, _ | ⟨z, _ | ⟨_, _⟩⟩⟩
          · intro hw; simp only [callW, h1, h2] at hw
          · intro hw; simp only [callW, h1, h2] at hw
          · intro hw
            simp only [callW, h1, h2] at hw ⊢
            rw [← harg x (by rw [h2]; simp), ← harg z (by rw [h2]; simp)]; exact hw
          · intro hw; simp only [callW, h1, h2] at hw
        · intro hw; simp only [callW, h1] at hw
      case max =>
        revert hw
        rcases h2 : args.toList with _ | ⟨x, _ | ⟨z, _ | ⟨_, _⟩⟩⟩
        · intro hw; simp only [callW, h2] at hw
        · intro hw; simp only [callW, h2] at hw
        · intro hw
          simp only [callW, h2] at hw ⊢
          rw [← harg x (by rw [h2]; simp), ← harg z (by rw [h2]; simp)]; exact hw
        · intro hw; simp only [callW, h2] at hw
      case min =>
        revert hw
        rcases h2 : args.toList with _ | ⟨x, _ | ⟨z, _ | ⟨_, _⟩⟩⟩
        · intro hw; simp only [callW, h2] at hw
        · intro hw; simp only [callW, h2] at hw
        · intro hw
          simp only [callW, h2] at hw ⊢
          rw [← harg x (by rw [h2]; simp), ← harg z (by rw [h2]; simp)]; exact hw
        · intro hw; simp only [callW, h2] at hw
      all_goals exact absurd hw (by simp [callW])
  all_goals exact hw.elim

end Go.Abs
