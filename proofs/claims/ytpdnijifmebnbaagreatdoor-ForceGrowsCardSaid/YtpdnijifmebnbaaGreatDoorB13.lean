/-
  Steps to a law of this program: AbsEval4.
  Conditions: none.
-/
import Derived.Test.YtpdnijifmebnbaaGreatDoorB12
set_option linter.unusedVariables false
set_option linter.unusedSimpArgs false
set_option linter.unusedSectionVars false
namespace Go.Abs
noncomputable section
variable [Gl]

section ops
variable {R : Type} (T : Tab)


def evTmp (t : Tmp) (ts : TS) (k : AV → Option R) : Option R := tsGet ts t k
def evConst (v : Value) (_ : TS) (k : AV → Option R) : Option R := fAV (ofV v) k
def evGlob (g : Nat) (_ : TS) (k : AV → Option R) : Option R := k (.gp g 0)
def evFunc (f : FuncId) (_ : TS) (k : AV → Option R) : Option R := k (.fn (.func f) [] [])
def evSelC (o : Operand) : TS → (AV → Option R) → Option R :=
  match o with
  | .tmp t => evTmp t
  | .const v => evConst v
  | .global g => evGlob g
  | .func f => evFunc f
noncomputable def evSel (o : Operand) : TS → (AV → Option R) → Option R :=
  Operand.rec (motive := fun _ => TS → (AV → Option R) → Option R) evTmp evConst evGlob evFunc o
def evK (ts : TS) (o : Operand) (k : AV → Option R) : Option R := evSel o ts k
theorem evK_eq {ts : TS} (ht : okT ts) (h : Heap) (o : Operand) (k : AV → Option R) : evK ts o k = k (St.ev ⟨ts.flatten, h⟩ o) := by
  cases o with
  | tmp t => exact tsGet_eq ts t k ht
  | const v => exact fAV_eq (ofV v) k
  | global g => rfl
  | func f => rfl

def evsK (ts : TS) : List Operand → (List AV → Option R) → Option R
  | [], k => k []
  | o :: l, k => evK ts o fun x => evsK ts l fun xs => k (x :: xs)
theorem evsK_eq {ts : TS} (ht : okT ts) (h : Heap) : ∀ (l : List Operand) (k : List AV → Option R), evsK ts l k = k (l.map (St.ev ⟨ts.flatten, h⟩))
  | [], _ => rfl
  | o :: l, k => by rw [evsK, evK_eq ht h, evsK_eq ht h l]; rfl

def evoK (ts : TS) (o : Option Operand) (k : Option AV → Option R) : Option R :=
  match o with
  | none => k none
  | some o => evK ts o fun x => k (some x)
theorem evoK_eq {ts : TS} (ht : okT ts) (h : Heap) (o : Option Operand) (k : Option AV → Option R) : evoK ts o k = k (o.map (St.ev ⟨ts.flatten, h⟩)) := by
  cases o with
  | none => rfl
  | some o => rw [evoK, evK_eq ht h]; rfl

def evpK (ts : TS) : List (Nat × Operand) → (List (Nat × AV) → Option R) → Option R
  | [], k => k []
  | (i, o) :: l, k => evK ts o fun x => evpK ts l fun xs => k ((i, x) :: xs)
theorem evpK_eq {ts : TS} (ht : okT ts) (h : Heap) : ∀ (l : List (Nat × Operand)) (k : List (Nat × AV) → Option R), evpK ts l k = k (l.map fun p => (p.1, St.ev ⟨ts.flatten, h⟩ p.2))
  | [], _ => rfl
  | (i, o) :: l, k => by rw [evpK, evK_eq ht h, evpK_eq ht h l]; rfl

def putKC (ts : TS) (d : Option Tmp) (x : AV) (k : TS → Option R) : Option R :=
  match d with
  | none => k ts
  | some d => tsSet ts d x k
noncomputable def putK (ts : TS) (d : Option Tmp) (x : AV) (k : TS → Option R) : Option R :=
  Option.rec (motive := fun _ => Option R) (k ts) (fun d => tsSet ts d x k) d
theorem putK_ok {ts : TS} (ht : okT ts) {d : Option Tmp} {x : AV} {k : TS → Option R} {y : R} (h : putK ts d x k = some y) : ∃ ts', okT ts' ∧ ts'.flatten = aput ts.flatten d x ∧ k ts' = some y := by
  cases d with
  | none => exact ⟨ts, ht, rfl, h⟩
  | some d =>
    replace h : tsSet ts d x k = some y := h
    rw [tsSet_eq] at h
    obtain ⟨h1, h2⟩ := upd_ok ht d x
    exact ⟨_, h1, h2, h⟩

def allB {α : Type} (p : α → Bool) : List α → Bool
  | [] => true
  | a :: l => match p a with | true => allB p l | false => false
omit [Gl] in
theorem allB_ok {α : Type} {p : α → Bool} : ∀ {l : List α}, allB p l = true → ∀ x ∈ l, p x = true
  | [], _, x, hx => by cases hx
  | a :: l, h, x, hx => by
    unfold allB at h
    split at h
    · rename_i ha
      rcases List.mem_cons.1 hx with rfl | hx
      · exact ha
      · exact allB_ok h x hx
    · cases h

def pureB : Nat → AV → Bool
  | 0, _ => false
  | n + 1, x => match x with
    | .junk | .bool _ | .int _ _ | .str _ | .nilp | .nils | .nilf | .nili | .nilm | .gp _ _ => true
    | .agg cs => allB (pureB n) cs
    | .tup cs => allB (pureB n) cs
    | .vs es _ => allB (allB (pureB n)) es
    | .vp row _ => allB (pureB n) row
    | .fn _ a c => allB (pureB n) a && allB (pureB n) c
    | .ifc _ x => pureB n x
    | _ => false

theorem pureB_ok : ∀ (n : Nat) (x : AV), pureB n x = true → Pure x
  | 0, _, h => by cases h
  | n + 1, x, h => by
    have ih := pureB_ok n
    have all : ∀ {l : List AV}, allB (pureB n) l = true → ∀ (i : Nat) (hi : i < l.length), Pure l[i] := fun h i hi => ih _ (allB_ok h _ (List.getElem_mem hi))
    unfold pureB at h
    split at h
    · exact .junk
    · exact .bool _
    · exact .int _ _
    · exact .str _
    · exact .nilp
    · exact .nils
    · exact .nilf
    · exact .nili
    · exact .nilm
    · exact .gp _ _
    · exact .agg _ (all h)
    · exact .tup _ (all h)
    · exact .vs _ _ fun i hi j hj => all (allB_ok h _ (List.getElem_mem hi)) j hj
    · exact .vp _ _ (all h)
    · rw [Bool.and_eq_true] at h
      exact .fn _ _ _ (all h.1) (all h.2)
    · exact .ifc _ _ (ih _ h)
    · cases h

def plainB : Nat → AV → Bool
  | 0, _ => false
  | n + 1, x => match x with
    | .bool _ | .int _ _ | .str _ | .nilp | .nils | .nilf | .nili | .nilm => true
    | .agg cs => allB (plainB n) cs
    | .tup cs => allB (plainB n) cs
    | _ => false
theorem plainB_ok : ∀ (n : Nat) (x : AV), plainB n x = true → Plain x
  | 0, _, h => by cases h
  | n + 1, x, h => by
    have ih := plainB_ok n
    have all : ∀ {l : List AV}, allB (plainB n) l = true → ∀ (i : Nat) (hi : i < l.length), Plain l[i] := fun h i hi => ih _ (allB_ok h _ (List.getElem_mem hi))
    unfold plainB at h
    split at h
    · exact .bool _
    · exact .int _ _
    · exact .str _
    · exact .nilp
    · exact .nils
    · exact .nilf
    · exact .nili
    · exact .nilm
    · exact .agg _ (all h)
    · exact .tup _ (all h)
    · cases h

def frzL (f : AV → (AV → Option R) → Option R) : List AV → (List AV → Option R) → Option R
  | [], k => k []
  | a :: l, k => f a fun a' => frzL f l fun l' => k (a' :: l')
def frzLL (f : AV → (AV → Option R) → Option R) : List (List AV) → (List (List AV) → Option R) → Option R
  | [], k => k []
  | a :: l, k => frzL f a fun a' => frzLL f l fun l' => k (a' :: l')

def frz : Nat → EH → AV → (AV → Option R) → Option R
  | 0, _, _, _ => none
  | n + 1, e, x, k => match x with
    | .agg cs => frzL (frz n e) cs fun cs => k (.agg cs)
    | .tup cs => frzL (frz n e) cs fun cs => k (.tup cs)
    | .fn f a c => frzL (frz n e) a fun a => frzL (frz n e) c fun c => k (.fn f a c)
    | .ifc t x => frz n e x fun x => k (.ifc t x)
    | .ms b i len capo => (match e.get b with
      | some (.rows rs _ _) => (match Nat.ble (i + len) rs.length with
        | true => frzLL (frz n e) ((rs.drop i).take len) fun es => k (.vs es capo)
        | false => none)
      | _ => none)
    | .ptr b i j => (match e.get b with
      | some (.rows rs _ _) => (match nthL rs i with | some row => frzL (frz n e) row fun row => k (.vp row j) | none => none)
      | _ => none)
    | .bool b => k (.bool b)
    | .int q n => k (.int q n)
    | .str s => k (.str s)
    | .nilp => k .nilp
    | .nils => k .nils
    | .nilf => k .nilf
    | .nili => k .nili
    | .nilm => k .nilm
    | .gp g j => k (.gp g j)
    | .vs es c => frzLL (frz n e) es fun es => k (.vs es c)
    | .vp row j => frzL (frz n e) row fun row => k (.vp row j)
    | _ => none

structure FrzL (h : Heap) (xs ys : List AV) : Prop where
  len : xs.length = ys.length
  frz : ∀ (i : Nat) (hi : i < xs.length) (hj : i < ys.length), Frz h xs[i] ys[i]
  pure : ∀ y ∈ ys, Pure y

omit [Gl] in
theorem frzL_ok {h : Heap} {f : AV → (AV → Option R) → Option R} (hf : ∀ x k z, f x k = some z → ∃ y, Frz h x y ∧ Pure y ∧ k y = some z) :
    ∀ (l : List AV) (k : List AV → Option R) (z : R), frzL f l k = some z → ∃ l', FrzL h l l' ∧ k l' = some z
  | [], k, z, hk => ⟨[], ⟨rfl, fun i hi => by simp at hi, fun y hy => by cases hy⟩, hk⟩
  | a :: l, k, z, hk => by
    obtain ⟨y, h1, h2, h3⟩ := hf _ _ _ hk
    obtain ⟨l', h4, h5⟩ := frzL_ok hf l _ z h3
    refine ⟨y :: l', ⟨by simp [h4.len], fun i hi hj => ?_, fun x hx => ?_⟩, h5⟩
    · cases i with
      | zero => exact h1
      | succ i => exact h4.frz i (by simpa using hi) (by simpa using hj)
    · rcases List.mem_cons.1 hx with rfl | hx
      · exact h2
      · exact h4.pure x hx

theorem frzLL_ok {h : Heap} {f : AV → (AV → Option R) → Option R} (hf : ∀ x k z, f x k = some z → ∃ y, Frz h x y ∧ Pure y ∧ k y = some z) :
    ∀ (l : List (List AV)) (k : List (List AV) → Option R) (z : R), frzLL f l k = some z →
      ∃ l' : List (List AV), l.length = l'.length ∧ (∀ (i : Nat) (hi : i < l.length) (hj : i < l'.length), FrzL h l[i] l'[i]) ∧ k l' = some z
  | [], k, z, hk => ⟨[], rfl, fun i hi => by simp at hi, hk⟩
  | a :: l, k, z, hk => by
    obtain ⟨y, h1, h3⟩ := frzL_ok hf a _ _ hk
    obtain ⟨l', h4, h5, h6⟩ := frzLL_ok hf l _ z h3
    refine ⟨y :: l', by simp [h4], fun i hi hj => ?_, h6⟩
    cases i with
    | zero => exact h1
    | succ i => exact h5 i (by simpa using hi) (by simpa using hj)

theorem frz_ok {e : EH} (he : e.ok) : ∀ (n : Nat) (x : AV) (k : AV → Option R) (z : R), frz n e x k = some z → ∃ y, Frz e.abs x y ∧ Pure y ∧ k y = some z
  | 0, _, _, _, h => by cases h
  | n + 1, x, k, z, h => by
    have ih := frz_ok he n
    have self : ∀ {x : AV}, Pure x → k x = some z → ∃ y, Frz e.abs x y ∧ Pure y ∧ k y = some z := fun hp hk => ⟨_, .pure _ hp, hp, hk⟩
    have all : ∀ {l : List AV}, allB (pureB n) l = true → ∀ (i : Nat) (hi : i < l.length), Pure l[i] := fun h i hi => pureB_ok _ _ (allB_ok h _ (List.getElem_mem hi))
    unfold frz at h
    split at h
    · obtain ⟨l, h1, h2⟩ := frzL_ok ih _ _ _ h
      exact ⟨_, .agg _ _ h1.len h1.frz, .agg _ fun i hi => h1.pure _ (List.getElem_mem hi), h2⟩
    · obtain ⟨l, h1, h2⟩ := frzL_ok ih _ _ _ h
      exact ⟨_, .tup _ _ h1.len h1.frz, .tup _ fun i hi => h1.pure _ (List.getElem_mem hi), h2⟩
    · obtain ⟨l, h1, h2⟩ := frzL_ok ih _ _ _ h
      obtain ⟨l2, h3, h4⟩ := frzL_ok ih _ _ _ h2
      exact ⟨_, .fn _ _ _ _ _ h1.len h3.len h1.frz h3.frz, .fn _ _ _ (fun i hi => h1.pure _ (List.getElem_mem hi)) fun i hi => h3.pure _ (List.getElem_mem hi), h4⟩
    · obtain ⟨y, h1, h2, h3⟩ := ih _ _ _ h
      exact ⟨_, .ifc _ _ _ h1, .ifc _ _ h2, h3⟩
    · rename_i b i len capo
      rw [EH.get_abs he] at h
      split at h
      · rename_i rs g fz hb
        split at h
        · rename_i hc
          rw [Nat.ble_eq] at hc
          obtain ⟨es, h1, h2, h3⟩ := frzLL_ok ih _ _ _ h
          have hlen : ((rs.drop i).take len).length = len := by rw [List.length_take, List.length_drop]; omega
          have hl : es.length = len := by rw [← h1, hlen]
          have get : ∀ (t : Nat) (ht : t < es.length) (hr : i + t < rs.length), FrzL e.abs rs[i + t] es[t] := fun t ht hr => by
            have := h2 t (by omega) ht
            simpa using this
          refine ⟨_, .ms b i len capo rs g fz es hb hl hc (fun t ht hr => (get t ht hr).len.symm) (fun t ht hr j h1 h2 => (get t ht hr).frz j h2 h1), .vs _ _ fun t ht j hj => (get t ht (by omega)).pure _ (List.getElem_mem hj), h3⟩
        · cases h
      · cases h
    · rename_i b i j
      rw [EH.get_abs he] at h
      split at h
      · rename_i rs g fz hb
        rw [nthL_eq] at h
        split at h
        · rename_i row hrow
          obtain ⟨hi, rfl⟩ := List.getElem?_eq_some_iff.1 hrow
          obtain ⟨l, h1, h2⟩ := frzL_ok ih _ _ _ h
          exact ⟨_, .ptr b i j rs g fz l hb hi h1.len.symm fun t a b => h1.frz t b a, .vp _ _ fun t ht => h1.pure _ (List.getElem_mem ht), h2⟩
        · cases h
      · cases h
    · exact self (.bool _) h
    · exact self (.int _ _) h
    · exact self (.str _) h
    · exact self .nilp h
    · exact self .nils h
    · exact self .nilf h
    · exact self .nili h
    · exact self .nilm h
    · exact self (.gp _ _) h
    · obtain ⟨es', h1, h2, h3⟩ := frzLL_ok ih _ _ _ h
      exact ⟨_, .vs _ _ _ h1 (fun t a b => (h2 t a b).len) (fun t a b j c d => (h2 t a b).frz j c d), .vs _ _ fun t ht j hj => (h2 t (by omega) ht).pure _ (List.getElem_mem hj), h3⟩
    · obtain ⟨l, h1, h2⟩ := frzL_ok ih _ _ _ h
      exact ⟨_, .vp _ _ _ h1.len h1.frz, .vp _ _ fun t ht => h1.pure _ (List.getElem_mem ht), h2⟩
    · cases h

def beqL {α : Type} (f : α → α → Bool) : List α → List α → Bool
  | [], [] => true
  | a :: l, b :: r => match f a b with | true => beqL f l r | false => false
  | _, _ => false
omit [Gl] in
theorem beqL_ok {α : Type} {f : α → α → Bool} (hf : ∀ a b, f a b = true → a = b) : ∀ {l r : List α}, beqL f l r = true → l = r
  | [], [], _ => rfl
  | a :: l, b :: r, h => by
    unfold beqL at h
    split at h
    · rename_i hab; rw [hf _ _ hab, beqL_ok hf h]
    · cases h
  | [], _ :: _, h => by cases h
  | _ :: _, [], h => by cases h

def beqU (a b : UInt8) : Bool := Nat.beq a.toNat b.toNat
omit [Gl] in
theorem beqU_ok (a b : UInt8) (h : beqU a b = true) : a = b := UInt8.toNat_inj.1 (by simpa [beqU, Nat.beq_eq] using h)

def beqC (a b : Option Nat) : Bool := match a with | none => (match b with | none => true | _ => false) | some a => (match b with | some b => Nat.beq a b | none => false)
omit [Gl] in
theorem beqC_ok (a b : Option Nat) (h : beqC a b = true) : a = b := by
  cases a <;> cases b <;> simp_all [beqC, Nat.beq_eq]

def beqI (a b : Int) : Bool := match a with | .ofNat a => (match b with | .ofNat b => Nat.beq a b | _ => false) | .negSucc a => (match b with | .negSucc b => Nat.beq a b | _ => false)
omit [Gl] in
theorem beqI_ok (a b : Int) (h : beqI a b = true) : a = b := by
  cases a <;> cases b <;> simp_all [beqI, Nat.beq_eq]

def beqF (a b : Fn) : Bool := match a with | .func a => (match b with | .func b => Nat.beq a b | _ => false) | _ => false
omit [Gl] in
theorem beqF_ok (a b : Fn) (h : beqF a b = true) : a = b := by
  cases a <;> cases b <;> simp_all [beqF, Nat.beq_eq]

def beqA : Nat → AV → AV → Bool
  | 0, _, _ => false
  | n + 1, x, y => match x with
    | .bool a => (match y with | .bool b => (match a with | true => b | false => !b) | _ => false)
    | .int k a => (match y with | .int k' b => sameK k k' && beqI a b | _ => false)
    | .str a => (match y with | .str b => beqL beqU a b | _ => false)
    | .nilp => (match y with | .nilp => true | _ => false)
    | .nils => (match y with | .nils => true | _ => false)
    | .nilf => (match y with | .nilf => true | _ => false)
    | .nili => (match y with | .nili => true | _ => false)
    | .nilm => (match y with | .nilm => true | _ => false)
    | .agg a => (match y with | .agg b => beqL (beqA n) a b | _ => false)
    | .tup a => (match y with | .tup b => beqL (beqA n) a b | _ => false)
    | .vs a c => (match y with | .vs b d => beqC c d && beqL (beqL (beqA n)) a b | _ => false)
    | .vp a c => (match y with | .vp b d => Nat.beq c d && beqL (beqA n) a b | _ => false)
    | .fn f a c => (match y with | .fn g b d => beqF f g && beqL (beqA n) a b && beqL (beqA n) c d | _ => false)
    | .gp g j => (match y with | .gp g' j' => Nat.beq g g' && Nat.beq j j' | _ => false)
    | .ifc t a => (match y with | .ifc u b => Nat.beq t u && beqA n a b | _ => false)
    | .ptr b i j => (match y with | .ptr b' i' j' => Nat.beq b b' && Nat.beq i i' && Nat.beq j j' | _ => false)
    | .ms b i l c => (match y with | .ms b' i' l' c' => Nat.beq b b' && Nat.beq i i' && Nat.beq l l' && beqC c c' | _ => false)
    | .mp b => (match y with | .mp b' => Nat.beq b b' | _ => false)
    | .yld b => (match y with | .yld b' => Nat.beq b b' | _ => false)
    | .junk => (match y with | .junk => true | _ => false)

theorem beqA_ok : ∀ (n : Nat) (x y : AV), beqA n x y = true → x = y
  | 0, _, _, h => by cases h
  | n + 1, x, y, h => by
    have ih := beqA_ok n
    unfold beqA at h
    split at h <;> (first | (cases h; done) | split at h) <;> first | (cases h; done) | rfl | skip
    · rename_i a _ b
      cases a <;> cases b <;> simp_all
    · rw [Bool.and_eq_true] at h
      rename_i k a _ k' b
      have h1 : k = k' := by simpa [sameK] using h.1
      rw [h1, beqI_ok _ _ h.2]
    · rw [beqL_ok beqU_ok h]
    · rw [beqL_ok ih h]
    · rw [beqL_ok ih h]
    · rw [Bool.and_eq_true] at h
      rw [beqC_ok _ _ h.1, beqL_ok (fun _ _ h => beqL_ok ih h) h.2]
    · rw [Bool.and_eq_true, Nat.beq_eq] at h
      rw [h.1, beqL_ok ih h.2]
    · rw [Bool.and_eq_true, Bool.and_eq_true] at h
      rw [beqF_ok _ _ h.1.1, beqL_ok ih h.1.2, beqL_ok ih h.2]
    · rw [Bool.and_eq_true, Nat.beq_eq, Nat.beq_eq] at h
      rw [h.1, h.2]
    · rw [Bool.and_eq_true, Nat.beq_eq] at h
      rw [h.1, ih _ _ h.2]
    · rw [Bool.and_eq_true, Bool.and_eq_true, Nat.beq_eq, Nat.beq_eq, Nat.beq_eq] at h
      rw [h.1.1, h.1.2, h.2]
    · rw [Bool.and_eq_true, Bool.and_eq_true, Bool.and_eq_true, Nat.beq_eq, Nat.beq_eq, Nat.beq_eq] at h
      rw [h.1.1.1, h.1.1.2, h.1.2, beqC_ok _ _ h.2]
    · rw [Nat.beq_eq] at h; rw [h]
    · rw [Nat.beq_eq] at h; rw [h]

def hashS : List UInt8 → Nat → (Nat → Option R) → Option R
  | [], h, k => k h
  | c :: l, h, k => fNat ((h * 31 + c.toNat) % 2305843009213693951) fun h => hashS l h k
def hashL {α : Type} (g : α → Nat → (Nat → Option R) → Option R) : List α → Nat → (Nat → Option R) → Option R
  | [], h, k => k h
  | a :: l, h, k => g a h fun h => hashL g l h k
def hashV : Nat → AV → Nat → (Nat → Option R) → Option R
  | 0, _, h, k => k h
  | f + 1, x, h, k => match x with
    | .bool b => (match b with | true => fNat (h * 31 + 3) k | false => fNat (h * 31 + 5) k)
    | .int _ n => (match n with | .ofNat m => fNat ((h * 31 + m) % 2305843009213693951) k | .negSucc m => fNat ((h * 37 + m) % 2305843009213693951) k)
    | .str s => hashS s h k
    | .agg l => hashL (hashV f) l h k
    | .tup l => hashL (hashV f) l h k
    | .vs es _ => hashL (fun r => hashL (hashV f) r) es (h * 31 + 11) k
    | .vp r _ => hashL (hashV f) r (h * 31 + 13) k
    | _ => k h

def findH (h : Nat) (args : List AV) : List (List AV × AV) → Option AV
  | [] => none
  | p :: l => match (match (hashL (hashV 30) p.1 7 fun n => some n : Option Nat) with | some n => Nat.beq h n | none => false) with
    | false => findH h args l
    | true => match beqL (beqA 30) args p.1 with | true => some p.2 | false => findH h args l
def findM (args : List AV) (l : List (List AV × AV)) : Option AV := hashL (hashV 30) args 7 fun h => findH h args l
theorem findH_ok {h : Nat} {args : List AV} : ∀ {l : List (List AV × AV)} {r : AV}, findH h args l = some r → (args, r) ∈ l
  | [], _, hh => by cases hh
  | (as, r') :: l, r, hh => by
    unfold findH at hh
    split at hh
    · exact List.mem_cons_of_mem _ (findH_ok hh)
    · split at hh
      · rename_i hb
        injection hh with hh; subst hh
        rw [beqL_ok (beqA_ok 30) hb]
        exact List.mem_cons_self
      · exact List.mem_cons_of_mem _ (findH_ok hh)
theorem hashL_some {α : Type} {g : α → Nat → (Nat → Option R) → Option R} (hg : ∀ a h k y, g a h k = some y → ∃ n, k n = some y) : ∀ (l : List α) (h : Nat) (k : Nat → Option R) (y : R), hashL g l h k = some y → ∃ n, k n = some y
  | [], h, k, y, hy => ⟨h, hy⟩
  | a :: l, h, k, y, hy => by
    obtain ⟨n, hn⟩ := hg a h _ y hy
    exact hashL_some hg l n k y hn
theorem hashS_some : ∀ (l : List UInt8) (h : Nat) (k : Nat → Option R) (y : R), hashS l h k = some y → ∃ n, k n = some y
  | [], h, k, y, hy => ⟨h, hy⟩
  | c :: l, h, k, y, hy => by
    rw [hashS, fNat_eq] at hy
    exact hashS_some l _ k y hy
theorem hashV_some : ∀ (f : Nat) (x : AV) (h : Nat) (k : Nat → Option R) (y : R), hashV f x h k = some y → ∃ n, k n = some y
  | 0, x, h, k, y, hy => ⟨h, hy⟩
  | f + 1, x, h, k, y, hy => by
    unfold hashV at hy
    split at hy
    · split at hy <;> (rw [fNat_eq] at hy; exact ⟨_, hy⟩)
    · split at hy <;> (rw [fNat_eq] at hy; exact ⟨_, hy⟩)
    · exact hashS_some _ _ _ _ hy
    · exact hashL_some (hashV_some f) _ _ _ _ hy
    · exact hashL_some (hashV_some f) _ _ _ _ hy
    · exact hashL_some (fun r h k y hy => hashL_some (hashV_some f) r h k y hy) _ _ _ _ hy
    · exact hashL_some (hashV_some f) _ _ _ _ hy
    · exact ⟨_, hy⟩
theorem findM_ok {args : List AV} {l : List (List AV × AV)} {r : AV} (h : findM args l = some r) : (args, r) ∈ l := by
  obtain ⟨n, hn⟩ := hashL_some (hashV_some 30) args 7 _ _ h
  exact findH_ok hn

end ops
end
end Go.Abs
