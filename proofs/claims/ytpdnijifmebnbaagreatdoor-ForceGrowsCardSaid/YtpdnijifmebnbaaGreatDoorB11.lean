/-
  Steps to a law of this program: AbsEval1, AbsEval2.
  Conditions: none.
-/
import Derived.Test.YtpdnijifmebnbaaGreatDoorB10
set_option linter.unusedVariables false
set_option linter.unusedSimpArgs false
set_option linter.unusedSectionVars false
namespace Go.Abs
noncomputable section
variable [Gl]

section force
variable {R α : Type}

def fNatC (n : Nat) (k : Nat → Option R) : Option R := k n
noncomputable def fNat (n : Nat) (k : Nat → Option R) : Option R := Nat.rec (motive := fun _ => Option R) (k Nat.zero) (fun p _ => k (Nat.succ p)) n
omit [Gl] in
theorem fNat_eq (n : Nat) (k : Nat → Option R) : fNat n k = k n := by cases n <;> rfl
def fInt (i : Int) (k : Int → Option R) : Option R := match i with | .ofNat m => fNat m (fun m => k (.ofNat m)) | .negSucc m => fNat m (fun m => k (.negSucc m))
theorem fInt_eq (n : Int) (k : Int → Option R) : fInt n k = k n := by cases n <;> simp [fInt, fNat_eq]
def fListC : List α → (List α → Option R) → Option R
  | [], k => k []
  | a :: r, k => fListC r (fun r' => k (a :: r'))
noncomputable def fList (l : List α) : (List α → Option R) → Option R :=
  List.rec (motive := fun _ => (List α → Option R) → Option R) (fun k => k []) (fun a _ ih k => ih (fun r' => k (a :: r'))) l
omit [Gl] in
theorem fList_eq : ∀ (l : List α) (k : List α → Option R), fList l k = k l
  | [], _ => rfl
  | a :: r, k => by rw [show fList (a :: r) k = fList r (fun r' => k (a :: r')) from rfl, fList_eq r]
def fBool (b : Bool) (k : Bool → Option R) : Option R := match b with | true => k true | false => k false
omit [Gl] in
theorem fBool_eq (n : Bool) (k : Bool → Option R) : fBool n k = k n := by cases n <;> rfl

def lenIsC (l : List α) (n : Nat) : Bool := l.length == n
noncomputable def lenIs (l : List α) : Nat → Bool :=
  List.rec (motive := fun _ => Nat → Bool) (fun n => Nat.rec (motive := fun _ => Bool) true (fun _ _ => false) n) (fun _ _ ih n => Nat.rec (motive := fun _ => Bool) false (fun p _ => ih p) n) l
omit [Gl] in
theorem lenIs_eq : ∀ (l : List α) (n : Nat), lenIs l n = (l.length == n)
  | [], 0 => rfl
  | [], n + 1 => rfl
  | a :: l, 0 => rfl
  | a :: l, n + 1 => by rw [show lenIs (a :: l) (n + 1) = lenIs l n from rfl, lenIs_eq l n]; simp
def fAV (r : AV) (K : AV → Option R) : Option R :=
  match r with
  | .junk => K .junk
  | .bool b => fBool b fun b => K (.bool b)
  | .int k n => fInt n fun n => K (.int k n)
  | .str s => fList s fun s => K (.str s)
  | .nilp => K .nilp
  | .nils => K .nils
  | .nilf => K .nilf
  | .nili => K .nili
  | .nilm => K .nilm
  | .agg cs => fList cs fun cs => K (.agg cs)
  | .tup cs => fList cs fun cs => K (.tup cs)
  | .vs es c => fList es fun es => (match c with | none => K (.vs es none) | some c => fNat c fun c => K (.vs es (some c)))
  | .vp row j => fNat j fun j => K (.vp row j)
  | .ptr b i j => fNat b fun b => fNat i fun i => fNat j fun j => K (.ptr b i j)
  | .ms b i l c => fNat b fun b => fNat i fun i => fNat l fun l => (match c with | none => K (.ms b i l none) | some c => fNat c fun c => K (.ms b i l (some c)))
  | .fn f a c => fList a fun a => fList c fun c => K (.fn f a c)
  | .yld l => K (.yld l)
  | .ifc t x => K (.ifc t x)
  | .mp b => K (.mp b)
  | .gp g j => fNat j fun j => K (.gp g j)
theorem fAV_eq (r : AV) (K : AV → Option R) : fAV r K = K r := by
  cases r <;> simp only [fAV, fBool_eq, fInt_eq, fNat_eq, fList_eq] <;> (rename_i c; cases c <;> rfl)

def nthLC : List α → Nat → Option α
  | [], _ => none
  | x :: l, n => match n with | 0 => some x | p + 1 => nthLC l p
noncomputable def nthL (l : List α) : Nat → Option α :=
  List.rec (motive := fun _ => Nat → Option α) (fun _ => none) (fun x _ ih n => Nat.rec (some x) (fun p _ => ih p) n) l
omit [Gl] in
theorem nthL_eq : ∀ (l : List α) (n : Nat), nthL l n = l[n]?
  | [], _ => by rw [List.getElem?_nil]; rfl
  | x :: l, 0 => by rw [List.getElem?_cons_zero]; rfl
  | x :: l, n + 1 => by rw [List.getElem?_cons_succ, ← nthL_eq l n]; rfl

def setLC : List α → Nat → α → (List α → Option R) → Option R
  | [], _, _, k => k []
  | y :: l, n, x, k => match n with | 0 => k (x :: l) | p + 1 => setLC l p x (fun l' => k (y :: l'))
noncomputable def setL (l : List α) : Nat → α → (List α → Option R) → Option R :=
  List.rec (motive := fun _ => Nat → α → (List α → Option R) → Option R) (fun _ _ k => k []) (fun y l ih n x k => Nat.rec (k (x :: l)) (fun p _ => ih p x (fun l' => k (y :: l'))) n) l
omit [Gl] in
theorem setL_eq : ∀ (l : List α) (n : Nat) (x : α) (k : List α → Option R), setL l n x k = k (l.set n x)
  | [], _, _, _ => by rw [List.set_nil]; rfl
  | y :: l, 0, x, k => by rw [List.set_cons_zero]; rfl
  | y :: l, n + 1, x, k => by rw [List.set_cons_succ, show setL (y :: l) (n + 1) x k = setL l n x (fun l' => k (y :: l')) from rfl, setL_eq l n]
end force

def nthBC : List (Option Blk) → Nat → Option Blk
  | [], _ => none
  | x :: l, n => match n with | 0 => x | p + 1 => nthBC l p
noncomputable def nthB (l : List (Option Blk)) : Nat → Option Blk :=
  List.rec (motive := fun _ => Nat → Option Blk) (fun _ => none) (fun x _ ih n => Nat.rec x (fun p _ => ih p) n) l
omit [Gl] in
theorem nthB_eq : ∀ (l : List (Option Blk)) (n : Nat), nthB l n = (l[n]?).join
  | [], _ => by rw [List.getElem?_nil]; rfl
  | x :: l, 0 => by rw [List.getElem?_cons_zero]; rfl
  | x :: l, n + 1 => by rw [List.getElem?_cons_succ, ← nthB_eq l n]; rfl

omit [Gl] in
theorem brec_eq {α : Type} (b : Bool) (x y : α) : (Bool.rec (motive := fun _ => α) x y b : α) = (match b with | true => y | false => x) := by cases b <;> rfl
inductive Tr where
  | leaf (x : Option Blk)
  | node (x : Option Blk) (l r : Tr)
  deriving Inhabited

def Tr.list : Tr → List (Option Blk)
  | .leaf x => [x]
  | .node x l r => x :: (l.list ++ r.list)
def Tr.has : Tr → Nat → Prop
  | .leaf _, w => w = 1
  | .node _ l r, w => ∃ h, w = 2 * h + 1 ∧ l.has h ∧ r.has h
omit [Gl] in
theorem Tr.len : ∀ {t : Tr} {w : Nat}, t.has w → t.list.length = w
  | .leaf _, w, h => by have h : w = 1 := h; rw [h]; rfl
  | .node x l r, w, h => by
    obtain ⟨k, rfl, h1, h2⟩ := h
    simp only [Tr.list, List.length_cons, List.length_append, Tr.len h1, Tr.len h2]
    omega

def trGetC : Tr → Nat → Nat → Option Blk
  | .leaf x, _, _ => x
  | .node x l r, w, i => match i with
    | 0 => x
    | p + 1 => match Nat.blt p (w / 2) with
      | true => trGetC l (w / 2) p
      | false => trGetC r (w / 2) (p - w / 2)
noncomputable def trGet (t : Tr) : Nat → Nat → Option Blk :=
  Tr.rec (motive := fun _ => Nat → Nat → Option Blk) (fun x _ _ => x)
    (fun x _ _ ihl ihr w i => Nat.rec x (fun p _ => fNat (Nat.div w (nat_lit 2)) fun h => Bool.rec (motive := fun _ => Option Blk) (fNat (Nat.sub p h) fun q => ihr h q) (ihl h p) (Nat.blt p h)) i) t
omit [Gl] in
theorem trGet_eq : ∀ {t : Tr} {w i : Nat}, t.has w → i < w → trGet t w i = (t.list[i]?).join
  | .leaf x, w, i, h, hi => by
    have h : w = 1 := h
    obtain rfl : i = 0 := by omega
    rfl
  | .node x l r, w, 0, h, hi => rfl
  | .node x l r, w, p + 1, h, hi => by
    obtain ⟨k, rfl, h1, h2⟩ := h
    show fNat ((2 * k + 1) / 2) (fun h => (Bool.rec (motive := fun _ => Option Blk) (fNat (p - h) fun q => trGet r h q) (trGet l h p) (Nat.blt p h) : Option Blk)) = _
    rw [fNat_eq, brec_eq, show (2 * k + 1) / 2 = k from by omega]
    simp only [Tr.list, List.getElem?_cons_succ]
    split
    · rename_i hp
      rw [Nat.blt_eq] at hp
      rw [trGet_eq h1 hp, List.getElem?_append_left (by rw [Tr.len h1]; exact hp)]
    · rename_i hp
      have hp : ¬ p < k := by rw [← Nat.blt_eq, hp]; exact Bool.false_ne_true
      rw [fNat_eq, trGet_eq h2 (by omega), List.getElem?_append_right (by rw [Tr.len h1]; omega), Tr.len h1]

def trUpd : Tr → Nat → Nat → Option Blk → Tr
  | .leaf _, _, _, x => .leaf x
  | .node y l r, w, i, x => match i with
    | 0 => .node x l r
    | p + 1 => if p < w / 2 then .node y (trUpd l (w / 2) p x) r else .node y l (trUpd r (w / 2) (p - w / 2) x)
omit [Gl] in
theorem trUpd_succ (y : Option Blk) (l r : Tr) (w p : Nat) (x : Option Blk) : trUpd (.node y l r) w (p + 1) x = if p < w / 2 then .node y (trUpd l (w / 2) p x) r else .node y l (trUpd r (w / 2) (p - w / 2) x) := rfl
omit [Gl] in
theorem trUpd_ok : ∀ {t : Tr} {w i : Nat} (x : Option Blk), t.has w → i < w → (trUpd t w i x).has w ∧ (trUpd t w i x).list = t.list.set i x
  | .leaf _, w, i, x, h, hi => by
    have h : w = 1 := h
    obtain rfl : i = 0 := by omega
    exact ⟨h, rfl⟩
  | .node y l r, w, 0, x, h, hi => ⟨h, rfl⟩
  | .node y l r, w, p + 1, x, h, hi => by
    obtain ⟨k, rfl, h1, h2⟩ := h
    have e : (2 * k + 1) / 2 = k := by omega
    rw [trUpd_succ, e]
    by_cases hp : p < k
    · rw [if_pos hp]
      obtain ⟨a1, a2⟩ := trUpd_ok x h1 hp
      refine ⟨⟨k, rfl, a1, h2⟩, ?_⟩
      simp only [Tr.list, List.set_cons_succ, a2]
      rw [List.set_append_left _ _ (by rw [Tr.len h1]; exact hp)]
    · rw [if_neg hp]
      obtain ⟨a1, a2⟩ := trUpd_ok (i := p - k) x h2 (by omega)
      refine ⟨⟨k, rfl, h1, a1⟩, ?_⟩
      simp only [Tr.list, List.set_cons_succ, a2]
      rw [List.set_append_right _ _ (by rw [Tr.len h1]; omega), Tr.len h1]

section
variable {R : Type}
def trSetC : Tr → Nat → Nat → Option Blk → (Tr → Option R) → Option R
  | t, w, i, x, k => k (trUpd t w i x)
noncomputable def trSet (t : Tr) : Nat → Nat → Option Blk → (Tr → Option R) → Option R :=
  Tr.rec (motive := fun _ => Nat → Nat → Option Blk → (Tr → Option R) → Option R) (fun _ _ _ x k => k (.leaf x))
    (fun y l r ihl ihr w i x k => Nat.rec (k (.node x l r)) (fun p _ => fNat (Nat.div w (nat_lit 2)) fun h => Bool.rec (motive := fun _ => Option R) (fNat (Nat.sub p h) fun q => ihr h q x fun r' => k (.node y l r')) (ihl h p x fun l' => k (.node y l' r)) (Nat.blt p h)) i) t
omit [Gl] in
theorem trSet_eq : ∀ (t : Tr) (w i : Nat) (x : Option Blk) (k : Tr → Option R), trSet t w i x k = k (trUpd t w i x)
  | .leaf _, _, _, _, _ => rfl
  | .node y l r, w, 0, x, k => rfl
  | .node y l r, w, p + 1, x, k => by
    show fNat (w / 2) (fun h => (Bool.rec (motive := fun _ => Option R) (fNat (p - h) fun q => trSet r h q x fun r' => k (.node y l r')) (trSet l h p x fun l' => k (.node y l' r)) (Nat.blt p h) : Option R)) = _
    rw [fNat_eq, trUpd_succ, brec_eq]
    split
    · rename_i hp
      rw [Nat.blt_eq] at hp
      rw [if_pos hp, trSet_eq l]
    · rename_i hp
      have hp : ¬ p < w / 2 := by rw [← Nat.blt_eq, hp]; exact Bool.false_ne_true
      rw [if_neg hp, fNat_eq, trSet_eq r]
end

abbrev RA := List (Nat × Tr)
def raList : RA → List (Option Blk)
  | [] => []
  | p :: l => p.2.list ++ raList l
def raOk : RA → Prop
  | [] => True
  | p :: l => p.2.has p.1 ∧ raOk l

def raGetC : RA → Nat → Option Blk
  | [], _ => none
  | p :: l, i => match Nat.blt i p.1 with
    | true => trGetC p.2 p.1 i
    | false => raGetC l (i - p.1)
noncomputable def raGet (l : RA) : Nat → Option Blk :=
  List.rec (motive := fun _ => Nat → Option Blk) (fun _ => none) (fun p _ ih i => Prod.rec (motive := fun _ => Option Blk) (fun w t => Bool.rec (motive := fun _ => Option Blk) (fNat (Nat.sub i w) fun q => ih q) (trGet t w i) (Nat.blt i w)) p) l
omit [Gl] in
theorem raGet_eq : ∀ {l : RA} {i : Nat}, raOk l → raGet l i = ((raList l)[i]?).join
  | [], i, _ => by rw [show raList [] = [] from rfl, List.getElem?_nil]; rfl
  | p :: l, i, h => by
    obtain ⟨h1, h2⟩ := h
    show (Bool.rec (motive := fun _ => Option Blk) (fNat (i - p.1) fun q => raGet l q) (trGet p.2 p.1 i) (Nat.blt i p.1) : Option Blk) = _
    rw [brec_eq]
    unfold raList
    split
    · rename_i hi
      rw [Nat.blt_eq] at hi
      rw [trGet_eq h1 hi, List.getElem?_append_left (by rw [Tr.len h1]; exact hi)]
    · rename_i hi
      have hi : ¬ i < p.1 := by rw [← Nat.blt_eq, hi]; exact Bool.false_ne_true
      rw [fNat_eq, raGet_eq h2, List.getElem?_append_right (by rw [Tr.len h1]; omega), Tr.len h1]

def raUpd : RA → Nat → Option Blk → RA
  | [], _, _ => []
  | p :: l, i, x => if i < p.1 then (p.1, trUpd p.2 p.1 i x) :: l else p :: raUpd l (i - p.1) x
omit [Gl] in
theorem raUpd_ok : ∀ {l : RA} {i : Nat} (x : Option Blk), raOk l → raOk (raUpd l i x) ∧ raList (raUpd l i x) = (raList l).set i x
  | [], i, x, _ => ⟨trivial, by simp [raUpd, raList]⟩
  | p :: l, i, x, h => by
    obtain ⟨h1, h2⟩ := h
    unfold raUpd
    by_cases hi : i < p.1
    · rw [if_pos hi]
      obtain ⟨a1, a2⟩ := trUpd_ok x h1 hi
      refine ⟨⟨a1, h2⟩, ?_⟩
      simp only [raList, a2]
      rw [List.set_append_left _ _ (by rw [Tr.len h1]; exact hi)]
    · rw [if_neg hi]
      obtain ⟨a1, a2⟩ := raUpd_ok (i := i - p.1) x h2
      refine ⟨⟨h1, a1⟩, ?_⟩
      simp only [raList, a2]
      rw [List.set_append_right _ _ (by rw [Tr.len h1]; omega), Tr.len h1]

section
variable {R : Type}
def raSetC : RA → Nat → Option Blk → (RA → Option R) → Option R
  | l, i, x, k => k (raUpd l i x)
noncomputable def raSet (l : RA) : Nat → Option Blk → (RA → Option R) → Option R :=
  List.rec (motive := fun _ => Nat → Option Blk → (RA → Option R) → Option R) (fun _ _ k => k []) (fun p l ih i x k => Prod.rec (motive := fun _ => Option R) (fun w t => Bool.rec (motive := fun _ => Option R) (fNat (Nat.sub i w) fun q => ih q x fun l' => k ((w, t) :: l')) (trSet t w i x fun t' => k ((w, t') :: l)) (Nat.blt i w)) p) l
omit [Gl] in
theorem raSet_eq : ∀ (l : RA) (i : Nat) (x : Option Blk) (k : RA → Option R), raSet l i x k = k (raUpd l i x)
  | [], _, _, _ => rfl
  | p :: l, i, x, k => by
    show (Bool.rec (motive := fun _ => Option R) (fNat (i - p.1) fun q => raSet l q x fun l' => k (p :: l')) (trSet p.2 p.1 i x fun t => k ((p.1, t) :: l)) (Nat.blt i p.1) : Option R) = _
    rw [brec_eq]
    unfold raUpd
    split
    · rename_i hi
      rw [Nat.blt_eq] at hi
      rw [if_pos hi, trSet_eq]
    · rename_i hi
      have hi : ¬ i < p.1 := by rw [← Nat.blt_eq, hi]; exact Bool.false_ne_true
      rw [if_neg hi, fNat_eq, raSet_eq l]

def raCons (x : Option Blk) (l : RA) (k : RA → Option R) : Option R :=
  match l with
  | [] => k [(1, .leaf x)]
  | p :: l1 => match l1 with
    | [] => k [(1, .leaf x), p]
    | q :: l2 => match Nat.beq p.1 q.1 with
      | true => fNat (2 * p.1 + 1) fun w => k ((w, .node x p.2 q.2) :: l2)
      | false => k ((1, .leaf x) :: p :: q :: l2)
omit [Gl] in
theorem raCons_ok {x : Option Blk} {l : RA} (h : raOk l) : ∃ l', (∀ k : RA → Option R, raCons x l k = k l') ∧ raOk l' ∧ raList l' = x :: raList l := by
  unfold raCons
  match l, h with
  | [], _ => exact ⟨[(1, .leaf x)], fun _ => rfl, ⟨rfl, trivial⟩, rfl⟩
  | [p], h => exact ⟨[(1, .leaf x), p], fun _ => rfl, ⟨rfl, h⟩, rfl⟩
  | p :: q :: l2, ⟨h1, h2, h3⟩ =>
    cases hb : Nat.beq p.1 q.1 with
    | true =>
      have e := Nat.eq_of_beq_eq_true hb
      refine ⟨(2 * p.1 + 1, .node x p.2 q.2) :: l2, fun k => by simp only [hb, fNat_eq], ⟨⟨p.1, rfl, h1, e ▸ h2⟩, h3⟩, ?_⟩
      simp [raList, Tr.list, List.append_assoc]
    | false => exact ⟨(1, .leaf x) :: p :: q :: l2, fun k => by simp only [hb], ⟨rfl, h1, h2, h3⟩, rfl⟩
end

structure EH where
  n : Nat
  rb : RA
  loops : List (Option ALoop)
  deriving Inhabited

def EH.cells (e : EH) : List (Option Blk) := raList e.rb
def EH.abs (e : EH) : Heap := ⟨e.cells.reverse, e.loops⟩
def EH.ok (e : EH) : Prop := e.n = e.cells.length ∧ raOk e.rb
theorem EH.ok_nil : EH.ok ⟨0, [], []⟩ := ⟨rfl, trivial⟩

def EH.get (e : EH) (b : Nat) : Option Blk := match Nat.blt b e.n with | true => fNat (Nat.sub (Nat.sub e.n (nat_lit 1)) b) fun i => raGet e.rb i | false => none
theorem EH.get_def (e : EH) (b : Nat) : e.get b = match Nat.blt b e.n with | true => fNat (e.n - 1 - b) fun i => raGet e.rb i | false => none := rfl
theorem EH.get_abs {e : EH} (h : e.ok) (b : Nat) : e.get b = e.abs.blk? b := by
  rw [EH.get_def]; unfold EH.abs Heap.blk?
  have h' : e.n = e.cells.length := h.1
  split
  · rename_i hb
    rw [Nat.blt_eq] at hb
    rw [fNat_eq, raGet_eq h.2, List.getElem?_reverse (by omega), h']
    rfl
  · rename_i hb
    have : ¬ b < e.n := by rw [← Nat.blt_eq, hb]; simp
    rw [List.getElem?_eq_none (by simpa using by omega)]
    rfl

section ops
variable {R : Type} (T : Tab)

def EH.push (e : EH) (x : Blk) (K : EH → Option R) : Option R := fNat (Nat.succ e.n) fun n => raCons (some x) e.rb fun rb => K { n := n, rb := rb, loops := e.loops }
def EH.put (e : EH) (b : Nat) (x : Blk) (K : EH → Option R) : Option R :=
  match Nat.blt b e.n with
  | true => fNat (Nat.sub (Nat.sub e.n (nat_lit 1)) b) fun i => raSet e.rb i (some x) fun rb => K { n := e.n, rb := rb, loops := e.loops }
  | false => none
omit [Gl] in
theorem EH.put_def (e : EH) (b : Nat) (x : Blk) (K : EH → Option R) : e.put b x K = match Nat.blt b e.n with
  | true => fNat (e.n - 1 - b) fun i => raSet e.rb i (some x) fun rb => K { n := e.n, rb := rb, loops := e.loops }
  | false => none := rfl

omit [Gl] in
theorem EH.len {e : EH} (h : e.ok) : e.abs.blks.length = e.n := by
  have h' : e.n = e.cells.length := h.1
  simp [EH.abs, h']

theorem EH.push_ok {e : EH} (h : e.ok) {x : Blk} {K : EH → Option R} {y : R} (hk : e.push x K = some y) : ∃ e', e'.ok ∧ e'.abs = e.abs.push x ∧ K e' = some y := by
  unfold EH.push at hk
  rw [fNat_eq] at hk
  obtain ⟨l', h1, h2, h3⟩ := raCons_ok (R := R) (x := some x) h.2
  rw [h1] at hk
  have h' : e.n = e.cells.length := h.1
  refine ⟨_, ⟨?_, h2⟩, ?_, hk⟩
  · show e.n + 1 = (raList l').length
    rw [h3, List.length_cons, h']; rfl
  · show (⟨(raList l').reverse, e.loops⟩ : Heap) = _
    rw [h3]
    simp [EH.abs, Heap.push, EH.cells]

omit [Gl] in
theorem upd_abs {e : EH} (h : e.ok) {b : Nat} (hb : b < e.n) (x : Option Blk) :
    EH.ok { n := e.n, rb := raUpd e.rb (e.n - 1 - b) x, loops := e.loops } ∧ (EH.abs { n := e.n, rb := raUpd e.rb (e.n - 1 - b) x, loops := e.loops }).blks = e.abs.blks.set b x := by
  have h' : e.n = e.cells.length := h.1
  obtain ⟨a1, a2⟩ := raUpd_ok (i := e.n - 1 - b) x h.2
  have a2' : EH.cells { n := e.n, rb := raUpd e.rb (e.n - 1 - b) x, loops := e.loops } = e.cells.set (e.n - 1 - b) x := a2
  refine ⟨⟨by rw [a2', List.length_set]; exact h', a1⟩, ?_⟩
  show List.reverse (EH.cells _) = _
  rw [a2']
  show (e.cells.set (e.n - 1 - b) x).reverse = e.cells.reverse.set b x
  apply List.ext_getElem?
  intro i
  rw [List.getElem?_set]
  by_cases hi : i < e.cells.length
  · rw [List.getElem?_reverse (by simpa using hi), List.getElem?_reverse hi, List.getElem?_set, List.length_set, List.length_reverse]
    by_cases hbi : b = i
    · subst hbi
      simp [h', hi]
      omega
    · rw [if_neg (by omega), if_neg hbi]
  · rw [List.getElem?_eq_none (by simpa using hi), if_neg (by omega), List.getElem?_eq_none (by simpa using hi)]

theorem EH.put_ok {e : EH} (h : e.ok) {b : Nat} {x : Blk} {K : EH → Option R} {y : R} (hk : e.put b x K = some y) : ∃ e', e'.ok ∧ e'.abs = e.abs.put b x ∧ K e' = some y := by
  rw [EH.put_def] at hk
  split at hk
  · rename_i hb
    rw [Nat.blt_eq] at hb
    rw [fNat_eq, raSet_eq] at hk
    obtain ⟨a1, a2⟩ := upd_abs h hb (some x)
    refine ⟨_, a1, ?_, hk⟩
    show (⟨_, _⟩ : Heap) = ⟨_, _⟩
    rw [Heap.mk.injEq]
    exact ⟨a2, rfl⟩
  · cases hk

def EH.kill (e : EH) (b : Nat) (K : EH → Option R) : Option R :=
  match Nat.blt b e.n with
  | true => fNat (e.n - 1 - b) fun i => raSet e.rb i none fun rb => K { n := e.n, rb := rb, loops := e.loops }
  | false => none

theorem EH.kill_ok {e : EH} (h : e.ok) {b : Nat} {K : EH → Option R} {y : R} (hk : e.kill b K = some y) : ∃ e', e'.ok ∧ e'.abs = e.abs.kill b ∧ e'.n = e.n ∧ K e' = some y := by
  unfold EH.kill at hk
  split at hk
  · rename_i hb
    rw [Nat.blt_eq] at hb
    rw [fNat_eq, raSet_eq] at hk
    obtain ⟨a1, a2⟩ := upd_abs h hb none
    refine ⟨_, a1, ?_, rfl, hk⟩
    show (⟨_, _⟩ : Heap) = ⟨_, _⟩
    rw [Heap.mk.injEq]
    exact ⟨a2, rfl⟩
  · cases hk

def Went (K : AV → EH → Option R) (y : R) (S : (AV → Heap → Prop) → Prop) : Prop :=
  ∃ r e', e'.ok ∧ K r e' = some y ∧ ∀ Q : AV → Heap → Prop, Q r e'.abs → S Q
def Gave (K : AV → Option R) (y : R) (S : (AV → Prop) → Prop) : Prop :=
  ∃ r, K r = some y ∧ ∀ Q : AV → Prop, Q r → S Q

def partK (ti : TI) (row : List AV) (j : Nat) (K : AV → Option R) : Option R := match isAggD ti.desc with
  | false => (match nthL row j with | some r => fAV r K | none => none)
  | true => (match Nat.beq j 0 && lenIs row ti.size with
    | true => fAV (.agg row) K
    | false => (match partA ti row j with | some r => fAV r K | none => none))
theorem partK_eq (ti : TI) (row : List AV) (j : Nat) (K : AV → Option R) : partK ti row j K = (match partA ti row j with | some r => fAV r K | none => none) := by
  unfold partK
  split
  · rename_i h
    rw [nthL_eq]
    have e : partA ti row j = row[j]? := by simp [partA, h]
    rw [e]
  · rename_i h
    split
    · rename_i h2
      rw [lenIs_eq] at h2
      simp only [Bool.and_eq_true, beq_iff_eq] at h2
      obtain ⟨h3, h4⟩ := h2
      have h3 := Nat.eq_of_beq_eq_true h3
      subst h3
      have e : partA ti row 0 = some (.agg row) := by simp [partA, h, ← h4]
      rw [e]
    · rfl

def partE (t : TypeId) (row : List AV) (j : Nat) (K : AV → Option R) : Option R :=
  match T t with
  | some ti => partK ti row j K
  | none => none

def loadE (e : EH) (t : TypeId) (x : AV) (K : AV → Option R) : Option R :=
  match x with
  | .ptr b i j =>
    match e.get b with
    | some (.rows rs _ _) => (match nthL rs i with | some row => partE T t row j K | none => none)
    | _ => none
  | .vp row j => partE T t row j K
  | .gp g j => (match Gl.gl g with | some row => partE T t row j K | none => none)
  | _ => none

theorem partE_ok {t : TypeId} {row : List AV} {j : Nat} {K : AV → Option R} {y : R} (h : partE T t row j K = some y) : ∃ ti r, T t = some ti ∧ partA ti row j = some r ∧ K r = some y := by
  unfold partE at h
  simp only [partK_eq] at h
  split at h
  · rename_i ti ht
    split at h
    · rename_i r hr
      rw [fAV_eq] at h
      exact ⟨ti, r, ht, hr, h⟩
    · cases h
  · cases h

theorem loadE_ok {e : EH} (he : e.ok) {t : TypeId} {x : AV} {K : AV → Option R} {y : R} (h : loadE T e t x K = some y) : ∃ r, loadA T e.abs t x = some r ∧ K r = some y := by
  unfold loadE at h
  split at h
  · rename_i b i j
    rw [EH.get_abs he] at h
    split at h
    · rename_i rs g fz hb
      rw [nthL_eq] at h
      split at h
      · rename_i row hrow
        obtain ⟨ti, r, h1, h2, h3⟩ := partE_ok T h
        refine ⟨r, ?_, h3⟩
        simp [loadA, h1, hb, hrow, h2]
      · cases h
    · cases h
  · obtain ⟨ti, r, h1, h2, h3⟩ := partE_ok T h
    exact ⟨r, by simp [loadA, h1, h2], h3⟩
  · rename_i g j
    split at h
    · rename_i row hg
      obtain ⟨ti, r, h1, h2, h3⟩ := partE_ok T h
      exact ⟨r, by simp [loadA, h1, hg, h2], h3⟩
    · cases h
  · cases h

def storeRowE (e : EH) (b i : Nat) (rs : List (List AV)) (row : List AV) (K : AV → EH → Option R) : Option R :=
  fList row fun row => setL rs i row fun rs => e.put b (.rows rs false false) (K .junk)

def rowPut (row : List AV) (j : Nat) (c : List AV) (n : Nat) : List AV := match Nat.beq j 0 && lenIs row n with
  | true => c
  | false => row.take j ++ c ++ row.drop (j + n)
omit [Gl] in
theorem rowPut_eq (row : List AV) (j : Nat) (c : List AV) (n : Nat) : rowPut row j c n = row.take j ++ c ++ row.drop (j + n) := by
  unfold rowPut
  split
  · rename_i h
    rw [lenIs_eq] at h
    simp only [Bool.and_eq_true, beq_iff_eq] at h
    have h1 := Nat.eq_of_beq_eq_true h.1
    subst h1
    simp [← h.2]
  · rfl

def storeE (e : EH) (t : TypeId) (x v : AV) (K : AV → EH → Option R) : Option R :=
  match x with
  | .ptr b i j =>
    match e.get b with
    | some (.rows rs false false) =>
      match nthL rs i with
      | some row =>
        match T t with
        | some ti => (match (cellsA v).all okc && lenIs (cellsA v) ti.size && Nat.ble (j + ti.size) row.length with
          | true => storeRowE e b i rs (rowPut row j (cellsA v) ti.size) K
          | false => none)
        | none => none
      | none => none
    | _ => none
  | _ => none

theorem storeE_ok {e : EH} (he : e.ok) {t : TypeId} {x v : AV} {K : AV → EH → Option R} {y : R} (h : storeE T e t x v K = some y) :
    ∃ h' e', storeA T e.abs t x v = some h' ∧ e'.ok ∧ e'.abs = h' ∧ K .junk e' = some y := by
  unfold storeE at h
  simp only [rowPut_eq, lenIs_eq] at h
  split at h
  · rename_i b i j
    rw [EH.get_abs he] at h
    split at h
    · rename_i rs hb
      rw [nthL_eq] at h
      split at h
      · rename_i row hrow
        split at h
        · rename_i ti ht
          split at h
          · rename_i hc
            unfold storeRowE at h
            rw [fList_eq, setL_eq] at h
            obtain ⟨e', h1, h2, h3⟩ := EH.put_ok he h
            refine ⟨_, e', ?_, h1, h2, h3⟩
            simp only [storeA, ht, hb, hrow, hc, if_true]
          · cases h
        · cases h
      · cases h
    · cases h
  · cases h

def fieldAddrE (e : EH) (s : TypeId) (x : AV) (f : Nat) (K : AV → Option R) : Option R :=
  match T s with
  | some ti =>
    match ti.desc with
    | .struct fs =>
      match fs[f]? with
      | none => none
      | some fd =>
        match T fd.type with
        | none => none
        | some fi =>
          match fi.size == 0 with
          | true => none
          | false =>
            match x with
            | .ptr b i j =>
              match e.get b with
              | some (.rows rs _ _) => (match nthL rs i with
                | some row => (match Nat.blt (j + fd.offset) row.length with | true => fAV (.ptr b i (j + fd.offset)) K | false => none)
                | none => none)
              | _ => none
            | .vp row j => fAV (.vp row (j + fd.offset)) K
            | .gp g j => fAV (.gp g (j + fd.offset)) K
            | _ => none
    | _ => none
  | none => none

theorem fieldAddrE_ok {e : EH} (he : e.ok) {s : TypeId} {x : AV} {f : Nat} {K : AV → Option R} {y : R} (h : fieldAddrE T e s x f K = some y) : ∃ r, fieldAddrA T e.abs s x f = some r ∧ K r = some y := by
  unfold fieldAddrE at h
  split at h
  · rename_i ti ht
    split at h
    · rename_i fs hd
      obtain ⟨d, sz, by', ze, cm⟩ := ti
      simp only at hd; subst hd
      split at h
      · cases h
      · rename_i fd hfd
        split at h
        · cases h
        · rename_i fi hfi
          split at h
          · cases h
          · rename_i hz
            split at h
            · rename_i b i j
              rw [EH.get_abs he] at h
              split at h
              · rename_i rs g fz hb
                rw [nthL_eq] at h
                split at h
                · rename_i row hrow
                  split at h
                  · rename_i hl
                    rw [fAV_eq] at h
                    exact ⟨_, by simp only [fieldAddrA, ht, hfd, hfi, hz, hb, hrow, hl, if_true]; rfl, h⟩
                  · cases h
                · cases h
              · cases h
            · rw [fAV_eq] at h
              exact ⟨_, by simp only [fieldAddrA, ht, hfd, hfi, hz]; rfl, h⟩
            · rw [fAV_eq] at h
              exact ⟨_, by simp only [fieldAddrA, ht, hfd, hfi, hz]; rfl, h⟩
            · cases h
    · cases h
  · cases h

def allocE (e : EH) (t : TypeId) (K : AV → EH → Option R) : Option R :=
  match T t with
  | none => none
  | some ei => match Nat.blt 0 ei.size && ei.zero.all okc with
    | true => fList ei.zero fun z => e.push (.rows [z] false false) fun e' => K (.ptr e.n 0 0) e'
    | false => none

theorem allocE_ok {e : EH} (he : e.ok) {t : TypeId} {K : AV → EH → Option R} {y : R} (h : allocE T e t K = some y) : Went K y (allocW T e.abs t) := by
  unfold allocE at h
  split at h
  · cases h
  · rename_i ei ht
    split at h
    · rename_i hc
      rw [fList_eq] at h
      obtain ⟨e', h1, h2, h3⟩ := EH.push_ok he h
      simp only [Bool.and_eq_true, Nat.blt_eq] at hc
      refine ⟨_, e', h1, h3, fun Q hq => ?_⟩
      simp only [allocW, ht, EH.len he]
      exact ⟨hc, h2 ▸ hq⟩
    · cases h

def boxE (e : EH) (t : TypeId) (x : AV) (K : AV → EH → Option R) : Option R :=
  match T t with
  | none => none
  | some ei => match (cellsA x).length == ei.size && Nat.blt 0 ei.size && (cellsA x).all okc with
    | true => fList (cellsA x) fun z => e.push (.rows [z] false false) fun e' => K (.ptr e.n 0 0) e'
    | false => none

theorem boxE_ok {e : EH} (he : e.ok) {t : TypeId} {x : AV} {K : AV → EH → Option R} {y : R} (h : boxE T e t x K = some y) : Went K y (boxW T e.abs t x) := by
  unfold boxE at h
  split at h
  · cases h
  · rename_i ei ht
    split at h
    · rename_i hc
      rw [fList_eq] at h
      obtain ⟨e', h1, h2, h3⟩ := EH.push_ok he h
      simp only [Bool.and_eq_true, Nat.blt_eq, beq_iff_eq] at hc
      refine ⟨_, e', h1, h3, fun Q hq => ?_⟩
      simp only [boxW, ht, EH.len he]
      exact ⟨⟨hc.1.1, hc.1.2, hc.2⟩, h2 ▸ hq⟩
    · cases h

def fRows {α : Type} : List (List α) → (List (List α) → Option R) → Option R
  | [], k => k []
  | a :: r, k => fList a fun a' => fRows r (fun r' => k (a' :: r'))
theorem fRows_eq {α : Type} : ∀ (l : List (List α)) (k : List (List α) → Option R), fRows l k = k l
  | [], _ => rfl
  | a :: r, k => by rw [fRows, fList_eq, fRows_eq r]

def buildSliceE (e : EH) (t : TypeId) (len : Nat) (parts : List (Nat × AV)) (K : AV → EH → Option R) : Option R :=
  match T t with
  | none => none
  | some ti =>
  match ti.desc with
  | .slice el =>
    match T el with
    | none => none
    | some ei => match Nat.ble (len * ei.size) 16777216 && Nat.blt 0 ei.size && ei.zero.all okc with
      | true => (match fillRows ei.size (List.replicate len ei.zero) parts with
        | none => none
        | some rows => fRows rows fun rows => e.push (.rows rows false false) fun e' => K (.ms e.n 0 len (some len)) e')
      | false => none
  | _ => none

theorem buildSliceE_ok {e : EH} (he : e.ok) {t : TypeId} {len : Nat} {parts : List (Nat × AV)} {K : AV → EH → Option R} {y : R} (h : buildSliceE T e t len parts K = some y) : Went K y (buildSliceW T e.abs t len parts) := by
  unfold buildSliceE at h
  split at h
  · cases h
  · rename_i ti ht
    split at h
    · rename_i el hd
      obtain ⟨d, sz, by', ze, cm⟩ := ti
      simp only at hd; subst hd
      split at h
      · cases h
      · rename_i ei hei
        split at h
        · rename_i hc
          split at h
          · cases h
          · rename_i rows hrows
            rw [fRows_eq] at h
            obtain ⟨e', h1, h2, h3⟩ := EH.push_ok he h
            simp only [Bool.and_eq_true, Nat.blt_eq, Nat.ble_eq] at hc
            refine ⟨_, e', h1, h3, fun Q hq => ?_⟩
            simp only [buildSliceW, ht, hei, hrows, EH.len he]
            exact ⟨hc.1.1, hc.1.2, hc.2, .inl (h2 ▸ hq)⟩
        · cases h
    · cases h

def buildFrozenE (t : TypeId) (len : Nat) (parts : List (Nat × AV)) (K : AV → Option R) : Option R :=
  match T t with
  | none => none
  | some ti =>
  match ti.desc with
  | .slice el =>
    match T el with
    | none => none
    | some ei => match Nat.ble (len * ei.size) 16777216 && Nat.blt 0 ei.size && ei.zero.all okc with
      | true => (match fillRows ei.size (List.replicate len ei.zero) parts with
        | none => none
        | some rows => fRows rows fun rows => K (.vs rows (some len)))
      | false => none
  | _ => none

theorem buildFrozenE_ok {h : Heap} {t : TypeId} {len : Nat} {parts : List (Nat × AV)} {K : AV → Option R} {y : R} (hh : buildFrozenE T t len parts K = some y) :
    ∃ r, K r = some y ∧ ∀ Q : AV → Heap → Prop, Q r h → buildSliceW T h t len parts Q := by
  unfold buildFrozenE at hh
  split at hh
  · cases hh
  · rename_i ti ht
    split at hh
    · rename_i el hd
      obtain ⟨d, sz, by', ze, cm⟩ := ti
      simp only at hd; subst hd
      split at hh
      · cases hh
      · rename_i ei hei
        split at hh
        · rename_i hc
          split at hh
          · cases hh
          · rename_i rows hrows
            rw [fRows_eq] at hh
            simp only [Bool.and_eq_true, Nat.blt_eq, Nat.ble_eq] at hc
            refine ⟨_, hh, fun Q hq => ?_⟩
            simp only [buildSliceW, ht, hei, hrows]
            exact ⟨hc.1.1, hc.1.2, hc.2, .inr hq⟩
        · cases hh
    · cases hh

def makeSliceE (e : EH) (t : TypeId) (l c : AV) (K : AV → EH → Option R) : Option R :=
  match T t with
  | none => none
  | some ti =>
  match ti.desc with
  | .slice el =>
    match l, c with
    | .int _ (.ofNat l), .int _ (.ofNat c) =>
      match T el with
      | none => none
      | some ei => match Nat.ble l c && Nat.ble (ei.bytes * c) 140737488355328 && Nat.ble c 140737488355328 && Nat.blt 0 ei.size && ei.zero.all okc with
        | true => fList (List.replicate c ei.zero) fun rows => e.push (.rows rows false false) fun e' => fNat l fun l => fNat c fun c => K (.ms e.n 0 l (some c)) e'
        | false => none
    | _, _ => none
  | _ => none

theorem makeSliceE_ok {e : EH} (he : e.ok) {t : TypeId} {l c : AV} {K : AV → EH → Option R} {y : R} (h : makeSliceE T e t l c K = some y) : Went K y (makeSliceW T e.abs t l c) := by
  unfold makeSliceE at h
  split at h
  · cases h
  · rename_i ti ht
    split at h
    · rename_i el hd
      obtain ⟨d, sz, by', ze, cm⟩ := ti
      simp only at hd; subst hd
      split at h
      · rename_i k1 l k2 c
        split at h
        · cases h
        · rename_i ei hei
          split at h
          · rename_i hc
            rw [fList_eq] at h
            obtain ⟨e', h1, h2, h3⟩ := EH.push_ok he h
            rw [fNat_eq, fNat_eq] at h3
            simp only [Bool.and_eq_true, Nat.blt_eq, Nat.ble_eq] at hc
            obtain ⟨⟨⟨⟨c1, c2⟩, c3⟩, c4⟩, c5⟩ := hc
            refine ⟨_, e', h1, h3, fun Q hq => ?_⟩
            simp only [makeSliceW, ht, hei, EH.len he]
            refine ⟨⟨?_, ?_, ?_, ?_⟩, c4, c5, ?_⟩
            · exact Int.natCast_nonneg l
            · exact Int.ofNat_le.2 c1
            · have : ((ei.bytes * c : Nat) : Int) ≤ 140737488355328 := by omega
              simpa using this
            · show (c : Int) ≤ _; omega
            · simpa [h2] using hq
          · cases h
      · cases h
    · cases h

end ops
end
end Go.Abs

namespace Go.Abs
noncomputable section
variable [Gl]

section ops
variable {R : Type} (T : Tab)

def halfK : IntKind → Nat
  | .i8 => 128 | .u8 => 256 | .i16 => 32768 | .u16 => 65536 | .i32 => 2147483648 | .u32 => 4294967296 | .i64 => 9223372036854775808 | .u64 => 18446744073709551616
def wrapF (k : IntKind) (n : Int) : Int := match n with
  | .ofNat m => (match Nat.blt m (halfK k) with | true => .ofNat m | false => k.wrap n)
  | .negSucc _ => k.wrap n
omit [Gl] in
theorem wrap_small (k : IntKind) (m : Nat) (h : m < halfK k) : k.wrap (.ofNat m) = .ofNat m := by
  show k.wrap (m : Int) = (m : Int)
  unfold IntKind.wrap
  cases k <;> simp only [halfK] at h <;> simp [IntKind.bits, IntKind.signed] <;> omega
theorem wrapF_eq (k : IntKind) (n : Int) : wrapF k n = k.wrap n := by
  unfold wrapF
  split
  · rename_i m
    split
    · rename_i hb
      rw [wrap_small k m (by simpa [Nat.blt_eq] using hb)]
    · rfl
  · rfl

def intK (k : IntKind) (n : Int) (K : AV → Option R) : Option R := fInt (wrapF k n) fun n => K (.int k n)
theorem intK_eq (k : IntKind) (n : Int) (K : AV → Option R) : intK k n K = K (.int k (k.wrap n)) := by simp only [intK, fInt_eq, wrapF_eq]
def boolK (b : Bool) (K : AV → Option R) : Option R := match b with | true => K (.bool true) | false => K (.bool false)
omit [Gl] in
theorem boolK_eq (b : Bool) (K : AV → Option R) : boolK b K = K (.bool b) := by cases b <;> rfl

def sameK (k k' : IntKind) : Bool := decide (k = k')

def shlE (k : IntKind) (a : Int) (b : Int) (K : AV → Option R) : Option R := match b with
  | .ofNat b => intK k (a * 2 ^ (min b k.bits)) K
  | .negSucc _ => none
def shrE (k : IntKind) (a : Int) (b : Int) (K : AV → Option R) : Option R := match b with
  | .ofNat b => fInt (a.fdiv (2 ^ (min b k.bits))) fun n => K (.int k n)
  | .negSucc _ => none
def quoE (k : IntKind) (a : Int) (k' : IntKind) (b : Int) (K : AV → Option R) : Option R := match sameK k k' && !(b == 0) with
  | true => intK k (a.tdiv b) K
  | false => none
def remE (k : IntKind) (a : Int) (k' : IntKind) (b : Int) (K : AV → Option R) : Option R := match sameK k k' && !(b == 0) with
  | true => fInt (a.tmod b) fun n => K (.int k n)
  | false => none
def arithE (op : BinOp) (k : IntKind) (a : Int) (k' : IntKind) (b : Int) (K : AV → Option R) : Option R := match sameK k k' with
  | true => (match intA op k a b with | some r => fAV r K | none => none)
  | false => none

def binIE (op : BinOp) (k : IntKind) (a : Int) (k' : IntKind) (b : Int) (K : AV → Option R) : Option R :=
  match op with
  | .shl => shlE k a b K
  | .shr => shrE k a b K
  | .quo => quoE k a k' b K
  | .rem => remE k a k' b K
  | .add => (match sameK k k' with | true => intK k (a + b) K | false => none)
  | .sub => (match sameK k k' with | true => intK k (a - b) K | false => none)
  | .mul => (match sameK k k' with | true => intK k (a * b) K | false => none)
  | .eql => (match sameK k k' with | true => boolK (a == b) K | false => none)
  | .neq => (match sameK k k' with | true => boolK (a != b) K | false => none)
  | .lss => (match sameK k k' with | true => boolK (decide (a < b)) K | false => none)
  | .leq => (match sameK k k' with | true => boolK (decide (a ≤ b)) K | false => none)
  | .gtr => (match sameK k k' with | true => boolK (decide (b < a)) K | false => none)
  | .geq => (match sameK k k' with | true => boolK (decide (b ≤ a)) K | false => none)
  | .and => arithE .and k a k' b K
  | .or => arithE .or k a k' b K
  | .xor => arithE .xor k a k' b K
  | .andNot => arithE .andNot k a k' b K

theorem arithE_ok {op : BinOp} {k : IntKind} {a : Int} {k' : IntKind} {b : Int} {K : AV → Option R} {y : R} (h : arithE op k a k' b K = some y) : ∃ r, k = k' ∧ intA op k a b = some r ∧ K r = some y := by
  unfold arithE at h
  split at h
  · rename_i hs
    split at h
    · rename_i r hr
      rw [fAV_eq] at h
      exact ⟨r, by simpa [sameK] using hs, hr, h⟩
    · cases h
  · cases h

theorem binIE_ok {h : Heap} {t : TypeId} {op : BinOp} {k : IntKind} {a : Int} {k' : IntKind} {b : Int} {K : AV → Option R} {y : R} (hh : binIE op k a k' b K = some y) :
    Gave K y (binW T h op t (.int k a) (.int k' b)) := by
  have same : ∀ {k k' : IntKind}, sameK k k' = true → k = k' := fun h => by simpa [sameK] using h
  unfold binIE at hh
  split at hh
  · unfold shlE at hh
    split at hh
    · rw [intK_eq] at hh
      exact ⟨_, hh, fun Q hq => ⟨Int.natCast_nonneg _, hq⟩⟩
    · cases hh
  · unfold shrE at hh
    split at hh
    · rw [fInt_eq] at hh
      exact ⟨_, hh, fun Q hq => ⟨Int.natCast_nonneg _, hq⟩⟩
    · cases hh
  · unfold quoE at hh
    split at hh
    · rename_i hc
      rw [intK_eq] at hh
      simp only [Bool.and_eq_true, Bool.not_eq_true', beq_eq_false_iff_ne] at hc
      exact ⟨_, hh, fun Q hq => by simp only [binW]; rw [if_pos (same hc.1)]; exact ⟨hc.2, hq⟩⟩
    · cases hh
  · unfold remE at hh
    split at hh
    · rename_i hc
      rw [fInt_eq] at hh
      simp only [Bool.and_eq_true, Bool.not_eq_true', beq_eq_false_iff_ne] at hc
      exact ⟨_, hh, fun Q hq => by simp only [binW]; rw [if_pos (same hc.1)]; exact ⟨hc.2, hq⟩⟩
    · cases hh
  · split at hh
    · rename_i hs; rw [intK_eq] at hh; exact ⟨_, hh, fun Q hq => by simp only [binW, intA]; rw [if_pos (same hs)]; exact hq⟩
    · cases hh
  · split at hh
    · rename_i hs; rw [intK_eq] at hh; exact ⟨_, hh, fun Q hq => by simp only [binW, intA]; rw [if_pos (same hs)]; exact hq⟩
    · cases hh
  · split at hh
    · rename_i hs; rw [intK_eq] at hh; exact ⟨_, hh, fun Q hq => by simp only [binW, intA]; rw [if_pos (same hs)]; exact hq⟩
    · cases hh
  iterate 6
    · split at hh
      · rename_i hs; rw [boolK_eq] at hh; exact ⟨_, hh, fun Q hq => by simp only [binW, intA]; rw [if_pos (same hs)]; exact hq⟩
      · cases hh
  all_goals
    obtain ⟨r, rfl, h2, h3⟩ := arithE_ok hh
    exact ⟨r, h3, fun Q hq => by simp only [binW, if_true, h2]; exact hq⟩

def binSE (op : BinOp) (a b : List UInt8) (K : AV → Option R) : Option R :=
  match op with
  | .add => (match Nat.ble (a.length + b.length) 9223372036854775807 with | true => fList (a ++ b) fun s => K (.str s) | false => none)
  | op => (match strA op a b with | some r => fAV r K | none => none)

theorem binSE_ok {h : Heap} {t : TypeId} {op : BinOp} {a b : List UInt8} {K : AV → Option R} {y : R} (hh : binSE op a b K = some y) :
    Gave K y (binW T h op t (.str a) (.str b)) := by
  unfold binSE at hh
  split at hh
  · split at hh
    · rename_i hc
      rw [fList_eq] at hh
      rw [Nat.ble_eq] at hc
      exact ⟨_, hh, fun Q hq => ⟨by omega, hq⟩⟩
    · cases hh
  · split at hh
    · rename_i hne r hr
      rw [fAV_eq] at hh
      refine ⟨r, hh, fun Q hq => ?_⟩
      cases op <;> simp only [strA] at hr <;> simp_all [binW, strA]
    · cases hh

def nilE (e : EH) (d : TypeDesc) (x : AV) : Option Bool :=
  match x with
  | .ms b _ _ _ => (match d with | .slice _ => (match e.get b with | some _ => some false | none => none) | _ => none)
  | .ptr b _ _ => (match d with | .pointer _ => (match e.get b with | some _ => some false | none => none) | _ => none)
  | .mp b => (match d with | .map _ _ => (match e.get b with | some _ => some false | none => none) | _ => none)
  | x => nilA ⟨[], []⟩ d x

theorem nilE_eq {e : EH} (he : e.ok) (d : TypeDesc) (x : AV) : nilE e d x = nilA e.abs d x := by
  cases x <;> first
    | (cases d <;> rfl)
    | (simp only [nilE, EH.get_abs he]; cases d <;> rfl)

def eqE (e : EH) (t : TypeId) (x y : AV) : Option Bool :=
  match T t with
  | none => none
  | some ti =>
    match isNil ti.desc x with
    | true => nilE e ti.desc y
    | false => (match isNil ti.desc y with
      | true => nilE e ti.desc x
      | false => eqA T 100 t x y)

def notNum : AV → Bool
  | .int _ _ | .str _ => false
  | _ => true

omit [Gl] in
theorem binW_eql {h : Heap} {t : TypeId} {x y : AV} {Q : AV → Prop} (hx : notNum x = true) : binW T h .eql t x y Q = (match T t with
    | none => False
    | some ti =>
      if isNil ti.desc x then (match nilA h ti.desc y with | some b => Q (.bool b) | none => False)
      else if isNil ti.desc y then (match nilA h ti.desc x with | some b => Q (.bool b) | none => False)
      else match eqA T 100 t x y with | some b => Q (.bool b) | none => False) := by
  cases x <;> first | rfl | cases hx
omit [Gl] in
theorem binW_neq {h : Heap} {t : TypeId} {x y : AV} {Q : AV → Prop} (hx : notNum x = true) : binW T h .neq t x y Q = (match T t with
    | none => False
    | some ti =>
      if isNil ti.desc x then (match nilA h ti.desc y with | some b => Q (.bool !b) | none => False)
      else if isNil ti.desc y then (match nilA h ti.desc x with | some b => Q (.bool !b) | none => False)
      else match eqA T 100 t x y with | some b => Q (.bool !b) | none => False) := by
  cases x <;> first | rfl | cases hx

theorem eqE_ok {e : EH} (he : e.ok) {t : TypeId} {x y : AV} {b : Bool} (h : eqE T e t x y = some b) (hx : notNum x = true) (Q : AV → Prop) :
    (Q (.bool b) → binW T e.abs .eql t x y Q) ∧ (Q (.bool !b) → binW T e.abs .neq t x y Q) := by
  rw [binW_eql T hx, binW_neq T hx]
  unfold eqE at h
  split at h
  · cases h
  · rename_i ti ht
    split at h
    · rename_i hn
      rw [nilE_eq he] at h
      rw [if_pos hn, if_pos hn, h]
      exact ⟨id, id⟩
    · rename_i hn
      have hn : ¬ isNil ti.desc x = true := by rw [hn]; exact Bool.false_ne_true
      split at h
      · rename_i hn'
        rw [nilE_eq he] at h
        rw [if_neg hn, if_neg hn, if_pos hn', if_pos hn', h]
        exact ⟨id, id⟩
      · rename_i hn'
        have hn' : ¬ isNil ti.desc y = true := by rw [hn']; exact Bool.false_ne_true
        rw [if_neg hn, if_neg hn, if_neg hn', if_neg hn', h]
        exact ⟨id, id⟩

def binOE (e : EH) (op : BinOp) (t : TypeId) (x y : AV) (K : AV → Option R) : Option R :=
  match op with
  | .eql => (match notNum x with | true => (match eqE T e t x y with | some b => boolK b K | none => none) | false => none)
  | .neq => (match notNum x with | true => (match eqE T e t x y with | some b => boolK (!b) K | none => none) | false => none)
  | _ => none

def binE (e : EH) (op : BinOp) (t : TypeId) (x y : AV) (K : AV → Option R) : Option R :=
  match x with
  | .int k a => (match y with | .int k' b => binIE op k a k' b K | _ => none)
  | .str a => (match y with | .str b => binSE op a b K | _ => none)
  | x => binOE T e op t x y K

theorem binOE_ok {e : EH} (he : e.ok) {op : BinOp} {t : TypeId} {x z : AV} {K : AV → Option R} {y : R} (hh : binOE T e op t x z K = some y) :
    Gave K y (binW T e.abs op t x z) := by
  unfold binOE at hh
  split at hh
  · split at hh
    · rename_i hx
      split at hh
      · rename_i b hb
        rw [boolK_eq] at hh
        exact ⟨_, hh, fun Q hq => (eqE_ok T he hb hx Q).1 hq⟩
      · cases hh
    · cases hh
  · split at hh
    · rename_i hx
      split at hh
      · rename_i b hb
        rw [boolK_eq] at hh
        exact ⟨_, hh, fun Q hq => (eqE_ok T he hb hx Q).2 hq⟩
      · cases hh
    · cases hh
  · cases hh

theorem binE_ok {e : EH} (he : e.ok) {op : BinOp} {t : TypeId} {x z : AV} {K : AV → Option R} {y : R} (hh : binE T e op t x z K = some y) :
    Gave K y (binW T e.abs op t x z) := by
  unfold binE at hh
  split at hh
  · split at hh
    · exact binIE_ok T hh
    · cases hh
  · split at hh
    · exact binSE_ok T hh
    · cases hh
  · exact binOE_ok T he hh

def convE (e : EH) (src dst : TypeId) (x : AV) (K : AV → EH → Option R) : Option R :=
  match T src, T dst with
  | some _, some di =>
    match x with
    | .int _ n => (match di.desc with | .int k => intK k n (fun r => K r e) | _ => none)
    | .str s => (match di.desc with | .string => K (.str s) e | _ => none)
    | _ => none
  | _, _ => none

def Quiet (K : AV → EH → Option R) (e : EH) (y : R) (S : (AV → Heap → Prop) → Prop) : Prop :=
  ∃ r, K r e = some y ∧ ∀ Q : AV → Heap → Prop, Q r e.abs → S Q
omit [Gl] in
theorem Quiet.went {K : AV → EH → Option R} {e : EH} {y : R} {S : (AV → Heap → Prop) → Prop} (he : e.ok) (h : Quiet K e y S) : Went K y S := by
  obtain ⟨r, h1, h2⟩ := h
  exact ⟨r, e, he, h1, h2⟩

theorem convE_ok {e : EH} {src dst : TypeId} {x : AV} {K : AV → EH → Option R} {y : R} (h : convE T e src dst x K = some y) : Quiet K e y (convW T e.abs src dst x) := by
  unfold convE at h
  split at h
  · rename_i si di hs hd
    split at h
    · split at h
      · rename_i k hk
        rw [intK_eq] at h
        exact ⟨_, h, fun Q hq => by simp only [convW, hs, hd, hk]; exact hq⟩
      · cases h
    · split at h
      · rename_i hk
        exact ⟨_, h, fun Q hq => by simp only [convW, hs, hd, hk]; exact hq⟩
      · cases h
    · cases h
  · cases h

def indexMsE (e : EH) (t : TypeId) (el : TypeId) (b s len : Nat) (i : Nat) (K : AV → Option R) : Option R :=
  match Nat.blt i len with
  | false => none
  | true =>
    match T el with
    | none => none
    | some ei =>
      match e.get b with
      | some (.rows rs _ _) => (match nthL rs (s + i) with
        | some row => (match lenIs row ei.size && Nat.blt 0 ei.size with | true => fNat (s + i) fun si => K (.ptr b si 0) | false => none)
        | none => none)
      | _ => none

def indexVsE (el : TypeId) (es : List (List AV)) (i : Nat) (K : AV → Option R) : Option R :=
  match T el with
  | none => none
  | some ei => (match nthL es i with
    | some row => (match lenIs row ei.size with | true => K (.vp row 0) | false => none)
    | none => none)

def indexAddrE (e : EH) (t : TypeId) (x ix : AV) (K : AV → Option R) : Option R :=
  match T t with
  | none => none
  | some ti =>
  match ix with
  | .int _ (.ofNat i) =>
    match ti.desc with
    | .slice el => (match x with
      | .ms b s len _ => indexMsE T e t el b s len i K
      | .vs es _ => indexVsE T el es i K
      | _ => none)
    | .array n el => (match Nat.blt i n with
      | false => none
      | true => (match T el with
        | none => none
        | some ei => (match x with
          | .ptr b r j => (match e.get b with
            | some (.rows rs _ _) => (match nthL rs r with
              | some row => (match Nat.blt (j + i * ei.size) row.length with | true => fNat (j + i * ei.size) fun o => K (.ptr b r o) | false => none)
              | none => none)
            | _ => none)
          | .vp row j => fNat (j + i * ei.size) fun o => K (.vp row o)
          | .gp g j => fNat (j + i * ei.size) fun o => K (.gp g o)
          | _ => none)))
    | _ => none
  | _ => none

theorem indexAddrE_ok {e : EH} (he : e.ok) {t : TypeId} {x ix : AV} {K : AV → Option R} {y : R} (h : indexAddrE T e t x ix K = some y) : Gave K y (indexAddrW T e.abs t x ix) := by
  unfold indexAddrE at h
  split at h
  · cases h
  · rename_i ti ht
    split at h
    · rename_i k i
      split at h
      · rename_i el hd
        split at h
        · rename_i b s len capo
          unfold indexMsE at h
          simp only [lenIs_eq] at h
          split at h
          · cases h
          · rename_i hi
            rw [Nat.blt_eq] at hi
            split at h
            · cases h
            · rename_i ei hei
              rw [EH.get_abs he] at h
              split at h
              · rename_i rs g fz hb
                rw [nthL_eq] at h
                split at h
                · rename_i row hrow
                  split at h
                  · rename_i hc
                    rw [fNat_eq] at h
                    simp only [Bool.and_eq_true, beq_iff_eq, Nat.blt_eq] at hc
                    refine ⟨_, h, fun Q hq => ?_⟩
                    simp only [indexAddrW, indexMemW, ht, hd, hei, hb]
                    exact ⟨⟨Int.natCast_nonneg i, Int.ofNat_lt.2 hi⟩, hc.2, ⟨row, hrow, hc.1⟩, hq⟩
                  · cases h
                · cases h
              · cases h
        · rename_i es capo
          unfold indexVsE at h
          simp only [lenIs_eq] at h
          split at h
          · cases h
          · rename_i ei hei
            rw [nthL_eq] at h
            split at h
            · rename_i row hrow
              split at h
              · rename_i hc
                rw [beq_iff_eq] at hc
                refine ⟨_, h, fun Q hq => ?_⟩
                obtain ⟨hi, _⟩ := List.getElem?_eq_some_iff.1 hrow
                simp only [indexAddrW, indexMemW, ht, hd, hei]
                exact ⟨⟨Int.natCast_nonneg i, Int.ofNat_lt.2 hi⟩, row, hrow, hc, hq⟩
              · cases h
            · cases h
        · cases h
      · rename_i n el hd
        split at h
        · cases h
        · rename_i hi
          rw [Nat.blt_eq] at hi
          have hb2 : (0 : Int) ≤ Int.ofNat i ∧ Int.ofNat i < (n : Int) := ⟨Int.natCast_nonneg i, Int.ofNat_lt.2 hi⟩
          split at h
          · cases h
          · rename_i ei hei
            split at h
            · rename_i b r j
              rw [EH.get_abs he] at h
              split at h
              · rename_i rs g fz hb
                rw [nthL_eq] at h
                split at h
                · rename_i row hrow
                  split at h
                  · rename_i hc
                    rw [Nat.blt_eq] at hc
                    rw [fNat_eq] at h
                    refine ⟨_, h, fun Q hq => ?_⟩
                    simp only [indexAddrW, indexMemW, ht, hd, hei, hb, hrow]
                    exact ⟨hb2, hc, hq⟩
                  · cases h
                · cases h
              · cases h
            · rw [fNat_eq] at h
              refine ⟨_, h, fun Q hq => ?_⟩
              simp only [indexAddrW, indexMemW, ht, hd, hei]
              exact ⟨hb2, hq⟩
            · rw [fNat_eq] at h
              refine ⟨_, h, fun Q hq => ?_⟩
              simp only [indexAddrW, indexGlobW, ht, hd, hei]
              exact ⟨hb2, hq⟩
            · cases h
      · cases h
    · cases h

def indexE (t : TypeId) (x ix : AV) (K : AV → Option R) : Option R :=
  match ix with
  | .int _ (.ofNat i) =>
    match T t with
    | none => none
    | some ti => (match x with
      | .str s => (match ti.desc with
        | .string => (match nthL s i with | some c => fNat c.toNat fun n => K (.int .u8 (.ofNat n)) | none => none)
        | _ => none)
      | .agg cs => (match ti.desc with
        | .array n el => (match Nat.blt i n with
          | false => none
          | true => (match T el with
            | none => none
            | some ei => (match partA ei cs (i * ei.size) with | some r => fAV r K | none => none)))
        | _ => none)
      | _ => none)
  | _ => none

theorem indexE_ok {t : TypeId} {x ix : AV} {K : AV → Option R} {y : R} (h : indexE T t x ix K = some y) : Gave K y (indexW T t x ix) := by
  unfold indexE at h
  split at h
  · rename_i k i
    split at h
    · cases h
    · rename_i ti ht
      split at h
      · rename_i s
        split at h
        · rename_i hd
          rw [nthL_eq] at h
          split at h
          · rename_i c hc
            rw [fNat_eq] at h
            refine ⟨_, h, fun Q hq => ?_⟩
            simp only [indexW, ht, hd]
            exact ⟨Int.natCast_nonneg i, c, hc, hq⟩
          · cases h
        · cases h
      · rename_i cs
        split at h
        · rename_i n el hd
          split at h
          · cases h
          · rename_i hi
            rw [Nat.blt_eq] at hi
            split at h
            · cases h
            · rename_i ei hei
              split at h
              · rename_i r hr
                rw [fAV_eq] at h
                refine ⟨_, h, fun Q hq => ?_⟩
                simp only [indexW, ht, hd, hei]
                exact ⟨⟨Int.natCast_nonneg i, Int.ofNat_lt.2 hi⟩, r, hr, hq⟩
              · cases h
        · cases h
      · cases h
  · cases h

end ops
end
end Go.Abs
