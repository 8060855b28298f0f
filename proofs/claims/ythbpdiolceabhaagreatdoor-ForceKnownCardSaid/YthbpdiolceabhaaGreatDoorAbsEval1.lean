/-
  A way to run the abstract operations, made for the kernel: heaps with the newest block first, every value laid open before it goes on; that the runs are right.
  Conditions: none.
-/
import Derived.Test.YthbpdiolceabhaaGreatDoorAbsWp
set_option linter.unusedVariables false
set_option linter.unusedSimpArgs false
set_option linter.unusedSectionVars false
namespace Go.Abs
noncomputable section
variable [Gl]

/-- An abstract heap, the newest block first. -/
structure EH where
  n : Nat
  rb : List (Option Blk)
  loops : List (Option ALoop)
  deriving Inhabited

def EH.abs (e : EH) : Heap := ⟨e.rb.reverse, e.loops⟩
def EH.ok (e : EH) : Prop := e.n = e.rb.length

section force
variable {R α : Type}

/-- The same function, of a number that is laid open. -/
def fNat (n : Nat) (k : Nat → Option R) : Option R := match n with | 0 => k 0 | p + 1 => k (p + 1)
omit [Gl] in
theorem fNat_eq (n : Nat) (k : Nat → Option R) : fNat n k = k n := by cases n <;> rfl
def fInt (i : Int) (k : Int → Option R) : Option R := match i with | .ofNat m => fNat m (fun m => k (.ofNat m)) | .negSucc m => fNat m (fun m => k (.negSucc m))
theorem fInt_eq (n : Int) (k : Int → Option R) : fInt n k = k n := by cases n <;> simp [fInt, fNat_eq]
def fListC : List α → (List α → Option R) → Option R
  | [], k => k []
  | a :: r, k => fListC r (fun r' => k (a :: r'))
noncomputable def fList (l : List α) : (List α → Option R) → Option R :=
  List.rec (motive := fun _ => (List α → Option R) → Option R) (fun k => k []) (fun a _ ih k => ih (fun r' => k (a :: r'))) l
omit [Gl] in
theorem fList_eq : ∀ (l : List α) (k : List α → Option R), fList l k = k l
  | [], _ => rfl
  | a :: r, k => by rw [show fList (a :: r) k = fList r (fun r' => k (a :: r')) from rfl, fList_eq r]
def fBool (b : Bool) (k : Bool → Option R) : Option R := match b with | true => k true | false => k false
omit [Gl] in
theorem fBool_eq (n : Bool) (k : Bool → Option R) : fBool n k = k n := by cases n <;> rfl

/-- A list with each of its values laid open. -/
def fAV (r : AV) (K : AV → Option R) : Option R :=
  match r with
  | .junk => K .junk
  | .bool b => fBool b fun b => K (.bool b)
  | .int k n => fInt n fun n => K (.int k n)
  | .str s => fList s fun s => K (.str s)
  | .nilp => K .nilp
  | .nils => K .nils
  | .nilf => K .nilf
  | .nili => K .nili
  | .nilm => K .nilm
  | .agg cs => fList cs fun cs => K (.agg cs)
  | .tup cs => fList cs fun cs => K (.tup cs)
  | .vs es c => fList es fun es => (match c with | none => K (.vs es none) | some c => fNat c fun c => K (.vs es (some c)))
  | .vp row j => fNat j fun j => K (.vp row j)
  | .ptr b i j => fNat b fun b => fNat i fun i => fNat j fun j => K (.ptr b i j)
  | .ms b i l c => fNat b fun b => fNat i fun i => fNat l fun l => (match c with | none => K (.ms b i l none) | some c => fNat c fun c => K (.ms b i l (some c)))
  | .fn f a c => fList a fun a => fList c fun c => K (.fn f a c)
  | .yld l => K (.yld l)
  | .ifc t x => K (.ifc t x)
  | .mp b => K (.mp b)
  | .gp g j => fNat j fun j => K (.gp g j)
theorem fAV_eq (r : AV) (K : AV → Option R) : fAV r K = K r := by
  cases r <;> simp only [fAV, fBool_eq, fInt_eq, fNat_eq, fList_eq] <;> (rename_i c; cases c <;> rfl)

def nthLC : List α → Nat → Option α
  | [], _ => none
  | x :: l, n => match n with | 0 => some x | p + 1 => nthLC l p
noncomputable def nthL (l : List α) : Nat → Option α :=
  List.rec (motive := fun _ => Nat → Option α) (fun _ => none) (fun x _ ih n => Nat.rec (some x) (fun p _ => ih p) n) l
omit [Gl] in
theorem nthL_eq : ∀ (l : List α) (n : Nat), nthL l n = l[n]?
  | [], _ => by rw [List.getElem?_nil]; rfl
  | x :: l, 0 => by rw [List.getElem?_cons_zero]; rfl
  | x :: l, n + 1 => by rw [List.getElem?_cons_succ, ← nthL_eq l n]; rfl

/-- A list with one element turned. -/
def setLC : List α → Nat → α → (List α → Option R) → Option R
  | [], _, _, k => k []
  | y :: l, n, x, k => match n with | 0 => k (x :: l) | p + 1 => setLC l p x (fun l' => k (y :: l'))
noncomputable def setL (l : List α) : Nat → α → (List α → Option R) → Option R :=
  List.rec (motive := fun _ => Nat → α → (List α → Option R) → Option R) (fun _ _ k => k []) (fun y l ih n x k => Nat.rec (k (x :: l)) (fun p _ => ih p x (fun l' => k (y :: l'))) n) l
omit [Gl] in
theorem setL_eq : ∀ (l : List α) (n : Nat) (x : α) (k : List α → Option R), setL l n x k = k (l.set n x)
  | [], _, _, _ => by rw [List.set_nil]; rfl
  | y :: l, 0, x, k => by rw [List.set_cons_zero]; rfl
  | y :: l, n + 1, x, k => by rw [List.set_cons_succ, show setL (y :: l) (n + 1) x k = setL l n x (fun l' => k (y :: l')) from rfl, setL_eq l n]
end force

def nthBC : List (Option Blk) → Nat → Option Blk
  | [], _ => none
  | x :: l, n => match n with | 0 => x | p + 1 => nthBC l p
noncomputable def nthB (l : List (Option Blk)) : Nat → Option Blk :=
  List.rec (motive := fun _ => Nat → Option Blk) (fun _ => none) (fun x _ ih n => Nat.rec x (fun p _ => ih p) n) l
omit [Gl] in
theorem nthB_eq : ∀ (l : List (Option Blk)) (n : Nat), nthB l n = (l[n]?).join
  | [], _ => by rw [List.getElem?_nil]; rfl
  | x :: l, 0 => by rw [List.getElem?_cons_zero]; rfl
  | x :: l, n + 1 => by rw [List.getElem?_cons_succ, ← nthB_eq l n]; rfl

def EH.get (e : EH) (b : Nat) : Option Blk := match Nat.blt b e.n with | true => nthB e.rb (e.n - 1 - b) | false => none
theorem EH.get_abs {e : EH} (h : e.ok) (b : Nat) : e.get b = e.abs.blk? b := by
  unfold EH.get EH.abs Heap.blk?
  have h' : e.n = e.rb.length := h
  split
  · rename_i hb
    rw [Nat.blt_eq] at hb
    rw [nthB_eq, List.getElem?_reverse (by omega), h']
  · rename_i hb
    have : ¬ b < e.n := by rw [← Nat.blt_eq, hb]; simp
    rw [List.getElem?_eq_none (by simpa using by omega)]
    rfl

section ops
variable {R : Type} (T : Tab)

def EH.push (e : EH) (x : Blk) (K : EH → Option R) : Option R := fNat (e.n + 1) fun n => K { n := n, rb := some x :: e.rb, loops := e.loops }
def EH.put (e : EH) (b : Nat) (x : Blk) (K : EH → Option R) : Option R :=
  match Nat.blt b e.n with
  | true => setL e.rb (e.n - 1 - b) (some x) fun rb => K { n := e.n, rb := rb, loops := e.loops }
  | false => none

omit [Gl] in
theorem EH.len {e : EH} (h : e.ok) : e.abs.blks.length = e.n := by
  have h' : e.n = e.rb.length := h
  simp [EH.abs, h']

theorem EH.push_ok {e : EH} (h : e.ok) {x : Blk} {K : EH → Option R} {y : R} (hk : e.push x K = some y) : ∃ e', e'.ok ∧ e'.abs = e.abs.push x ∧ K e' = some y := by
  unfold EH.push at hk
  rw [fNat_eq] at hk
  have h' : e.n = e.rb.length := h
  exact ⟨_, by simp [EH.ok, h'], by simp [EH.abs, Heap.push], hk⟩

theorem EH.put_ok {e : EH} (h : e.ok) {b : Nat} {x : Blk} {K : EH → Option R} {y : R} (hk : e.put b x K = some y) : ∃ e', e'.ok ∧ e'.abs = e.abs.put b x ∧ K e' = some y := by
  unfold EH.put at hk
  split at hk
  · rename_i hb
    rw [Nat.blt_eq] at hb
    rw [setL_eq] at hk
    have h' : e.n = e.rb.length := h
    refine ⟨_, by simp [EH.ok, h'], ?_, hk⟩
    simp only [EH.abs, Heap.put, Heap.mk.injEq, and_true]
    apply List.ext_getElem?
    intro i
    rw [List.getElem?_set]
    by_cases hi : i < e.rb.length
    · rw [List.getElem?_reverse (by simpa using hi), List.getElem?_reverse hi, List.getElem?_set, List.length_set, List.length_reverse]
      by_cases hbi : b = i
      · subst hbi
        simp [h', hi]
        omega
      · rw [if_neg (by omega), if_neg hbi]
    · rw [List.getElem?_eq_none (by simpa using hi), if_neg (by omega), List.getElem?_eq_none (by simpa using hi)]
  · cases hk

def EH.kill (e : EH) (b : Nat) (K : EH → Option R) : Option R :=
  match Nat.blt b e.n with
  | true => setL e.rb (e.n - 1 - b) none fun rb => K { n := e.n, rb := rb, loops := e.loops }
  | false => none

theorem EH.kill_ok {e : EH} (h : e.ok) {b : Nat} {K : EH → Option R} {y : R} (hk : e.kill b K = some y) : ∃ e', e'.ok ∧ e'.abs = e.abs.kill b ∧ e'.n = e.n ∧ K e' = some y := by
  unfold EH.kill at hk
  split at hk
  · rename_i hb
    rw [Nat.blt_eq] at hb
    rw [setL_eq] at hk
    have h' : e.n = e.rb.length := h
    refine ⟨{ n := e.n, rb := e.rb.set (e.n - 1 - b) none, loops := e.loops }, by simp [EH.ok, h'], ?_, rfl, hk⟩
    simp only [EH.abs, Heap.kill, Heap.mk.injEq, and_true]
    apply List.ext_getElem?
    intro i
    rw [List.getElem?_set]
    by_cases hi : i < e.rb.length
    · rw [List.getElem?_reverse (by simpa using hi), List.getElem?_reverse hi, List.getElem?_set, List.length_set, List.length_reverse]
      by_cases hbi : b = i
      · subst hbi
        simp [h', hi]
        omega
      · rw [if_neg (by omega), if_neg hbi]
    · rw [List.getElem?_eq_none (by simpa using hi), if_neg (by omega), List.getElem?_eq_none (by simpa using hi)]
  · cases hk

/-- The outcome of a run. -/
def Went (K : AV → EH → Option R) (y : R) (S : (AV → Heap → Prop) → Prop) : Prop :=
  ∃ r e', e'.ok ∧ K r e' = some y ∧ ∀ Q : AV → Heap → Prop, Q r e'.abs → S Q
/-- The outcome of a run that leaves the memory alone. -/
def Gave (K : AV → Option R) (y : R) (S : (AV → Prop) → Prop) : Prop :=
  ∃ r, K r = some y ∧ ∀ Q : AV → Prop, Q r → S Q

def partE (t : TypeId) (row : List AV) (j : Nat) (K : AV → Option R) : Option R :=
  match T t with
  | some ti => (match partA ti row j with | some r => fAV r K | none => none)
  | none => none

def loadE (e : EH) (t : TypeId) (x : AV) (K : AV → Option R) : Option R :=
  match x with
  | .ptr b i j =>
    match e.get b with
    | some (.rows rs _ _) => (match nthL rs i with | some row => partE T t row j K | none => none)
    | _ => none
  | .vp row j => partE T t row j K
  | .gp g j => (match Gl.gl g with | some row => partE T t row j K | none => none)
  | _ => none

theorem partE_ok {t : TypeId} {row : List AV} {j : Nat} {K : AV → Option R} {y : R} (h : partE T t row j K = some y) : ∃ ti r, T t = some ti ∧ partA ti row j = some r ∧ K r = some y := by
  unfold partE at h
  split at h
  · rename_i ti ht
    split at h
    · rename_i r hr
      rw [fAV_eq] at h
      exact ⟨ti, r, ht, hr, h⟩
    · cases h
  · cases h

theorem loadE_ok {e : EH} (he : e.ok) {t : TypeId} {x : AV} {K : AV → Option R} {y : R} (h : loadE T e t x K = some y) : ∃ r, loadA T e.abs t x = some r ∧ K r = some y := by
  unfold loadE at h
  split at h
  · rename_i b i j
    rw [EH.get_abs he] at h
    split at h
    · rename_i rs g fz hb
      rw [nthL_eq] at h
      split at h
      · rename_i row hrow
        obtain ⟨ti, r, h1, h2, h3⟩ := partE_ok T h
        refine ⟨r, ?_, h3⟩
        simp [loadA, h1, hb, hrow, h2]
      · cases h
    · cases h
  · obtain ⟨ti, r, h1, h2, h3⟩ := partE_ok T h
    exact ⟨r, by simp [loadA, h1, h2], h3⟩
  · rename_i g j
    split at h
    · rename_i row hg
      obtain ⟨ti, r, h1, h2, h3⟩ := partE_ok T h
      exact ⟨r, by simp [loadA, h1, hg, h2], h3⟩
    · cases h
  · cases h

def storeRowE (e : EH) (b i : Nat) (rs : List (List AV)) (row : List AV) (K : AV → EH → Option R) : Option R :=
  fList row fun row => setL rs i row fun rs => e.put b (.rows rs false false) (K .junk)

def storeE (e : EH) (t : TypeId) (x v : AV) (K : AV → EH → Option R) : Option R :=
  match x with
  | .ptr b i j =>
    match e.get b with
    | some (.rows rs false false) =>
      match nthL rs i with
      | some row =>
        match T t with
        | some ti => (match (cellsA v).all okc && (cellsA v).length == ti.size && Nat.ble (j + ti.size) row.length with
          | true => storeRowE e b i rs (row.take j ++ cellsA v ++ row.drop (j + ti.size)) K
          | false => none)
        | none => none
      | none => none
    | _ => none
  | _ => none

theorem storeE_ok {e : EH} (he : e.ok) {t : TypeId} {x v : AV} {K : AV → EH → Option R} {y : R} (h : storeE T e t x v K = some y) :
    ∃ h' e', storeA T e.abs t x v = some h' ∧ e'.ok ∧ e'.abs = h' ∧ K .junk e' = some y := by
  unfold storeE at h
  split at h
  · rename_i b i j
    rw [EH.get_abs he] at h
    split at h
    · rename_i rs hb
      rw [nthL_eq] at h
      split at h
      · rename_i row hrow
        split at h
        · rename_i ti ht
          split at h
          · rename_i hc
            unfold storeRowE at h
            rw [fList_eq, setL_eq] at h
            obtain ⟨e', h1, h2, h3⟩ := EH.put_ok he h
            refine ⟨_, e', ?_, h1, h2, h3⟩
            simp only [storeA, ht, hb, hrow, hc, if_true]
          · cases h
        · cases h
      · cases h
    · cases h
  · cases h

def fieldAddrE (e : EH) (s : TypeId) (x : AV) (f : Nat) (K : AV → Option R) : Option R :=
  match T s with
  | some ti =>
    match ti.desc with
    | .struct fs =>
      match fs[f]? with
      | none => none
      | some fd =>
        match T fd.type with
        | none => none
        | some fi =>
          match fi.size == 0 with
          | true => none
          | false =>
            match x with
            | .ptr b i j =>
              match e.get b with
              | some (.rows rs _ _) => (match nthL rs i with
                | some row => (match Nat.blt (j + fd.offset) row.length with | true => fAV (.ptr b i (j + fd.offset)) K | false => none)
                | none => none)
              | _ => none
            | .vp row j => fAV (.vp row (j + fd.offset)) K
            | .gp g j => fAV (.gp g (j + fd.offset)) K
            | _ => none
    | _ => none
  | none => none

theorem fieldAddrE_ok {e : EH} (he : e.ok) {s : TypeId} {x : AV} {f : Nat} {K : AV → Option R} {y : R} (h : fieldAddrE T e s x f K = some y) : ∃ r, fieldAddrA T e.abs s x f = some r ∧ K r = some y := by
  unfold fieldAddrE at h
  split at h
  · rename_i ti ht
    split at h
    · rename_i fs hd
      obtain ⟨d, sz, by', ze, cm⟩ := ti
      simp only at hd; subst hd
      split at h
      · cases h
      · rename_i fd hfd
        split at h
        · cases h
        · rename_i fi hfi
          split at h
          · cases h
          · rename_i hz
            split at h
            · rename_i b i j
              rw [EH.get_abs he] at h
              split at h
              · rename_i rs g fz hb
                rw [nthL_eq] at h
                split at h
                · rename_i row hrow
                  split at h
                  · rename_i hl
                    rw [fAV_eq] at h
                    exact ⟨_, by simp only [fieldAddrA, ht, hfd, hfi, hz, hb, hrow, hl, if_true]; rfl, h⟩
                  · cases h
                · cases h
              · cases h
            · rw [fAV_eq] at h
              exact ⟨_, by simp only [fieldAddrA, ht, hfd, hfi, hz]; rfl, h⟩
            · rw [fAV_eq] at h
              exact ⟨_, by simp only [fieldAddrA, ht, hfd, hfi, hz]; rfl, h⟩
            · cases h
    · cases h
  · cases h

def allocE (e : EH) (t : TypeId) (K : AV → EH → Option R) : Option R :=
  match T t with
  | none => none
  | some ei => match Nat.blt 0 ei.size && ei.zero.all okc with
    | true => fList ei.zero fun z => e.push (.rows [z] false false) fun e' => K (.ptr e.n 0 0) e'
    | false => none

theorem allocE_ok {e : EH} (he : e.ok) {t : TypeId} {K : AV → EH → Option R} {y : R} (h : allocE T e t K = some y) : Went K y (allocW T e.abs t) := by
  unfold allocE at h
  split at h
  · cases h
  · rename_i ei ht
    split at h
    · rename_i hc
      rw [fList_eq] at h
      obtain ⟨e', h1, h2, h3⟩ := EH.push_ok he h
      simp only [Bool.and_eq_true, Nat.blt_eq] at hc
      refine ⟨_, e', h1, h3, fun Q hq => ?_⟩
      simp only [allocW, ht, EH.len he]
      exact ⟨hc, h2 ▸ hq⟩
    · cases h

def boxE (e : EH) (t : TypeId) (x : AV) (K : AV → EH → Option R) : Option R :=
  match T t with
  | none => none
  | some ei => match (cellsA x).length == ei.size && Nat.blt 0 ei.size && (cellsA x).all okc with
    | true => fList (cellsA x) fun z => e.push (.rows [z] false false) fun e' => K (.ptr e.n 0 0) e'
    | false => none

theorem boxE_ok {e : EH} (he : e.ok) {t : TypeId} {x : AV} {K : AV → EH → Option R} {y : R} (h : boxE T e t x K = some y) : Went K y (boxW T e.abs t x) := by
  unfold boxE at h
  split at h
  · cases h
  · rename_i ei ht
    split at h
    · rename_i hc
      rw [fList_eq] at h
      obtain ⟨e', h1, h2, h3⟩ := EH.push_ok he h
      simp only [Bool.and_eq_true, Nat.blt_eq, beq_iff_eq] at hc
      refine ⟨_, e', h1, h3, fun Q hq => ?_⟩
      simp only [boxW, ht, EH.len he]
      exact ⟨⟨hc.1.1, hc.1.2, hc.2⟩, h2 ▸ hq⟩
    · cases h

def fRows {α : Type} : List (List α) → (List (List α) → Option R) → Option R
  | [], k => k []
  | a :: r, k => fList a fun a' => fRows r (fun r' => k (a' :: r'))
theorem fRows_eq {α : Type} : ∀ (l : List (List α)) (k : List (List α) → Option R), fRows l k = k l
  | [], _ => rfl
  | a :: r, k => by rw [fRows, fList_eq, fRows_eq r]

def buildSliceE (e : EH) (t : TypeId) (len : Nat) (parts : List (Nat × AV)) (K : AV → EH → Option R) : Option R :=
  match T t with
  | none => none
  | some ti =>
  match ti.desc with
  | .slice el =>
    match T el with
    | none => none
    | some ei => match Nat.ble (len * ei.size) 16777216 && Nat.blt 0 ei.size && ei.zero.all okc with
      | true => (match fillRows ei.size (List.replicate len ei.zero) parts with
        | none => none
        | some rows => fRows rows fun rows => e.push (.rows rows false false) fun e' => K (.ms e.n 0 len (some len)) e')
      | false => none
  | _ => none

theorem buildSliceE_ok {e : EH} (he : e.ok) {t : TypeId} {len : Nat} {parts : List (Nat × AV)} {K : AV → EH → Option R} {y : R} (h : buildSliceE T e t len parts K = some y) : Went K y (buildSliceW T e.abs t len parts) := by
  unfold buildSliceE at h
  split at h
  · cases h
  · rename_i ti ht
    split at h
    · rename_i el hd
      obtain ⟨d, sz, by', ze, cm⟩ := ti
      simp only at hd; subst hd
      split at h
      · cases h
      · rename_i ei hei
        split at h
        · rename_i hc
          split at h
          · cases h
          · rename_i rows hrows
            rw [fRows_eq] at h
            obtain ⟨e', h1, h2, h3⟩ := EH.push_ok he h
            simp only [Bool.and_eq_true, Nat.blt_eq, Nat.ble_eq] at hc
            refine ⟨_, e', h1, h3, fun Q hq => ?_⟩
            simp only [buildSliceW, ht, hei, hrows, EH.len he]
            exact ⟨hc.1.1, hc.1.2, hc.2, .inl (h2 ▸ hq)⟩
        · cases h
    · cases h

/-- A slice's literal that nobody writes. -/
def buildFrozenE (t : TypeId) (len : Nat) (parts : List (Nat × AV)) (K : AV → Option R) : Option R :=
  match T t with
  | none => none
  | some ti =>
  match ti.desc with
  | .slice el =>
    match T el with
    | none => none
    | some ei => match Nat.ble (len * ei.size) 16777216 && Nat.blt 0 ei.size && ei.zero.all okc with
      | true => (match fillRows ei.size (List.replicate len ei.zero) parts with
        | none => none
        | some rows => fRows rows fun rows => K (.vs rows (some len)))
      | false => none
  | _ => none

theorem buildFrozenE_ok {h : Heap} {t : TypeId} {len : Nat} {parts : List (Nat × AV)} {K : AV → Option R} {y : R} (hh : buildFrozenE T t len parts K = some y) :
    ∃ r, K r = some y ∧ ∀ Q : AV → Heap → Prop, Q r h → buildSliceW T h t len parts Q := by
  unfold buildFrozenE at hh
  split at hh
  · cases hh
  · rename_i ti ht
    split at hh
    · rename_i el hd
      obtain ⟨d, sz, by', ze, cm⟩ := ti
      simp only at hd; subst hd
      split at hh
      · cases hh
      · rename_i ei hei
        split at hh
        · rename_i hc
          split at hh
          · cases hh
          · rename_i rows hrows
            rw [fRows_eq] at hh
            simp only [Bool.and_eq_true, Nat.blt_eq, Nat.ble_eq] at hc
            refine ⟨_, hh, fun Q hq => ?_⟩
            simp only [buildSliceW, ht, hei, hrows]
            exact ⟨hc.1.1, hc.1.2, hc.2, .inr hq⟩
        · cases hh
    · cases hh

def makeSliceE (e : EH) (t : TypeId) (l c : AV) (K : AV → EH → Option R) : Option R :=
  match T t with
  | none => none
  | some ti =>
  match ti.desc with
  | .slice el =>
    match l, c with
    | .int _ (.ofNat l), .int _ (.ofNat c) =>
      match T el with
      | none => none
      | some ei => match Nat.ble l c && Nat.ble (ei.bytes * c) 140737488355328 && Nat.ble c 140737488355328 && Nat.blt 0 ei.size && ei.zero.all okc with
        | true => fList (List.replicate c ei.zero) fun rows => e.push (.rows rows false false) fun e' => fNat l fun l => fNat c fun c => K (.ms e.n 0 l (some c)) e'
        | false => none
    | _, _ => none
  | _ => none

theorem makeSliceE_ok {e : EH} (he : e.ok) {t : TypeId} {l c : AV} {K : AV → EH → Option R} {y : R} (h : makeSliceE T e t l c K = some y) : Went K y (makeSliceW T e.abs t l c) := by
  unfold makeSliceE at h
  split at h
  · cases h
  · rename_i ti ht
    split at h
    · rename_i el hd
      obtain ⟨d, sz, by', ze, cm⟩ := ti
      simp only at hd; subst hd
      split at h
      · rename_i k1 l k2 c
        split at h
        · cases h
        · rename_i ei hei
          split at h
          · rename_i hc
            rw [fList_eq] at h
            obtain ⟨e', h1, h2, h3⟩ := EH.push_ok he h
            rw [fNat_eq, fNat_eq] at h3
            simp only [Bool.and_eq_true, Nat.blt_eq, Nat.ble_eq] at hc
            obtain ⟨⟨⟨⟨c1, c2⟩, c3⟩, c4⟩, c5⟩ := hc
            refine ⟨_, e', h1, h3, fun Q hq => ?_⟩
            simp only [makeSliceW, ht, hei, EH.len he]
            refine ⟨⟨?_, ?_, ?_, ?_⟩, c4, c5, ?_⟩
            · exact Int.natCast_nonneg l
            · exact Int.ofNat_le.2 c1
            · have : ((ei.bytes * c : Nat) : Int) ≤ 140737488355328 := by omega
              simpa using this
            · show (c : Int) ≤ _; omega
            · simpa [h2] using hq
          · cases h
      · cases h
    · cases h

end ops
end
end Go.Abs
