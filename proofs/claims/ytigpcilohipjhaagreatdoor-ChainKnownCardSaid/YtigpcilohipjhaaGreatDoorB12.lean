/-
  Steps to a law of this program: AbsEval5, AbsEval6.
  Conditions: none.
-/
import Derived.Test.YtigpcilohipjhaaGreatDoorB11
import Derived.Test.YtigpcilohipjhaaGreatDoorB5
set_option linter.unusedVariables false
set_option linter.unusedSimpArgs false
set_option linter.unusedSectionVars false
namespace Go.Abs
noncomputable section
variable [Gl]

section ops
variable {R : Type}

/-- How code and calls are run, to some depth. -/
structure IH (R : Type) where
  code : Option Nat → Code → TS → EH → (AExit → TS → EH → Option R) → Option R
  loop : Option Nat → Code → TS → EH → (AExit → TS → EH → Option R) → Option R
  scope : Option Nat → Code → Code → TS → EH → (AExit → TS → EH → Option R) → Option R
  call : FuncId → List AV → EH → (AV → EH → Option R) → Option R

def WentC (K : AExit → TS → EH → Option R) (y : R) (S : (AExit → St → Prop) → Prop) : Prop :=
  ∃ x ts e, e.ok ∧ okT ts ∧ K x ts e = some y ∧ ∀ Q : AExit → St → Prop, Q x ⟨ts.flatten, e.abs⟩ → S Q

structure IH.OK (P : Program) (ih : IH R) : Prop where
  code : ∀ rnd c ts e K y, e.ok → okT ts → ih.code rnd c ts e K = some y → WentC K y fun Q => ∀ n m, TodoSem P n m rnd [.code c] ⟨ts.flatten, e.abs⟩ Q
  loop : ∀ rnd c ts e K y, e.ok → okT ts → ih.loop rnd c ts e K = some y → WentC K y fun Q => ∀ n m, TodoSem P n m rnd [.inLoop c] ⟨ts.flatten, e.abs⟩ Q
  scope : ∀ rnd c x ts e K y, e.ok → okT ts → ih.scope rnd c x ts e K = some y → WentC K y fun Q => ∀ n m, TodoSem P n m rnd [.code x, .inScope c] ⟨ts.flatten, e.abs⟩ Q
  call : ∀ f args e K y, e.ok → ih.call f args e K = some y → Went K y (CallSem P f args e.abs)

def nthO : List (Option ALoop) → Nat → Option ALoop
  | [], _ => none
  | x :: l, n => match n with | 0 => x | p + 1 => nthO l p
omit [Gl] in
theorem nthO_eq : ∀ (l : List (Option ALoop)) (n : Nat), nthO l n = (l[n]?).join
  | [], _ => by simp [nthO]
  | x :: l, 0 => by simp [nthO]
  | x :: l, n + 1 => by simp only [nthO, nthO_eq l n, List.getElem?_cons_succ]
def EH.loop (e : EH) (l : Nat) : Option ALoop := nthO e.loops l
theorem EH.loop_abs (e : EH) (l : Nat) : e.loop l = e.abs.loop? l := nthO_eq _ _
def EH.setLoop (e : EH) (l : Nat) (r : Option ALoop) (K : EH → Option R) : Option R := setL e.loops l r fun ls => K { n := e.n, rb := e.rb, loops := ls }
theorem EH.setLoop_eq {e : EH} (he : e.ok) {l : Nat} {r : Option ALoop} {K : EH → Option R} {y : R} (h : e.setLoop l r K = some y) : ∃ e', e'.ok ∧ e'.abs = e.abs.setLoop l r ∧ K e' = some y := by
  unfold EH.setLoop at h
  rw [setL_eq] at h
  exact ⟨{ n := e.n, rb := e.rb, loops := e.loops.set l r }, he, rfl, h⟩
def EH.pushLoop (e : EH) (r : ALoop) (K : EH → Option R) : Option R := fList (e.loops ++ [some r]) fun ls => K { n := e.n, rb := e.rb, loops := ls }
theorem EH.pushLoop_eq {e : EH} (he : e.ok) {r : ALoop} {K : EH → Option R} {y : R} (h : e.pushLoop r K = some y) : ∃ e', e'.ok ∧ e'.abs = e.abs.pushLoop r ∧ K e' = some y := by
  unfold EH.pushLoop at h
  rw [fList_eq] at h
  exact ⟨{ n := e.n, rb := e.rb, loops := e.loops ++ [some r] }, he, rfl, h⟩

/-- The functions without a text. -/
class Bare where
  ext : FuncId → Option (List AV → Option AV)

structure BareOK [Bare] (P : Program) : Prop where
  ok : ∀ f g args r, Bare.ext f = some g → g args = some r → ExtSem P f args r

variable [Bare] (ih : IH R) (T : Tab)

def roundE (l : Nat) (x : AExit) (e : EH) (K : AV → EH → Option R) : Option R :=
  match e.loop l with
  | none => none
  | some r => match x with
    | .normal => e.setLoop l (some { r with state := .ready, pending := none }) fun e => K (.bool true) e
    | .jump j => (match isJump j with
      | true => e.setLoop l (some { r with state := .done, pending := some j }) fun e => K (.bool false) e
      | false => none)

def busyE (l : Nat) (body : Code) (ts : TS) (e : EH) (K : AV → EH → Option R) : Option R :=
  match e.loop l with
  | none => none
  | some r => match r.state with
    | .ready => e.setLoop l (some { r with state := .busy, pending := r.pending }) fun e => ih.code (some l) body ts e fun x _ e => roundE l x e K
    | _ => none

def yieldE (l : Nat) (args : List AV) (e : EH) (K : AV → EH → Option R) : Option R :=
  match e.loop l with
  | none => none
  | some r => match Nat.beq args.length r.params.size with
    | true => chunkK (setParams r.tmps r.params.toList args) fun ts => ih.code (some l) r.assign ts e fun x ts e => match x with
      | .normal => busyE ih l r.body ts e K
      | .jump j => roundE l (.jump j) e K
    | false => none

def callVE (f : AV) (args : List AV) (e : EH) (K : AV → EH → Option R) : Option R :=
  match f with
  | .fn (.func g) first cap => fList (first ++ args ++ cap) fun as => match Bare.ext g with
    | none => ih.call g as e K
    | some x => (match x as with | some r => fAV r fun r => K r e | none => none)
  | .yld l => yieldE ih l args e K
  | _ => none

omit [Bare] in
theorem roundE_ok {l : Nat} {x : AExit} {ts : List AV} {e : EH} {K : AV → EH → Option R} {y : R} (he : e.ok) (h : roundE l x e K = some y) :
    Went K y fun Q => roundQ l Q x ⟨ts, e.abs⟩ := by
  unfold roundE at h
  rw [EH.loop_abs] at h
  split at h
  · cases h
  · rename_i r hr
    split at h
    · obtain ⟨e', h1, h2, h3⟩ := EH.setLoop_eq he h
      exact ⟨_, e', h1, h3, fun Q hq => by simp only [roundQ, hr]; exact h2 ▸ hq⟩
    · split at h
      · rename_i hj
        obtain ⟨e', h1, h2, h3⟩ := EH.setLoop_eq he h
        exact ⟨_, e', h1, h3, fun Q hq => by simp only [roundQ, hr]; exact ⟨hj, h2 ▸ hq⟩⟩
      · cases h

variable {P : Program}

theorem yieldE_ok (hih : ih.OK P) {l : Nat} {args : List AV} {e : EH} {K : AV → EH → Option R} {y : R} (he : e.ok) (h : yieldE ih l args e K = some y) :
    Went K y (callV P e.abs (.yld l) args) := by
  unfold yieldE at h
  rw [EH.loop_abs] at h
  split at h
  · cases h
  · rename_i r hr
    split at h
    · rename_i hn
      rw [Nat.beq_eq] at hn
      obtain ⟨ts0, ht0, hfl, h⟩ := chunkK_ok h
      obtain ⟨x, ts, e1, h1, ht1, h2, h3⟩ := hih.code _ _ _ _ _ _ he ht0 h
      rw [hfl] at h3
      have fin : ∀ Q : AV → Heap → Prop, (∀ n m, TodoSem P n m (some l) [.code r.assign, .beginRound, .code r.body] ⟨setParams r.tmps r.params.toList args, e.abs⟩ (roundQ l Q)) → callV P e.abs (.yld l) args Q := fun Q hq => by
        simp only [callV, hr]
        exact ⟨trivial, yield_sem hr hn (hq _ _)⟩
      have app : ∀ (Q : AExit → St → Prop) n m, TodoSem P n m (some l) [.code r.assign] ⟨setParams r.tmps r.params.toList args, e.abs⟩ (Then (fun s => TodoSem P n m (some l) [.beginRound, .code r.body] s Q) Q) →
          TodoSem P n m (some l) [.code r.assign, .beginRound, .code r.body] ⟨setParams r.tmps r.params.toList args, e.abs⟩ Q := fun Q n m hq => todo_append (xs := [.code r.assign]) rfl hq
      cases x with
      | normal =>
        simp only at h2
        unfold busyE at h2
        rw [EH.loop_abs] at h2
        split at h2
        · cases h2
        · rename_i r1 hr1
          split at h2
          · rename_i hst
            obtain ⟨e2, g1, g2, g3⟩ := EH.setLoop_eq h1 h2
            obtain ⟨x3, ts3, e3, k1, _, k2, k3⟩ := hih.code _ _ _ _ _ _ g1 ht1 g3
            obtain ⟨v, e4, m1, m2, m3⟩ := roundE_ok (ts := ts3.flatten) k1 k2
            refine ⟨v, e4, m1, m2, fun Q hq => fin Q fun n m => app _ _ _ (h3 _ ?_ n m)⟩
            show TodoSem P n m (some l) [.beginRound, .code r.body] _ _
            refine todo_append (xs := [.beginRound]) rfl (todo_beginRound hr1 hst ?_)
            show TodoSem P n m (some l) [.code r.body] _ _
            have := k3 (roundQ l Q) (m3 Q hq) n m
            rw [g2] at this
            exact this
          · cases h2
      | jump j =>
        simp only at h2
        obtain ⟨v, e4, m1, m2, m3⟩ := roundE_ok (ts := ts.flatten) h1 h2
        exact ⟨v, e4, m1, m2, fun Q hq => fin Q fun n m => app _ _ _ (h3 (Then (fun s => TodoSem P n m (some l) [.beginRound, .code r.body] s (roundQ l Q)) (roundQ l Q)) (m3 Q hq) n m)⟩
    · cases h

theorem callVE_ok (hX : BareOK P) (hih : ih.OK P) {f : AV} {args : List AV} {e : EH} {K : AV → EH → Option R} {y : R} (he : e.ok) (h : callVE ih f args e K = some y) :
    Went K y (callV P e.abs f args) := by
  unfold callVE at h
  split at h
  · rw [fList_eq] at h
    split at h
    · obtain ⟨r, e', h1, h2, h3⟩ := hih.call _ _ _ _ _ he h
      exact ⟨r, e', h1, h2, fun Q hq => .inl (h3 Q hq)⟩
    · rename_i x hx
      split at h
      · rename_i r hr
        rw [fAV_eq] at h
        exact ⟨r, e, he, h, fun Q hq => .inr ⟨r, hX.ok _ _ _ _ hx hr, hq⟩⟩
      · cases h
  · exact yieldE_ok ih hih he h
  · cases h

def maxE (x y : AV) (e : EH) (big : Bool) (K : AV → EH → Option R) : Option R :=
  match x with
  | .int k a => (match y with
    | .int k' b => (match sameK k k' with
      | true => (match big with
        | true => fInt (max a b) fun n => K (.int k n) e
        | false => fInt (min a b) fun n => K (.int k n) e)
      | false => none)
    | _ => none)
  | _ => none

def appendCE (ts : TS) (e : EH) (t u : TypeId) (s x : Operand) (K : AV → EH → Option R) : Option R :=
  match T u with
  | none => none
  | some ui => (match notInt ui.desc with
    | false => none
    | true => evK ts s fun sv => evK ts x fun xv =>
      (match xv with
      | .str _ => (match T t with
        | some ti => (match ti.desc with
          | .slice el => (match T el with
            | some ei => (match Nat.beq ei.size 1 with | true => appendE T e t sv xv fun r e => moveE r e K | false => none)
            | none => none)
          | _ => none)
        | none => none)
      | _ => appendE T e t sv xv fun r e => moveE r e K))

def callCE (ts : TS) (e : EH) (c : Call) (K : AV → EH → Option R) : Option R :=
  match c.callee with
  | .value f => evK ts f fun fv => evsK ts c.args.toList fun as => callVE ih fv as e K
  | .builtin .len => (match c.argTypes.toList, c.args.toList with
    | [t], [x] => evK ts x fun xv => lenE T e t xv fun r => K r e
    | _, _ => none)
  | .builtin .append => (match c.argTypes.toList, c.args.toList with
    | [t, u], [s, x] => appendCE T ts e t u s x K
    | _, _ => none)
  | .builtin .max => (match c.args.toList with
    | [x, y] => evK ts x fun xv => evK ts y fun yv => maxE xv yv e true K
    | _ => none)
  | .builtin .min => (match c.args.toList with
    | [x, y] => evK ts x fun xv => evK ts y fun yv => maxE xv yv e false K
    | _ => none)
  | _ => none

omit [Gl] [Bare] in
theorem gave_went {K : AV → EH → Option R} {e : EH} (he : e.ok) {y : R} {S : (AV → Prop) → Prop} (h : Gave (fun r => K r e) y S) : Went K y fun Q => S fun r => Q r e.abs := by
  obtain ⟨r, h1, h2⟩ := h
  exact ⟨r, e, he, h1, fun Q hq => h2 _ hq⟩

theorem callCE_ok (hX : BareOK P) (hih : ih.OK P) {ts : TS} (ht : okT ts) {e : EH} {c : Call} {K : AV → EH → Option R} {y : R} (he : e.ok) (h : callCE ih T ts e c K = some y) :
    Went K y (callW P T ⟨ts.flatten, e.abs⟩ c) := by
  unfold callCE at h
  split at h
  · rename_i f hc
    rw [evK_eq ht e.abs, evsK_eq ht e.abs] at h
    obtain ⟨r, e', h1, h2, h3⟩ := callVE_ok ih hX hih he h
    exact ⟨r, e', h1, h2, fun Q hq => by simp only [callW, hc]; exact h3 Q hq⟩
  · rename_i hc
    split at h
    · rename_i t x hat hx
      rw [evK_eq ht e.abs] at h
      obtain ⟨r, e', h1, h2, h3⟩ := gave_went he (lenE_ok T he h)
      exact ⟨r, e', h1, h2, fun Q hq => by simp only [callW, hc, hat, hx]; exact h3 Q hq⟩
    · cases h
  · rename_i hc
    split at h
    · rename_i t u s x hat hx
      unfold appendCE at h
      split at h
      · cases h
      · rename_i ui hu
        split at h
        · cases h
        · rename_i hn
          rw [evK_eq ht e.abs, evK_eq ht e.abs] at h
          split at h
          · rename_i b hb
            split at h
            · rename_i ti hti
              split at h
              · rename_i el hd
                split at h
                · rename_i ei hei
                  split at h
                  · rename_i hz
                    rw [Nat.beq_eq] at hz
                    obtain ⟨r0, e0, h1, h2, h3⟩ := appendE_ok T he h
                    obtain ⟨r, e', g1, g2, g3⟩ := moveE_ok h1 h2
                    refine ⟨r, e', g1, g2, fun Q hq => ?_⟩
                    simp only [callW, hc, hat, hx, hti, hu, hd, hei]
                    rw [hb]
                    exact ⟨⟨hn, hz⟩, hb ▸ h3 (fun r h' => Q r h' ∨ moveW h' r Q) (g3 Q hq)⟩
                  · cases h
                · cases h
              · cases h
            · cases h
          · rename_i hns
            obtain ⟨r0, e0, h1, h2, h3⟩ := appendE_ok T he h
            obtain ⟨r, e', g1, g2, g3⟩ := moveE_ok h1 h2
            refine ⟨r, e', g1, g2, fun Q hq => ?_⟩
            have hap := h3 (fun r h' => Q r h' ∨ moveW h' r Q) (g3 Q hq)
            have hd : ∃ ti el ei, T t = some ti ∧ ti.desc = .slice el ∧ T el = some ei := by
              unfold appendW at hap
              split at hap
              · rename_i el sz by' ze cm htt
                split at hap
                · rename_i ei new hei _
                  exact ⟨_, el, ei, htt, rfl, hei⟩
                · exact hap.elim
              · exact hap.elim
            obtain ⟨ti, el, ei, hti, hd, hei⟩ := hd
            simp only [callW, hc, hat, hx, hti, hu, hd, hei]
            refine ⟨⟨hn, ?_⟩, hap⟩
            first
              | trivial
              | (split
                 · rename_i s' hs'; exact (hns s' hs').elim
                 · trivial)
    · cases h
  · rename_i hc
    split at h
    · rename_i x1 x2 hx
      rw [evK_eq ht e.abs, evK_eq ht e.abs] at h
      unfold maxE at h
      split at h
      · rename_i k a h1
        split at h
        · rename_i k' b h2
          split at h
          · rename_i hs
            dsimp only at h
            rw [fInt_eq] at h
            have hs : k = k' := by simpa [sameK] using hs
            refine ⟨_, e, he, h, fun Q hq => ?_⟩
            simp only [callW, hc, hx, h1, h2]
            exact ⟨hs, hq⟩
          · cases h
        · cases h
      · cases h
    · cases h
  · rename_i hc
    split at h
    · rename_i x1 x2 hx
      rw [evK_eq ht e.abs, evK_eq ht e.abs] at h
      unfold maxE at h
      split at h
      · rename_i k a h1
        split at h
        · rename_i k' b h2
          split at h
          · rename_i hs
            dsimp only at h
            rw [fInt_eq] at h
            have hs : k = k' := by simpa [sameK] using hs
            refine ⟨_, e, he, h, fun Q hq => ?_⟩
            simp only [callW, hc, hx, h1, h2]
            exact ⟨hs, hq⟩
          · cases h
        · cases h
      · cases h
    · cases h
  · cases h

def fieldE (t : TypeId) (x : AV) (f : Nat) (K : AV → Option R) : Option R := match fieldA T t x f with | some r => fAV r K | none => none
def pickE (ts : TS) (c : AV) (a b : Operand) (K : AV → Option R) : Option R := match c with
  | .bool t => (match t with | true => evK ts a K | false => evK ts b K)
  | _ => none
def buildE (t : TypeId) (ps : List (Nat × AV)) (K : AV → Option R) : Option R := match buildA T t ps with | some r => fAV r K | none => none
def unE (op : UnOp) (x : AV) (K : AV → Option R) : Option R := match unA op x with | some r => fAV r K | none => none
def extractE (x : AV) (i : Nat) (K : AV → Option R) : Option R := match x with | .tup cs => (match nthL cs i with | some r => K r | none => none) | _ => none
def nilCheckE (e : EH) (x : AV) (K : AV → Option R) : Option R :=
  match x with
  | .ptr b i j => (match e.get b with | some (.rows _ _ _) => K (.ptr b i j) | _ => none)
  | .vp row j => K (.vp row j)
  | .gp g j => K (.gp g j)
  | .fn (.func f) a c => K (.fn (.func f) a c)
  | .yld l => (match e.loop l with | some _ => K (.yld l) | none => none)
  | _ => none

def ifcB : AV → Bool
  | .nili | .ifc _ _ => true
  | _ => false

def binOpE (e : EH) (op : BinOp) (t : TypeId) (ox oy : Operand) (x y : AV) (K : AV → Option R) : Option R :=
  match ifcB x with
  | true => (match nilIfcA T op t ox oy x y with | some r => fAV r K | none => none)
  | false => binE T e op t x y K

/-- What runs an operation. -/
abbrev OpH (R : Type) := IH R → Tab → TS → EH → (AV → EH → Option R) → Option R
def hMove (x : Operand) : OpH R := fun _ _ ts e K => evK ts x fun r => K r e
def hPick (c a b : Operand) : OpH R := fun _ _ ts e K => evK ts c fun c => pickE ts c a b fun r => K r e
def hAlloc (t : TypeId) : OpH R := fun _ T _ e K => allocE T e t K
def hBox (t : TypeId) (x : Operand) : OpH R := fun _ T ts e K => evK ts x fun x => boxE T e t x K
def hBuild (t : TypeId) (ps : Array (Nat × Operand)) : OpH R := fun _ T ts e K => evpK ts ps.toList fun ps => buildE T t ps fun r => K r e
def hBuildSlice (t : TypeId) (n : Nat) (ps : Array (Nat × Operand)) : OpH R := fun _ T ts e K => evpK ts ps.toList fun ps => buildSliceE T e t n ps K
def hLoad (t : TypeId) (a : Operand) : OpH R := fun _ T ts e K => evK ts a fun a => loadE T e t a fun r => K r e
def hStore (t : TypeId) (a x : Operand) : OpH R := fun _ T ts e K => evK ts a fun a => evK ts x fun x => storeE T e t a x K
def hNilCheck (x : Operand) : OpH R := fun _ _ ts e K => evK ts x fun x => nilCheckE e x fun r => K r e
def hBin (op : BinOp) (t : TypeId) (ox oy : Operand) (_ : TypeId) : OpH R := fun _ T ts e K => evK ts ox fun x => evK ts oy fun y => binOpE T e op t ox oy x y fun r => K r e
def hUn (op : UnOp) (_ : TypeId) (x : Operand) : OpH R := fun _ _ ts e K => evK ts x fun x => unE op x fun r => K r e
def hConv (s d : TypeId) (x : Operand) : OpH R := fun _ T ts e K => evK ts x fun x => convAE T e s d x K
def hMakeFunc (f : Fn) (a c : Array Operand) : OpH R := fun _ _ ts e K => evsK ts a.toList fun a => evsK ts c.toList fun c => K (.fn f a c) e
def hMakeSlice (t : TypeId) (l c : Operand) : OpH R := fun _ T ts e K => evK ts l fun l => evK ts c fun c => makeSliceE T e t l c K
def hSlice (t : TypeId) (x : Operand) (lo hi mx : Option Operand) : OpH R := fun _ T ts e K => evK ts x fun x => evoK ts lo fun lo => evoK ts hi fun hi => evoK ts mx fun mx => sliceE T e t x lo hi mx fun r => K r e
def hFieldAddr (t : TypeId) (x : Operand) (f : Nat) : OpH R := fun _ T ts e K => evK ts x fun x => fieldAddrE T e t x f fun r => K r e
def hField (t : TypeId) (x : Operand) (f : Nat) : OpH R := fun _ T ts e K => evK ts x fun x => fieldE T t x f fun r => K r e
def hIndexAddr (t : TypeId) (x i : Operand) : OpH R := fun _ T ts e K => evK ts x fun x => evK ts i fun i => indexAddrE T e t x i fun r => K r e
def hIndex (t : TypeId) (x i : Operand) : OpH R := fun _ T ts e K => evK ts x fun x => evK ts i fun i => indexE T t x i fun r => K r e
def hExtract (x : Operand) (i : Nat) : OpH R := fun _ _ ts e K => evK ts x fun x => extractE x i fun r => K r e
def hCall (c : Call) : OpH R := fun ih T ts e K => callCE ih T ts e c K
def hNone : OpH R := fun _ _ _ _ _ => none

def opSelC (o : Op) : OpH R :=
  match o with
  | .move x => hMove x
  | .assign x => hMove x
  | .pick c a b => hPick c a b
  | .alloc t => hAlloc t
  | .box t x => hBox t x
  | .build t ps => hBuild t ps
  | .buildSlice t n ps => hBuildSlice t n ps
  | .load t a => hLoad t a
  | .store t a x => hStore t a x
  | .nilCheck x => hNilCheck x
  | .binOp op t x y u => hBin op t x y u
  | .unOp op t x => hUn op t x
  | .convert s d x => hConv s d x
  | .makeFunc f a c => hMakeFunc f a c
  | .makeSlice t l c => hMakeSlice t l c
  | .slice t x lo hi mx => hSlice t x lo hi mx
  | .fieldAddr t x f => hFieldAddr t x f
  | .field t x f => hField t x f
  | .indexAddr t x i => hIndexAddr t x i
  | .index t x i => hIndex t x i
  | .extract x i => hExtract x i
  | .call c => hCall c
  | _ => hNone

noncomputable def opSel (o : Op) : OpH R :=
  Op.rec (motive := fun _ => OpH R) hMove hMove hPick hAlloc hBox hBuild hBuildSlice (fun _ _ _ _ => hNone) hLoad hStore (fun _ => hNone) (fun _ => hNone) hNilCheck hBin hUn hConv
    (fun _ _ => hNone) (fun _ _ => hNone) hMakeFunc (fun _ _ => hNone) (fun _ _ => hNone) hMakeSlice hSlice hFieldAddr hField hIndexAddr hIndex (fun _ _ _ _ => hNone) (fun _ _ _ _ => hNone)
    (fun _ _ _ => hNone) (fun _ _ _ _ => hNone) (fun _ _ => hNone) (fun _ _ => hNone) (fun _ => hNone) (fun _ _ _ _ => hNone) hExtract hCall (fun _ => hNone) (fun _ => hNone) (fun _ => hNone)
    (fun _ _ => hNone) (fun _ _ _ => hNone) (fun _ _ => hNone) o

/-- AN OPERATION, RUN. -/
def opE (ts : TS) (e : EH) (o : Oper) (K : AV → EH → Option R) : Option R := opSel o.op ih T ts e K

theorem opE_ok (hX : BareOK P) (hih : ih.OK P) {ts : TS} (ht : okT ts) {e : EH} {o : Oper} {K : AV → EH → Option R} {y : R} (he : e.ok) (h : opE ih T ts e o K = some y) :
    Went K y (opW P T ⟨ts.flatten, e.abs⟩ o) := by
  obtain ⟨dst, op, type, pos, after, guard⟩ := o
  have one : ∀ {r : AV}, K r e = some y → (∀ Q : AV → Heap → Prop, Q r e.abs → opW P T ⟨ts.flatten, e.abs⟩ ⟨dst, op, type, pos, after, guard⟩ Q) → Went K y (opW P T ⟨ts.flatten, e.abs⟩ ⟨dst, op, type, pos, after, guard⟩) :=
    fun h1 h2 => ⟨_, e, he, h1, h2⟩
  have two : ∀ {S : (AV → Heap → Prop) → Prop}, Went K y S → (∀ Q, S Q → opW P T ⟨ts.flatten, e.abs⟩ ⟨dst, op, type, pos, after, guard⟩ Q) → Went K y (opW P T ⟨ts.flatten, e.abs⟩ ⟨dst, op, type, pos, after, guard⟩) :=
    fun ⟨r, e', h1, h2, h3⟩ h4 => ⟨r, e', h1, h2, fun Q hq => h4 Q (h3 Q hq)⟩
  unfold opE at h
  simp only at h
  cases op
  case move x => replace h : hMove x ih T ts e K = some y := h; unfold hMove at h; rw [evK_eq ht e.abs] at h; exact one h fun Q hq => hq
  case assign x => replace h : hMove x ih T ts e K = some y := h; unfold hMove at h; rw [evK_eq ht e.abs] at h; exact one h fun Q hq => hq
  case pick c a b =>
    replace h : hPick c a b ih T ts e K = some y := h
    unfold hPick at h
    rw [evK_eq ht e.abs] at h
    unfold pickE at h
    split at h
    · rename_i t hb
      split at h
      · rw [evK_eq ht e.abs] at h; exact one h fun Q hq => by simp only [opW, hb]; exact hq
      · rw [evK_eq ht e.abs] at h; exact one h fun Q hq => by simp only [opW, hb]; exact hq
    · cases h
  case alloc t => exact two (allocE_ok T he h) fun Q hq => hq
  case box t x => replace h : hBox t x ih T ts e K = some y := h; unfold hBox at h; rw [evK_eq ht e.abs] at h; exact two (boxE_ok T he h) fun Q hq => hq
  case build t ps =>
    replace h : hBuild t ps ih T ts e K = some y := h
    unfold hBuild at h
    rw [evpK_eq ht e.abs] at h
    unfold buildE at h
    split at h
    · rename_i r hr
      rw [fAV_eq] at h
      exact one h fun Q hq => by simp only [opW, hr]; exact hq
    · cases h
  case buildSlice t n ps => replace h : hBuildSlice t n ps ih T ts e K = some y := h; unfold hBuildSlice at h; rw [evpK_eq ht e.abs] at h; exact two (buildSliceE_ok T he h) fun Q hq => hq
  case load t a =>
    replace h : hLoad t a ih T ts e K = some y := h
    unfold hLoad at h
    rw [evK_eq ht e.abs] at h
    obtain ⟨r, h1, h2⟩ := loadE_ok T he h
    exact one h2 fun Q hq => by simp only [opW, h1]; exact hq
  case store t a x =>
    replace h : hStore t a x ih T ts e K = some y := h
    unfold hStore at h
    rw [evK_eq ht e.abs, evK_eq ht e.abs] at h
    obtain ⟨h', e', h1, h2, h3, h4⟩ := storeE_ok T he h
    exact ⟨_, e', h2, h4, fun Q hq => by simp only [opW, h1]; exact h3 ▸ hq⟩
  case nilCheck x =>
    replace h : hNilCheck x ih T ts e K = some y := h
    unfold hNilCheck at h
    rw [evK_eq ht e.abs] at h
    unfold nilCheckE at h
    split at h
    · rename_i b i j hx
      rw [EH.get_abs he] at h
      split at h
      · rename_i hb; exact one h fun Q hq => by simp only [opW, nilCheckW, hx, hb]; exact hq
      · cases h
    · rename_i hx; exact one h fun Q hq => by simp only [opW, nilCheckW, hx]; exact hq
    · rename_i hx; exact one h fun Q hq => by simp only [opW, nilCheckW, hx]; exact hq
    · rename_i hx; exact one h fun Q hq => by simp only [opW, nilCheckW, hx]; exact hq
    · rename_i l hx
      rw [EH.loop_abs] at h
      split at h
      · rename_i hb; exact one h fun Q hq => by simp only [opW, nilCheckW, hx, hb]; exact hq
      · cases h
    · cases h
  case binOp op t ox oy u =>
    replace h : hBin op t ox oy u ih T ts e K = some y := h
    unfold hBin at h
    rw [evK_eq ht e.abs, evK_eq ht e.abs] at h
    unfold binOpE at h
    split at h
    · split at h
      · rename_i r hr
        rw [fAV_eq] at h
        exact one h fun Q hq => .inr ⟨r, hr, hq⟩
      · cases h
    · exact two (gave_went he (binE_ok T he h)) fun Q hq => .inl hq
  case unOp op t x =>
    replace h : hUn op t x ih T ts e K = some y := h
    unfold hUn at h
    rw [evK_eq ht e.abs] at h
    unfold unE at h
    split at h
    · rename_i r hr
      rw [fAV_eq] at h
      exact one h fun Q hq => by simp only [opW, hr]; exact hq
    · cases h
  case convert s d x => replace h : hConv s d x ih T ts e K = some y := h; unfold hConv at h; rw [evK_eq ht e.abs] at h; exact two ((convAE_ok T he h).went he) fun Q hq => hq
  case makeFunc f a c => replace h : hMakeFunc f a c ih T ts e K = some y := h; unfold hMakeFunc at h; rw [evsK_eq ht e.abs, evsK_eq ht e.abs] at h; exact one h fun Q hq => hq
  case makeSlice t l c => replace h : hMakeSlice t l c ih T ts e K = some y := h; unfold hMakeSlice at h; rw [evK_eq ht e.abs, evK_eq ht e.abs] at h; exact two (makeSliceE_ok T he h) fun Q hq => hq
  case slice t x lo hi mx =>
    replace h : hSlice t x lo hi mx ih T ts e K = some y := h
    unfold hSlice at h
    rw [evK_eq ht e.abs, evoK_eq ht e.abs, evoK_eq ht e.abs, evoK_eq ht e.abs] at h
    exact two (gave_went he (sliceE_ok T he h)) fun Q hq => hq
  case fieldAddr t x f =>
    replace h : hFieldAddr t x f ih T ts e K = some y := h
    unfold hFieldAddr at h
    rw [evK_eq ht e.abs] at h
    obtain ⟨r, h1, h2⟩ := fieldAddrE_ok T he h
    exact one h2 fun Q hq => by simp only [opW, h1]; exact hq
  case field t x f =>
    replace h : hField t x f ih T ts e K = some y := h
    unfold hField at h
    rw [evK_eq ht e.abs] at h
    unfold fieldE at h
    split at h
    · rename_i r hr
      rw [fAV_eq] at h
      exact one h fun Q hq => by simp only [opW, hr]; exact hq
    · cases h
  case indexAddr t x i => replace h : hIndexAddr t x i ih T ts e K = some y := h; unfold hIndexAddr at h; rw [evK_eq ht e.abs, evK_eq ht e.abs] at h; exact two (gave_went he (indexAddrE_ok T he h)) fun Q hq => hq
  case index t x i => replace h : hIndex t x i ih T ts e K = some y := h; unfold hIndex at h; rw [evK_eq ht e.abs, evK_eq ht e.abs] at h; exact two (gave_went he (indexE_ok T h)) fun Q hq => hq
  case extract x i =>
    replace h : hExtract x i ih T ts e K = some y := h
    unfold hExtract at h
    rw [evK_eq ht e.abs] at h
    unfold extractE at h
    split at h
    · rename_i cs hx
      rw [nthL_eq] at h
      split at h
      · rename_i r hr
        exact one h fun Q hq => by simp only [opW, hx, hr]; exact hq
      · cases h
    · cases h
  case call c => exact two (callCE_ok ih T hX hih ht he h) fun Q hq => hq
  all_goals exact absurd h (by intro h; cases h)

/-- Operations that may turn the memory. -/
def isWr : Op → Bool
  | .alloc _ | .box _ _ | .buildSlice _ _ _ | .makeSlice _ _ _ | .store _ _ _ => true
  | .call c => (match c.callee with
    | .builtin .len | .builtin .max | .builtin .min => false
    | _ => true)
  | _ => false

theorem opE_quiet {ts : TS} (ht : okT ts) {e : EH} {o : Oper} {K : AV → EH → Option R} {y : R} (he : e.ok) (hw : isWr o.op = false) (h : opE ih T ts e o K = some y) :
    Quiet K e y (opW P T ⟨ts.flatten, e.abs⟩ o) := by
  obtain ⟨dst, op, type, pos, after, guard⟩ := o
  have one : ∀ {r : AV}, K r e = some y → (∀ Q : AV → Heap → Prop, Q r e.abs → opW P T ⟨ts.flatten, e.abs⟩ ⟨dst, op, type, pos, after, guard⟩ Q) → Quiet K e y (opW P T ⟨ts.flatten, e.abs⟩ ⟨dst, op, type, pos, after, guard⟩) :=
    fun h1 h2 => ⟨_, h1, h2⟩
  have two : ∀ {S : (AV → Prop) → Prop}, Gave (fun r => K r e) y S → (∀ Q : AV → Heap → Prop, S (fun r => Q r e.abs) → opW P T ⟨ts.flatten, e.abs⟩ ⟨dst, op, type, pos, after, guard⟩ Q) → Quiet K e y (opW P T ⟨ts.flatten, e.abs⟩ ⟨dst, op, type, pos, after, guard⟩) :=
    fun ⟨r, h1, h3⟩ h4 => ⟨r, h1, fun Q hq => h4 Q (h3 _ hq)⟩
  unfold opE at h
  simp only at h
  cases op
  case move x => replace h : hMove x ih T ts e K = some y := h; unfold hMove at h; rw [evK_eq ht e.abs] at h; exact one h fun Q hq => hq
  case assign x => replace h : hMove x ih T ts e K = some y := h; unfold hMove at h; rw [evK_eq ht e.abs] at h; exact one h fun Q hq => hq
  case pick c a b =>
    replace h : hPick c a b ih T ts e K = some y := h
    unfold hPick at h
    rw [evK_eq ht e.abs] at h
    unfold pickE at h
    split at h
    · rename_i t hb
      split at h
      · rw [evK_eq ht e.abs] at h; exact one h fun Q hq => by simp only [opW, hb]; exact hq
      · rw [evK_eq ht e.abs] at h; exact one h fun Q hq => by simp only [opW, hb]; exact hq
    · cases h
  case alloc t => cases hw
  case box t x => cases hw
  case build t ps =>
    replace h : hBuild t ps ih T ts e K = some y := h
    unfold hBuild at h
    rw [evpK_eq ht e.abs] at h
    unfold buildE at h
    split at h
    · rename_i r hr
      rw [fAV_eq] at h
      exact one h fun Q hq => by simp only [opW, hr]; exact hq
    · cases h
  case buildSlice t n ps => cases hw
  case load t a =>
    replace h : hLoad t a ih T ts e K = some y := h
    unfold hLoad at h
    rw [evK_eq ht e.abs] at h
    obtain ⟨r, h1, h2⟩ := loadE_ok T he h
    exact one h2 fun Q hq => by simp only [opW, h1]; exact hq
  case store t a x => cases hw
  case nilCheck x =>
    replace h : hNilCheck x ih T ts e K = some y := h
    unfold hNilCheck at h
    rw [evK_eq ht e.abs] at h
    unfold nilCheckE at h
    split at h
    · rename_i b i j hx
      rw [EH.get_abs he] at h
      split at h
      · rename_i hb; exact one h fun Q hq => by simp only [opW, nilCheckW, hx, hb]; exact hq
      · cases h
    · rename_i hx; exact one h fun Q hq => by simp only [opW, nilCheckW, hx]; exact hq
    · rename_i hx; exact one h fun Q hq => by simp only [opW, nilCheckW, hx]; exact hq
    · rename_i hx; exact one h fun Q hq => by simp only [opW, nilCheckW, hx]; exact hq
    · rename_i l hx
      rw [EH.loop_abs] at h
      split at h
      · rename_i hb; exact one h fun Q hq => by simp only [opW, nilCheckW, hx, hb]; exact hq
      · cases h
    · cases h
  case binOp op t ox oy u =>
    replace h : hBin op t ox oy u ih T ts e K = some y := h
    unfold hBin at h
    rw [evK_eq ht e.abs, evK_eq ht e.abs] at h
    unfold binOpE at h
    split at h
    · split at h
      · rename_i r hr
        rw [fAV_eq] at h
        exact one h fun Q hq => .inr ⟨r, hr, hq⟩
      · cases h
    · exact two (binE_ok T he h) fun Q hq => .inl hq
  case unOp op t x =>
    replace h : hUn op t x ih T ts e K = some y := h
    unfold hUn at h
    rw [evK_eq ht e.abs] at h
    unfold unE at h
    split at h
    · rename_i r hr
      rw [fAV_eq] at h
      exact one h fun Q hq => by simp only [opW, hr]; exact hq
    · cases h
  case convert s d x => replace h : hConv s d x ih T ts e K = some y := h; unfold hConv at h; rw [evK_eq ht e.abs] at h; exact convAE_ok T he h
  case makeFunc f a c => replace h : hMakeFunc f a c ih T ts e K = some y := h; unfold hMakeFunc at h; rw [evsK_eq ht e.abs, evsK_eq ht e.abs] at h; exact one h fun Q hq => hq
  case makeSlice t l c => cases hw
  case slice t x lo hi mx =>
    replace h : hSlice t x lo hi mx ih T ts e K = some y := h
    unfold hSlice at h
    rw [evK_eq ht e.abs, evoK_eq ht e.abs, evoK_eq ht e.abs, evoK_eq ht e.abs] at h
    exact two (sliceE_ok T he h) fun Q hq => hq
  case fieldAddr t x f =>
    replace h : hFieldAddr t x f ih T ts e K = some y := h
    unfold hFieldAddr at h
    rw [evK_eq ht e.abs] at h
    obtain ⟨r, h1, h2⟩ := fieldAddrE_ok T he h
    exact one h2 fun Q hq => by simp only [opW, h1]; exact hq
  case field t x f =>
    replace h : hField t x f ih T ts e K = some y := h
    unfold hField at h
    rw [evK_eq ht e.abs] at h
    unfold fieldE at h
    split at h
    · rename_i r hr
      rw [fAV_eq] at h
      exact one h fun Q hq => by simp only [opW, hr]; exact hq
    · cases h
  case indexAddr t x i => replace h : hIndexAddr t x i ih T ts e K = some y := h; unfold hIndexAddr at h; rw [evK_eq ht e.abs, evK_eq ht e.abs] at h; exact two (indexAddrE_ok T he h) fun Q hq => hq
  case index t x i => replace h : hIndex t x i ih T ts e K = some y := h; unfold hIndex at h; rw [evK_eq ht e.abs, evK_eq ht e.abs] at h; exact two (indexE_ok T h) fun Q hq => hq
  case extract x i =>
    replace h : hExtract x i ih T ts e K = some y := h
    unfold hExtract at h
    rw [evK_eq ht e.abs] at h
    unfold extractE at h
    split at h
    · rename_i cs hx
      rw [nthL_eq] at h
      split at h
      · rename_i r hr
        exact one h fun Q hq => by simp only [opW, hx, hr]; exact hq
      · cases h
    · cases h
  case call c =>
    replace h : callCE ih T ts e c K = some y := h
    unfold callCE at h
    split at h
    · rename_i f hc; simp [isWr, hc] at hw
    · rename_i hc
      split at h
      · rename_i t x hat hx
        rw [evK_eq ht e.abs] at h
        obtain ⟨r, h1, h2⟩ := lenE_ok T he h
        exact ⟨r, h1, fun Q hq => by simp only [opW, callW, hc, hat, hx]; exact h2 _ hq⟩
      · cases h
    · rename_i hc; simp [isWr, hc] at hw
    · rename_i hc
      split at h
      · rename_i x1 x2 hx
        rw [evK_eq ht e.abs, evK_eq ht e.abs] at h
        unfold maxE at h
        split at h
        · rename_i k a h1
          split at h
          · rename_i k' b h2
            split at h
            · rename_i hs
              dsimp only at h
              rw [fInt_eq] at h
              have hs : k = k' := by simpa [sameK] using hs
              refine ⟨_, h, fun Q hq => ?_⟩
              simp only [opW, callW, hc, hx, h1, h2]
              exact ⟨hs, hq⟩
            · cases h
          · cases h
        · cases h
      · cases h
    · rename_i hc
      split at h
      · rename_i x1 x2 hx
        rw [evK_eq ht e.abs, evK_eq ht e.abs] at h
        unfold maxE at h
        split at h
        · rename_i k a h1
          split at h
          · rename_i k' b h2
            split at h
            · rename_i hs
              dsimp only at h
              rw [fInt_eq] at h
              have hs : k = k' := by simpa [sameK] using hs
              refine ⟨_, h, fun Q hq => ?_⟩
              simp only [opW, callW, hc, hx, h1, h2]
              exact ⟨hs, hq⟩
            · cases h
          · cases h
        · cases h
      · cases h
    · cases h
  all_goals exact absurd h (by intro h; cases h)

end ops
end
end Go.Abs

namespace Go.Abs
noncomputable section
variable [Gl]

section ops
variable [Bare] {R : Type} (ih : IH R) (T : Tab) {P : Program}

abbrev OpsH (R : Type) := IH R → Tab → Array Oper → (AExit → TS → EH → Option R) → TS → EH → Option R

def opsNil : OpsH R := fun _ _ _ K ts e => K .normal ts e
def opsRun (o : Oper) (rest : OpsH R) : OpsH R := fun ih T ops K ts e => opE ih T ts e o fun r e => putK ts o.dst r fun ts => rest ih T ops K ts e
def opsGuard (o : Oper) (rest : OpsH R) : OpsH R := fun ih T ops K ts e => match guardA ops ts.flatten o with
  | none => none
  | some false => putK ts o.dst (.tup []) fun ts => rest ih T ops K ts e
  | some true => opE ih T ts e o fun r e => putK ts o.dst r fun ts => rest ih T ops K ts e
def opsOne (o : Oper) (rest : OpsH R) : OpsH R := match o.guard with
  | none => opsRun o rest
  | some _ => opsGuard o rest

def opsSelC : List Oper → OpsH R
  | [] => opsNil
  | o :: rest => opsOne o (opsSelC rest)
/-- The operations of a region, one after the other. -/
noncomputable def opsSel (l : List Oper) : OpsH R := List.rec (motive := fun _ => OpsH R) opsNil (fun o _ ih => opsOne o ih) l
def opsE (ops : Array Oper) (l : List Oper) (ts : TS) (e : EH) (K : AExit → TS → EH → Option R) : Option R := opsSel l ih T ops K ts e

theorem opsE_ok (hT : TabOK P T) (hX : BareOK P) (hih : ih.OK P) {ops : Array Oper} : ∀ (l : List Oper) (k : Nat) (ts : TS) (e : EH) (K : AExit → TS → EH → Option R) (y : R), ops.toList.drop k = l → e.ok → okT ts → opsE ih T ops l ts e K = some y →
    WentC K y fun Q => ∀ n m rnd, TodoSem P n m rnd [.inRegion ops (List.range' k l.length)] ⟨ts.flatten, e.abs⟩ Q
  | [], k, ts, e, K, y, _, he, ht, h => ⟨.normal, ts, e, he, ht, h, fun Q hq n m rnd => todo_region_end hq⟩
  | o :: l, k, ts, e, K, y, hk, he, ht, h => by
    have hlt : k < ops.toList.length := by
      rcases Nat.lt_or_ge k ops.toList.length with h | h
      · exact h
      · rw [List.drop_eq_nil_of_le h] at hk; cases hk
    rw [List.drop_eq_getElem_cons hlt] at hk
    injection hk with h1 h2
    have ho : ops[k]? = some o := by
      rw [← h1, Array.getElem_toList]
      exact Array.getElem?_eq_getElem (by simpa using hlt)
    rw [List.length_cons, List.range'_succ]
    have run : guardA ops ts.flatten o = some true → (opE ih T ts e o fun r e => putK ts o.dst r fun ts => opsE ih T ops l ts e K) = some y →
        WentC K y fun Q => ∀ n m rnd, TodoSem P n m rnd [.inRegion ops (k :: List.range' (k + 1) l.length)] ⟨ts.flatten, e.abs⟩ Q := fun hg hh => by
      obtain ⟨r, e1, g1, g2, g3⟩ := opE_ok ih T hX hih ht he hh
      replace g2 : putK ts o.dst r (fun ts => opsE ih T ops l ts e1 K) = some y := g2
      obtain ⟨ts1, ht1, hfl, g2⟩ := putK_ok ht g2
      obtain ⟨x, ts2, e2, k1, ht2, k2, k3⟩ := opsE_ok hT hX hih l (k + 1) _ _ K y h2 g1 ht1 g2
      refine ⟨x, ts2, e2, k1, ht2, k2, fun Q hq n m rnd => ?_⟩
      have hop := g3 (fun r h' => TodoSem P n m rnd [.inRegion ops (List.range' (k + 1) l.length)] ⟨aput ts.flatten o.dst r, h'⟩ Q) (hfl ▸ k3 Q hq n m rnd)
      exact todo_op ho hg (opW_noDefer hop) (opW_sound hT hop)
    replace h : opsOne o (opsSel l) ih T ops K ts e = some y := h
    cases hgd : o.guard with
    | none =>
      simp only [opsOne, hgd] at h
      exact run (by simp [guardA, hgd]) h
    | some q =>
      simp only [opsOne, hgd] at h
      unfold opsGuard at h
      split at h
      · cases h
      · rename_i hg
        obtain ⟨ts1, ht1, hfl, h⟩ := putK_ok ht h
        obtain ⟨x, ts2, e2, k1, ht2, k2, k3⟩ := opsE_ok hT hX hih l (k + 1) _ _ K y h2 he ht1 h
        exact ⟨x, ts2, e2, k1, ht2, k2, fun Q hq n m rnd => todo_op_skip ho hg (hfl ▸ k3 Q hq n m rnd)⟩
      · rename_i hg
        exact run hg h

def blockE (id : Nat) (K : AExit → TS → EH → Option R) (x : AExit) (ts : TS) (e : EH) : Option R :=
  match x with
  | .jump (.exit id') => (match Nat.beq id' id with | true => K .normal ts e | false => K (.jump (.exit id')) ts e)
  | x => K x ts e

def rangeDone (l : Nat) (ts : TS) (K : AExit → TS → EH → Option R) (_ : AV) (e : EH) : Option R :=
  match e.loop l with
  | none => none
  | some r => match r.state with
    | .busy => none
    | _ => (match r.pending with
      | none => e.setLoop l none fun e => K .normal ts e
      | some j => (match isJump j with
        | true => e.setLoop l none fun e => K (.jump j) ts e
        | false => none))

def rangeE (rnd : Option Nat) (f : AV) (ps : Array Tmp) (a body : Code) (ts : TS) (e : EH) (K : AExit → TS → EH → Option R) : Option R :=
  match (match rnd with | none => true | some l => (e.loop l).isSome) with
  | false => none
  | true =>
  match f with
  | .fn (.func g) first cap => fNat e.loops.length fun l => fList ts.flatten fun tl => e.pushLoop { state := .ready, pending := none, tmps := tl, params := ps, assign := a, body := body } fun e => fList (first ++ [.yld l] ++ cap) fun args => ih.call g args e (rangeDone l ts K)
  | _ => none

abbrev DrawH (R : Type) := IH R → Array Oper → TS → EH → (AExit → TS → EH → Option R) → Option R
variable (drawE : DrawH R)

/-- What runs a piece of code. -/
abbrev CodeH (R : Type) := IH R → Tab → DrawH R → Option Nat → TS → EH → (AExit → TS → EH → Option R) → Option R
def cSkip : CodeH R := fun _ _ _ _ ts e K => K .normal ts e
def cLabel (_ : Nat) : CodeH R := cSkip
def cRegion (_ : Nat) (ops : Array Oper) (draw : Bool) : CodeH R := fun ih T drawE _ ts e K => match draw with
  | false => opsE ih T ops ops.toList ts e K
  | true => drawE ih ops ts e K
def seqK (ih : IH R) (rnd : Option Nat) (b : Code) (K : AExit → TS → EH → Option R) (x : AExit) (ts : TS) (e : EH) : Option R := match x with
  | .normal => ih.code rnd b ts e K
  | .jump j => K (.jump j) ts e
def cSeq (a b : Code) : CodeH R := fun ih _ _ rnd ts e K => ih.code rnd a ts e (seqK ih rnd b K)
def condK (ih : IH R) (rnd : Option Nat) (a b : Code) (ts : TS) (e : EH) (K : AExit → TS → EH → Option R) (c : AV) : Option R := match c with
  | .bool t => (match t with | true => ih.code rnd a ts e K | false => ih.code rnd b ts e K)
  | _ => none
def cCond (c : Operand) (a b : Code) : CodeH R := fun ih _ _ rnd ts e K => evK ts c (condK ih rnd a b ts e K)
def cBlock (id : Nat) (c : Code) : CodeH R := fun ih _ _ rnd ts e K => ih.code rnd c ts e (blockE id K)
def cLoop (c : Code) : CodeH R := fun ih _ _ rnd ts e K => ih.loop rnd c ts e K
def cExit (id : Nat) : CodeH R := fun _ _ _ _ ts e K => K (.jump (.exit id)) ts e
def cGoto (l : Nat) : CodeH R := fun _ _ _ _ ts e K => K (.jump (.goto l)) ts e
def cRet : CodeH R := fun _ _ _ _ ts e K => K (.jump .ret) ts e
def cScope (c : Code) : CodeH R := fun ih _ _ rnd ts e K => ih.scope rnd c c ts e K
def cRange (f : Operand) (ps : Array Tmp) (a b : Code) : CodeH R := fun ih _ _ rnd ts e K => evK ts f fun f => rangeE ih rnd f ps a b ts e K
def cNone : CodeH R := fun _ _ _ _ _ _ _ => none

def codeSelC (c : Code) : CodeH R :=
  match c with
  | .skip => cSkip
  | .label l => cLabel l
  | .region id ops draw => cRegion id ops draw
  | .seq a b => cSeq a b
  | .cond c a b => cCond c a b
  | .block id c => cBlock id c
  | .loop c => cLoop c
  | .exit id => cExit id
  | .goto l => cGoto l
  | .ret => cRet
  | .scope c => cScope c
  | .rangeFunc f ps a b => cRange f ps a b
  | .refuse _ => cNone

noncomputable def codeSel (c : Code) : CodeH R :=
  Code.rec (motive := fun _ => CodeH R) cSkip cRegion (fun a b _ _ => cSeq a b) (fun c a b _ _ => cCond c a b) (fun id c _ => cBlock id c) (fun c _ => cLoop c) (fun f ps a b _ _ => cRange f ps a b)
    cExit (fun c _ => cScope c) cLabel cGoto cRet (fun _ => cNone) c

/-- CODE, RUN. -/
def codeE (rnd : Option Nat) (c : Code) (ts : TS) (e : EH) (K : AExit → TS → EH → Option R) : Option R := codeSel c ih T drawE rnd ts e K

def loopE (rnd : Option Nat) (c : Code) (ts : TS) (e : EH) (K : AExit → TS → EH → Option R) : Option R :=
  ih.code rnd c ts e fun x ts e => match x with
    | .normal => ih.loop rnd c ts e K
    | .jump j => K (.jump j) ts e

def scopeE (rnd : Option Nat) (c x : Code) (ts : TS) (e : EH) (K : AExit → TS → EH → Option R) : Option R :=
  ih.code rnd x ts e fun x ts e => match x with
    | .jump (.goto l) => (match findLabel c l with
      | some rest => ih.scope rnd c rest ts e K
      | none => K (.jump (.goto l)) ts e)
    | x => K x ts e

structure DrawOK (P : Program) : Prop where
  ok : ∀ (ih : IH R), ih.OK P → ∀ id ops ts e K y, e.ok → okT ts → drawE ih ops ts e K = some y → WentC K y fun Q => ∀ n m rnd, TodoSem P n m rnd [.code (.region id ops true)] ⟨ts.flatten, e.abs⟩ Q

theorem codeE_ok (hT : TabOK P T) (hX : BareOK P) (hd : DrawOK drawE P) (hih : ih.OK P) (rnd : Option Nat) (c : Code) (ts : TS) (e : EH) (K : AExit → TS → EH → Option R) (y : R) (he : e.ok) (ht : okT ts) (h : codeE ih T drawE rnd c ts e K = some y) :
    WentC K y fun Q => ∀ n m, TodoSem P n m rnd [.code c] ⟨ts.flatten, e.abs⟩ Q := by
  unfold codeE at h
  cases c
  case skip => exact ⟨.normal, ts, e, he, ht, h, fun Q hq n m => t_skip hq⟩
  case label => exact ⟨.normal, ts, e, he, ht, h, fun Q hq n m => t_label hq⟩
  case region id ops draw =>
    replace h : cRegion id ops draw ih T drawE rnd ts e K = some y := h
    unfold cRegion at h
    split at h
    · obtain ⟨x, ts', e', h1, ht', h2, h3⟩ := opsE_ok ih T hT hX hih ops.toList 0 ts e K y rfl he ht h
      refine ⟨x, ts', e', h1, ht', h2, fun Q hq n m => t_region ?_⟩
      have := h3 Q hq n m rnd
      rw [Array.length_toList, ← List.range_eq_range'] at this
      exact this
    · obtain ⟨x, ts', e', h1, ht', h2, h3⟩ := hd.ok ih hih id ops ts e K y he ht h
      exact ⟨x, ts', e', h1, ht', h2, fun Q hq n m => h3 Q hq n m rnd⟩
  case seq a b =>
    replace h : ih.code rnd a ts e (seqK ih rnd b K) = some y := h
    obtain ⟨x, ts1, e1, h1, ht1, h2, h3⟩ := hih.code _ _ _ _ _ _ he ht h
    cases x with
    | normal =>
      obtain ⟨x2, ts2, e2, k1, ht2, k2, k3⟩ := hih.code _ _ _ _ _ _ h1 ht1 h2
      exact ⟨x2, ts2, e2, k1, ht2, k2, fun Q hq n m => t_seq (h3 (Then (fun s => TodoSem P n m rnd [.code b] s Q) Q) (k3 Q hq n m) n m)⟩
    | jump j => exact ⟨.jump j, ts1, e1, h1, ht1, h2, fun Q hq n m => t_seq (h3 (Then (fun s => TodoSem P n m rnd [.code b] s Q) Q) hq n m)⟩
  case cond c a b =>
    replace h : evK ts c (condK ih rnd a b ts e K) = some y := h
    rw [evK_eq ht e.abs] at h
    unfold condK at h
    split at h
    · rename_i t hc
      split at h
      · obtain ⟨x2, ts2, e2, k1, ht2, k2, k3⟩ := hih.code _ _ _ _ _ _ he ht h
        exact ⟨x2, ts2, e2, k1, ht2, k2, fun Q hq n m => t_cond hc (k3 Q hq n m)⟩
      · obtain ⟨x2, ts2, e2, k1, ht2, k2, k3⟩ := hih.code _ _ _ _ _ _ he ht h
        exact ⟨x2, ts2, e2, k1, ht2, k2, fun Q hq n m => t_cond hc (k3 Q hq n m)⟩
    · cases h
  case block id c =>
    replace h : ih.code rnd c ts e (blockE id K) = some y := h
    obtain ⟨x, ts1, e1, h1, ht1, h2, h3⟩ := hih.code _ _ _ _ _ _ he ht h
    unfold blockE at h2
    split at h2
    · rename_i id'
      split at h2
      · rename_i hb
        rw [Nat.beq_eq] at hb
        exact ⟨_, ts1, e1, h1, ht1, h2, fun Q hq n m => t_block (h3 (InBlock id Q) (by simp only [InBlock, if_pos hb]; exact hq) n m)⟩
      · rename_i hb
        have hb : ¬ id' = id := fun e => by rw [← Nat.beq_eq] at e; rw [e] at hb; cases hb
        exact ⟨_, ts1, e1, h1, ht1, h2, fun Q hq n m => t_block (h3 (InBlock id Q) (by simp only [InBlock, if_neg hb]; exact hq) n m)⟩
    · rename_i hne
      refine ⟨_, ts1, e1, h1, ht1, h2, fun Q hq n m => t_block (h3 (InBlock id Q) ?_ n m)⟩
      cases x with
      | normal => exact hq
      | jump j => cases j <;> first | exact hq | exact (hne _ rfl).elim
  case loop c =>
    replace h : ih.loop rnd c ts e K = some y := h
    obtain ⟨x2, ts2, e2, k1, ht2, k2, k3⟩ := hih.loop _ _ _ _ _ _ he ht h
    exact ⟨x2, ts2, e2, k1, ht2, k2, fun Q hq n m => t_loop_head (k3 Q hq n m)⟩
  case exit id => exact ⟨.jump (.exit id), ts, e, he, ht, h, fun Q hq n m => t_jump _ trivial hq⟩
  case goto l => exact ⟨.jump (.goto l), ts, e, he, ht, h, fun Q hq n m => t_jump _ trivial hq⟩
  case ret => exact ⟨.jump .ret, ts, e, he, ht, h, fun Q hq n m => t_jump _ trivial hq⟩
  case scope c =>
    replace h : ih.scope rnd c c ts e K = some y := h
    obtain ⟨x2, ts2, e2, k1, ht2, k2, k3⟩ := hih.scope _ _ _ _ _ _ _ he ht h
    exact ⟨x2, ts2, e2, k1, ht2, k2, fun Q hq n m => t_scope (k3 Q hq n m)⟩
  case refuse => exact absurd h (by intro h; cases h)
  case rangeFunc f ps a b =>
    replace h : evK ts f (fun f => rangeE ih rnd f ps a b ts e K) = some y := h
    rw [evK_eq ht e.abs] at h
    unfold rangeE at h
    split at h
    · cases h
    · rename_i hrnd
      split at h
      · rename_i g first cap hf
        rw [fNat_eq, fList_eq] at h
        obtain ⟨e1, g1, g2, g3⟩ := EH.pushLoop_eq he h
        rw [fList_eq] at g3
        obtain ⟨r, e2, k1, k2, k3⟩ := hih.call _ _ _ _ _ g1 g3
        unfold rangeDone at k2
        rw [EH.loop_abs] at k2
        have hl : e.loops.length = e.abs.loops.length := rfl
        have fin : ∀ (Q : AExit → St → Prop) n m, rangeQ ts.flatten e.abs.loops.length Q r e2.abs → TodoSem P n m rnd [.code (.rangeFunc f ps a b)] ⟨ts.flatten, e.abs⟩ Q := fun Q n m hq => by
          refine t_rangeFunc hf (fun l0 hl0 => ?_) ?_
          · subst hl0
            simp only [EH.loop_abs] at hrnd
            exact hrnd
          · have := k3 (rangeQ ts.flatten e.abs.loops.length Q) hq
            rw [g2] at this
            exact this
        split at k2
        · cases k2
        · rename_i r2 hr2
          rw [hl] at hr2 k2
          split at k2
          · cases k2
          · rename_i hst
            split at k2
            · rename_i hp
              obtain ⟨e3, m1, m2, m3⟩ := EH.setLoop_eq k1 k2
              refine ⟨_, ts, e3, m1, ht, m3, fun Q hq n m => fin Q n m ?_⟩
              simp only [rangeQ, hr2, hp]
              exact ⟨hst, m2 ▸ hq⟩
            · rename_i j hp
              split at k2
              · rename_i hj
                obtain ⟨e3, m1, m2, m3⟩ := EH.setLoop_eq k1 k2
                refine ⟨_, ts, e3, m1, ht, m3, fun Q hq n m => fin Q n m ?_⟩
                simp only [rangeQ, hr2, hp]
                exact ⟨hst, hj, m2 ▸ hq⟩
              · cases k2
      · cases h

omit [Bare] in
theorem loopE_ok (hih : ih.OK P) (rnd : Option Nat) (c : Code) (ts : TS) (e : EH) (K : AExit → TS → EH → Option R) (y : R) (he : e.ok) (ht : okT ts) (h : loopE ih rnd c ts e K = some y) :
    WentC K y fun Q => ∀ n m, TodoSem P n m rnd [.inLoop c] ⟨ts.flatten, e.abs⟩ Q := by
  unfold loopE at h
  obtain ⟨x, ts1, e1, h1, ht1, h2, h3⟩ := hih.code _ _ _ _ _ _ he ht h
  cases x with
  | normal =>
    obtain ⟨x2, ts2, e2, k1, ht2, k2, k3⟩ := hih.loop _ _ _ _ _ _ h1 ht1 h2
    exact ⟨x2, ts2, e2, k1, ht2, k2, fun Q hq n m => t_inLoop (h3 (Then (fun s => TodoSem P n m rnd [.inLoop c] s Q) Q) (k3 Q hq n m) n m)⟩
  | jump j => exact ⟨.jump j, ts1, e1, h1, ht1, h2, fun Q hq n m => t_inLoop (h3 (Then (fun s => TodoSem P n m rnd [.inLoop c] s Q) Q) hq n m)⟩

omit [Bare] in
theorem scopeE_ok (hih : ih.OK P) (rnd : Option Nat) (c x : Code) (ts : TS) (e : EH) (K : AExit → TS → EH → Option R) (y : R) (he : e.ok) (ht : okT ts) (h : scopeE ih rnd c x ts e K = some y) :
    WentC K y fun Q => ∀ n m, TodoSem P n m rnd [.code x, .inScope c] ⟨ts.flatten, e.abs⟩ Q := by
  unfold scopeE at h
  obtain ⟨x1, ts1, e1, h1, ht1, h2, h3⟩ := hih.code _ _ _ _ _ _ he ht h
  dsimp only at h2
  split at h2
  · rename_i l
    split at h2
    · rename_i rest hf
      obtain ⟨x2, ts2, e2, k1, ht2, k2, k3⟩ := hih.scope _ _ _ _ _ _ _ h1 ht1 h2
      exact ⟨x2, ts2, e2, k1, ht2, k2, fun Q hq n m => t_inScope (h3 (InScope P n m rnd c Q) (by simp only [InScope, hf]; exact k3 Q hq n m) n m)⟩
    · rename_i hf
      exact ⟨_, ts1, e1, h1, ht1, h2, fun Q hq n m => t_inScope (h3 (InScope P n m rnd c Q) (by simp only [InScope, hf]; exact hq) n m)⟩
  · rename_i hne
    refine ⟨_, ts1, e1, h1, ht1, h2, fun Q hq n m => t_inScope (h3 (InScope P n m rnd c Q) ?_ n m)⟩
    cases x1 with
    | normal => exact hq
    | jump j => cases j <;> first | exact hq | exact (hne _ rfl).elim

/-- The results of a function. -/
def resE (ts : TS) (e : EH) : List ResultVar → (List AV → Option R) → Option R
  | [], K => K []
  | .tmp t :: r, K => tsGet ts t fun x => resE ts e r fun l => K (x :: l)
  | .cell a t :: r, K => tsGet ts a fun x => loadE T e t x fun x => resE ts e r fun l => K (x :: l)

omit [Bare] in
theorem resE_ok {ts : TS} (ht : okT ts) {e : EH} (he : e.ok) : ∀ (rs : List ResultVar) (K : List AV → Option R) (y : R), resE T ts e rs K = some y → ∃ l, resA T ⟨ts.flatten, e.abs⟩ rs = some l ∧ K l = some y
  | [], K, y, h => ⟨[], rfl, h⟩
  | .tmp t :: r, K, y, h => by
    rw [resE, tsGet_eq _ _ _ ht] at h
    obtain ⟨l, h1, h2⟩ := resE_ok ht he r _ y h
    exact ⟨_, by simp only [resA, h1], h2⟩
  | .cell a t :: r, K, y, h => by
    rw [resE, tsGet_eq _ _ _ ht] at h
    obtain ⟨x, h1, h2⟩ := loadE_ok T he h
    obtain ⟨l, h3, h4⟩ := resE_ok ht he r _ y h2
    exact ⟨_, by simp only [resA, h1, h3], h4⟩

def endE (rs : List ResultVar) (K : AV → EH → Option R) (x : AExit) (ts : TS) (e : EH) : Option R :=
  match x with
  | .normal => resE T ts e rs fun l => fAV (packA l) fun r => K r e
  | .jump .ret => resE T ts e rs fun l => fAV (packA l) fun r => K r e
  | _ => none

theorem endE_ok {fn : Func} {K : AV → EH → Option R} {x : AExit} {ts : TS} {e : EH} {y : R} (he : e.ok) (ht : okT ts) (h : endE T fn.results.toList K x ts e = some y) :
    Went K y fun Q => endW T fn Q x ⟨ts.flatten, e.abs⟩ := by
  unfold endE at h
  split at h
  · obtain ⟨l, h1, h2⟩ := resE_ok T ht he _ _ _ h
    rw [fAV_eq] at h2
    exact ⟨_, e, he, h2, fun Q hq => by simp only [endW, h1]; exact hq⟩
  · obtain ⟨l, h1, h2⟩ := resE_ok T ht he _ _ _ h
    rw [fAV_eq] at h2
    exact ⟨_, e, he, h2, fun Q hq => by simp only [endW, h1]; exact hq⟩
  · cases h

/-- A function, as a call needs it. -/
structure Fun where
  body : Code
  ntmps : Nat
  results : List ResultVar

structure FunOK (P : Program) (F : FuncId → Option Fun) : Prop where
  ok : ∀ f x, F f = some x → ∃ fn, P.funcs[f]? = some fn ∧ fn.body = some x.body ∧ (fn.name == "runtime.NumGoroutine") = false ∧ fn.ntmps = x.ntmps ∧ fn.results.toList = x.results

variable (F : FuncId → Option Fun) (M : FuncId → Option (List AV → Option AV))

/-- What is known of calls. -/
structure MemOK (P : Program) (M : FuncId → Option (List AV → Option AV)) : Prop where
  ok : ∀ f g args r, M f = some g → (∀ x ∈ args, Pure x) → g args = some r → PureSem P f args r

def bodyE (f : FuncId) (args : List AV) (e : EH) (K : AV → EH → Option R) : Option R :=
  match F f with
  | none => none
  | some x => chunkK (args ++ List.replicate (x.ntmps - args.length) .junk) fun ts => ih.code none x.body ts e (endE T x.results K)

def knownE (args : List AV) (g : List AV → Option AV) (e : EH) (K : AV → EH → Option R) (no : Unit → Option R) : Option R :=
  frzL (frz 30 e) args fun as => match g as with
    | some r => fAV r fun r => (match plainB 30 r with
      | true => K r e
      | false => (match beqL (beqA 30) args as with | true => K r e | false => no ()))
    | none => no ()

def callE (f : FuncId) (args : List AV) (e : EH) (K : AV → EH → Option R) : Option R :=
  match M f with
  | some g => knownE args g e K (fun _ => bodyE ih T F f args e K)
  | none => bodyE ih T F f args e K

theorem bodyE_ok (hT : TabOK P T) (hF : FunOK P F) (hih : ih.OK P) (f : FuncId) (args : List AV) (e : EH) (K : AV → EH → Option R) (y : R) (he : e.ok) (h : bodyE ih T F f args e K = some y) : Went K y (CallSem P f args e.abs) := by
  unfold bodyE at h
  split at h
  · cases h
  · rename_i x hx
    obtain ⟨fn, f1, f2, f3, f4, f5⟩ := hF.ok f x hx
    obtain ⟨ts0, ht0, hfl, h⟩ := chunkK_ok h
    obtain ⟨ex, ts, e1, h1, ht1, h2, h3⟩ := hih.code _ _ _ _ _ _ he ht0 h
    rw [hfl] at h3
    rw [← f5] at h2
    obtain ⟨r, e2, k1, k2, k3⟩ := endE_ok T h1 ht1 h2
    refine ⟨r, e2, k1, k2, fun Q hq => call_body f1 f2 f3 ?_⟩
    have := h3 (endW T fn Q) (k3 Q hq) e.abs.blks.length e.abs.loops.length
    rw [f4]
    refine this.mono fun e' s hq => ?_
    cases e' with
    | normal =>
      simp only [endW] at hq
      split at hq
      · rename_i l hl
        exact ⟨trivial, _, res_sound hT hl, hq⟩
      · exact hq.elim
    | jump j =>
      cases j <;> simp only [endW] at hq <;> first | (exact hq.elim) | skip
      split at hq
      · rename_i l hl
        exact ⟨trivial, _, res_sound hT hl, hq⟩
      · exact hq.elim

theorem callE_ok (hT : TabOK P T) (hF : FunOK P F) (hM : MemOK P M) (hih : ih.OK P) (f : FuncId) (args : List AV) (e : EH) (K : AV → EH → Option R) (y : R) (he : e.ok) (h : callE ih T F M f args e K = some y) : Went K y (CallSem P f args e.abs) := by
  unfold callE at h
  split at h
  · rename_i g hg
    unfold knownE at h
    obtain ⟨as, h1, h2⟩ := frzL_ok (frz_ok he 30) args _ _ h
    split at h2
    · rename_i r hr
      rw [fAV_eq] at h2
      have hp := hM.ok f g as r hg h1.pure hr
      split at h2
      · rename_i hpl
        exact ⟨r, e, he, h2, fun Q hq => call_borrow h1.len h1.frz hp (plainB_ok _ _ hpl) hq⟩
      · split at h2
        · rename_i hb
          have := beqL_ok (beqA_ok 30) hb
          subst this
          exact ⟨r, e, he, h2, fun Q hq => call_pure h1.pure hp hq⟩
        · exact bodyE_ok ih T F hT hF hih f args e K y he h2
    · exact bodyE_ok ih T F hT hF hih f args e K y he h2
  · exact bodyE_ok ih T F hT hF hih f args e K y he h

/-- THE RUNS, to a depth. -/
def runs : Nat → IH R
  | 0 => { code := fun _ _ _ _ _ => none, loop := fun _ _ _ _ _ => none, scope := fun _ _ _ _ _ _ => none, call := fun _ _ _ _ => none }
  | n + 1 => { code := codeE (runs n) T drawE, loop := loopE (runs n), scope := scopeE (runs n), call := callE (runs n) T F M }

theorem runs_ok (hT : TabOK P T) (hX : BareOK P) (hF : FunOK P F) (hM : MemOK P M) (hd : DrawOK drawE P) : ∀ n, (runs (R := R) T drawE F M n).OK P
  | 0 => ⟨fun _ _ _ _ _ _ _ _ h => (by cases h), fun _ _ _ _ _ _ _ _ h => (by cases h), fun _ _ _ _ _ _ _ _ _ h => (by cases h), fun _ _ _ _ _ _ h => (by cases h)⟩
  | n + 1 => ⟨fun rnd c ts e K y he ht h => codeE_ok _ T drawE hT hX hd (runs_ok hT hX hF hM hd n) rnd c ts e K y he ht h,
      fun rnd c ts e K y he ht h => loopE_ok _ (runs_ok hT hX hF hM hd n) rnd c ts e K y he ht h,
      fun rnd c x ts e K y he ht h => scopeE_ok _ (runs_ok hT hX hF hM hd n) rnd c x ts e K y he ht h,
      fun f args e K y he h => callE_ok _ T F M hT hF hM (runs_ok hT hX hF hM hd n) f args e K y he h⟩

end ops

section top
variable [Bare] (T : Tab) {P : Program} (drawE : DrawH AV) (F : FuncId → Option Fun) (M : FuncId → Option (List AV → Option AV))

/-- A call of nothing but values, run. -/
def runCall (n : Nat) (f : FuncId) (args : List AV) : Option AV :=
  (runs T drawE F M n).call f args ⟨0, [], []⟩ fun r e => frz 30 e r fun r => some r

theorem runCall_ok (hT : TabOK P T) (hX : BareOK P) (hF : FunOK P F) (hM : MemOK P M) (hd : DrawOK drawE P) {n : Nat} {f : FuncId} {args : List AV} {r : AV} (ha : allB (pureB 30) args = true) (h : runCall T drawE F M n f args = some r) : PureSem P f args r := by
  unfold runCall at h
  obtain ⟨r', e, h1, h2, h3⟩ := (runs_ok T drawE F M hT hX hF hM hd n).call f args ⟨0, [], []⟩ _ _ rfl h
  obtain ⟨y, k1, k2, k3⟩ := frz_ok h1 30 _ _ _ h2
  injection k3 with k3; subst k3
  exact pure_of_call (fun x hx => pureB_ok _ _ (allB_ok ha x hx)) k2 (h3 _ k1)

/-- The same, as a test. -/
def callIs (n : Nat) (f : FuncId) (args : List AV) (r : AV) : Bool :=
  match allB (pureB 30) args with
  | true => (match runCall T drawE F M n f args with | some r' => beqA 30 r' r | none => false)
  | false => false

theorem callIs_ok (hT : TabOK P T) (hX : BareOK P) (hF : FunOK P F) (hM : MemOK P M) (hd : DrawOK drawE P) {n : Nat} {f : FuncId} {args : List AV} {r : AV} (h : callIs T drawE F M n f args r = true) : PureSem P f args r := by
  unfold callIs at h
  split at h
  · rename_i ha
    split at h
    · rename_i r' hr
      rw [beqA_ok _ _ _ h] at hr
      exact runCall_ok T drawE F M hT hX hF hM hd ha hr
    · cases h
  · cases h
end top
end
end Go.Abs
