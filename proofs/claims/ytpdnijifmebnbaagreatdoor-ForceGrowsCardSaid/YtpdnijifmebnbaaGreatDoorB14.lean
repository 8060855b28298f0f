/-
  Steps to a law of this program: AbsEval5.
  Conditions: none.
-/
import Derived.Test.YtpdnijifmebnbaaGreatDoorB9
import Derived.Test.YtpdnijifmebnbaaGreatDoorB13
import Derived.Test.YtpdnijifmebnbaaGreatDoorB5
set_option linter.unusedVariables false
set_option linter.unusedSimpArgs false
set_option linter.unusedSectionVars false
namespace Go.Abs
noncomputable section
variable [Gl]

section ops
variable {R : Type}

structure IH (R : Type) where
  code : Option Nat → Code → TS → EH → (AExit → TS → EH → Option R) → Option R
  loop : Option Nat → Code → TS → EH → (AExit → TS → EH → Option R) → Option R
  scope : Option Nat → Code → Code → TS → EH → (AExit → TS → EH → Option R) → Option R
  call : FuncId → List AV → EH → (AV → EH → Option R) → Option R

def WentC (K : AExit → TS → EH → Option R) (y : R) (S : (AExit → St → Prop) → Prop) : Prop :=
  ∃ x ts e, e.ok ∧ okT ts ∧ K x ts e = some y ∧ ∀ Q : AExit → St → Prop, Q x ⟨ts.flatten, e.abs⟩ → S Q

structure IH.OK (P : Program) (ih : IH R) : Prop where
  code : ∀ rnd c ts e K y, e.ok → okT ts → ih.code rnd c ts e K = some y → WentC K y fun Q => ∀ n m, TodoSem P n m rnd [.code c] ⟨ts.flatten, e.abs⟩ Q
  loop : ∀ rnd c ts e K y, e.ok → okT ts → ih.loop rnd c ts e K = some y → WentC K y fun Q => ∀ n m, TodoSem P n m rnd [.inLoop c] ⟨ts.flatten, e.abs⟩ Q
  scope : ∀ rnd c x ts e K y, e.ok → okT ts → ih.scope rnd c x ts e K = some y → WentC K y fun Q => ∀ n m, TodoSem P n m rnd [.code x, .inScope c] ⟨ts.flatten, e.abs⟩ Q
  call : ∀ f args e K y, e.ok → ih.call f args e K = some y → Went K y (CallSem P f args e.abs)

def nthO : List (Option ALoop) → Nat → Option ALoop
  | [], _ => none
  | x :: l, n => match n with | 0 => x | p + 1 => nthO l p
omit [Gl] in
theorem nthO_eq : ∀ (l : List (Option ALoop)) (n : Nat), nthO l n = (l[n]?).join
  | [], _ => by simp [nthO]
  | x :: l, 0 => by simp [nthO]
  | x :: l, n + 1 => by simp only [nthO, nthO_eq l n, List.getElem?_cons_succ]
def EH.loop (e : EH) (l : Nat) : Option ALoop := nthO e.loops l
theorem EH.loop_abs (e : EH) (l : Nat) : e.loop l = e.abs.loop? l := nthO_eq _ _
def EH.setLoop (e : EH) (l : Nat) (r : Option ALoop) (K : EH → Option R) : Option R := setL e.loops l r fun ls => K { n := e.n, rb := e.rb, loops := ls }
theorem EH.setLoop_eq {e : EH} (he : e.ok) {l : Nat} {r : Option ALoop} {K : EH → Option R} {y : R} (h : e.setLoop l r K = some y) : ∃ e', e'.ok ∧ e'.abs = e.abs.setLoop l r ∧ K e' = some y := by
  unfold EH.setLoop at h
  rw [setL_eq] at h
  exact ⟨{ n := e.n, rb := e.rb, loops := e.loops.set l r }, he, rfl, h⟩
def EH.pushLoop (e : EH) (r : ALoop) (K : EH → Option R) : Option R := fList (e.loops ++ [some r]) fun ls => K { n := e.n, rb := e.rb, loops := ls }
theorem EH.pushLoop_eq {e : EH} (he : e.ok) {r : ALoop} {K : EH → Option R} {y : R} (h : e.pushLoop r K = some y) : ∃ e', e'.ok ∧ e'.abs = e.abs.pushLoop r ∧ K e' = some y := by
  unfold EH.pushLoop at h
  rw [fList_eq] at h
  exact ⟨{ n := e.n, rb := e.rb, loops := e.loops ++ [some r] }, he, rfl, h⟩

class Bare where
  ext : FuncId → Option (List AV → Option AV)
  ins : FuncId → Option (Nat × Nat) := fun _ => none

structure BareOK [Bare] (P : Program) : Prop where
  ok : ∀ f g args r, Bare.ext f = some g → g args = some r → ExtSem P f args r
  ins : ∀ f sz bytes, Bare.ins f = some (sz, bytes) → InsSem P f sz bytes := by intro f sz bytes h; cases h

variable [Bare] (ih : IH R) (T : Tab)

def roundE (l : Nat) (x : AExit) (e : EH) (K : AV → EH → Option R) : Option R :=
  match e.loop l with
  | none => none
  | some r => match x with
    | .normal => e.setLoop l (some { r with state := .ready, pending := none }) fun e => K (.bool true) e
    | .jump j => (match isJump j with
      | true => e.setLoop l (some { r with state := .done, pending := some j }) fun e => K (.bool false) e
      | false => none)

def busyE (l : Nat) (body : Code) (ts : TS) (e : EH) (K : AV → EH → Option R) : Option R :=
  match e.loop l with
  | none => none
  | some r => match r.state with
    | .ready => e.setLoop l (some { r with state := .busy, pending := r.pending }) fun e => ih.code (some l) body ts e fun x _ e => roundE l x e K
    | _ => none

def yieldE (l : Nat) (args : List AV) (e : EH) (K : AV → EH → Option R) : Option R :=
  match e.loop l with
  | none => none
  | some r => match Nat.beq args.length r.params.size with
    | true => chunkK (setParams r.tmps r.params.toList args) fun ts => ih.code (some l) r.assign ts e fun x ts e => match x with
      | .normal => busyE ih l r.body ts e K
      | .jump j => roundE l (.jump j) e K
    | false => none

def callVE (f : AV) (args : List AV) (e : EH) (K : AV → EH → Option R) : Option R :=
  match f with
  | .fn (.func g) first cap => fList (first ++ args ++ cap) fun as => match Bare.ext g with
    | none => ih.call g as e K
    | some x => (match x as with | some r => fAV r fun r => K r e | none => none)
  | .yld l => yieldE ih l args e K
  | _ => none

omit [Bare] in
theorem roundE_ok {l : Nat} {x : AExit} {ts : List AV} {e : EH} {K : AV → EH → Option R} {y : R} (he : e.ok) (h : roundE l x e K = some y) :
    Went K y fun Q => roundQ l Q x ⟨ts, e.abs⟩ := by
  unfold roundE at h
  rw [EH.loop_abs] at h
  split at h
  · cases h
  · rename_i r hr
    split at h
    · obtain ⟨e', h1, h2, h3⟩ := EH.setLoop_eq he h
      exact ⟨_, e', h1, h3, fun Q hq => by simp only [roundQ, hr]; exact h2 ▸ hq⟩
    · split at h
      · rename_i hj
        obtain ⟨e', h1, h2, h3⟩ := EH.setLoop_eq he h
        exact ⟨_, e', h1, h3, fun Q hq => by simp only [roundQ, hr]; exact ⟨hj, h2 ▸ hq⟩⟩
      · cases h

variable {P : Program}

theorem yieldE_ok (hih : ih.OK P) {l : Nat} {args : List AV} {e : EH} {K : AV → EH → Option R} {y : R} (he : e.ok) (h : yieldE ih l args e K = some y) :
    Went K y (callV P e.abs (.yld l) args) := by
  unfold yieldE at h
  rw [EH.loop_abs] at h
  split at h
  · cases h
  · rename_i r hr
    split at h
    · rename_i hn
      rw [Nat.beq_eq] at hn
      obtain ⟨ts0, ht0, hfl, h⟩ := chunkK_ok h
      obtain ⟨x, ts, e1, h1, ht1, h2, h3⟩ := hih.code _ _ _ _ _ _ he ht0 h
      rw [hfl] at h3
      have fin : ∀ Q : AV → Heap → Prop, (∀ n m, TodoSem P n m (some l) [.code r.assign, .beginRound, .code r.body] ⟨setParams r.tmps r.params.toList args, e.abs⟩ (roundQ l Q)) → callV P e.abs (.yld l) args Q := fun Q hq => by
        simp only [callV, hr]
        exact ⟨trivial, yield_sem hr hn (hq _ _)⟩
      have app : ∀ (Q : AExit → St → Prop) n m, TodoSem P n m (some l) [.code r.assign] ⟨setParams r.tmps r.params.toList args, e.abs⟩ (Then (fun s => TodoSem P n m (some l) [.beginRound, .code r.body] s Q) Q) →
          TodoSem P n m (some l) [.code r.assign, .beginRound, .code r.body] ⟨setParams r.tmps r.params.toList args, e.abs⟩ Q := fun Q n m hq => todo_append (xs := [.code r.assign]) rfl hq
      cases x with
      | normal =>
        simp only at h2
        unfold busyE at h2
        rw [EH.loop_abs] at h2
        split at h2
        · cases h2
        · rename_i r1 hr1
          split at h2
          · rename_i hst
            obtain ⟨e2, g1, g2, g3⟩ := EH.setLoop_eq h1 h2
            obtain ⟨x3, ts3, e3, k1, _, k2, k3⟩ := hih.code _ _ _ _ _ _ g1 ht1 g3
            obtain ⟨v, e4, m1, m2, m3⟩ := roundE_ok (ts := ts3.flatten) k1 k2
            refine ⟨v, e4, m1, m2, fun Q hq => fin Q fun n m => app _ _ _ (h3 _ ?_ n m)⟩
            show TodoSem P n m (some l) [.beginRound, .code r.body] _ _
            refine todo_append (xs := [.beginRound]) rfl (todo_beginRound hr1 hst ?_)
            show TodoSem P n m (some l) [.code r.body] _ _
            have := k3 (roundQ l Q) (m3 Q hq) n m
            rw [g2] at this
            exact this
          · cases h2
      | jump j =>
        simp only at h2
        obtain ⟨v, e4, m1, m2, m3⟩ := roundE_ok (ts := ts.flatten) h1 h2
        exact ⟨v, e4, m1, m2, fun Q hq => fin Q fun n m => app _ _ _ (h3 (Then (fun s => TodoSem P n m (some l) [.beginRound, .code r.body] s (roundQ l Q)) (roundQ l Q)) (m3 Q hq) n m)⟩
    · cases h

theorem callVE_ok (hX : BareOK P) (hih : ih.OK P) {f : AV} {args : List AV} {e : EH} {K : AV → EH → Option R} {y : R} (he : e.ok) (h : callVE ih f args e K = some y) :
    Went K y (callV P e.abs f args) := by
  unfold callVE at h
  split at h
  · rw [fList_eq] at h
    split at h
    · obtain ⟨r, e', h1, h2, h3⟩ := hih.call _ _ _ _ _ he h
      exact ⟨r, e', h1, h2, fun Q hq => .inl (h3 Q hq)⟩
    · rename_i x hx
      split at h
      · rename_i r hr
        rw [fAV_eq] at h
        exact ⟨r, e, he, h, fun Q hq => .inr ⟨r, hX.ok _ _ _ _ hx hr, hq⟩⟩
      · cases h
  · exact yieldE_ok ih hih he h
  · cases h

def maxE (x y : AV) (e : EH) (big : Bool) (K : AV → EH → Option R) : Option R :=
  match x with
  | .int k a => (match y with
    | .int k' b => (match sameK k k' with
      | true => (match big with
        | true => fInt (max a b) fun n => K (.int k n) e
        | false => fInt (min a b) fun n => K (.int k n) e)
      | false => none)
    | _ => none)
  | _ => none

def winE (s : AV) (e : EH) (K : AV → EH → Option R) : Option R :=
  match s with
  | .ms b i len none => (match e.get b with
    | some (.rows rs g false) => (match Nat.beq i 0 && lenIs rs len with
      | true => K (.ms b i len none) e
      | false => (match Nat.blt 0 len && Nat.ble (i + len) rs.length with
        | true => fList ((rs.drop i).take len) fun rows => e.kill b fun e1 => e1.push (.rows rows false false) fun e2 => K (.ms e1.n 0 len none) e2
        | false => K (.ms b i len none) e))
    | _ => K (.ms b i len none) e)
  | s => K s e
omit [Bare] in
theorem winE_ok {s : AV} {e : EH} (he : e.ok) {K : AV → EH → Option R} {y : R} (h : winE s e K = some y) : ∃ s' e', e'.ok ∧ K s' e' = some y ∧ ((s' = s ∧ e'.abs = e.abs) ∨ windowA e.abs s = some (s', e'.abs)) := by
  unfold winE at h
  split at h
  · rename_i b i len
    rw [EH.get_abs he] at h
    split at h
    · rename_i rs g hb
      split at h
      · exact ⟨_, e, he, h, .inl ⟨rfl, rfl⟩⟩
      · split at h
        · rename_i hc
          rw [fList_eq] at h
          obtain ⟨e1, k1, k2, k3, k4⟩ := EH.kill_ok he h
          obtain ⟨e2, m1, m2, m3⟩ := EH.push_ok k1 k4
          refine ⟨_, e2, m1, m3, .inr ?_⟩
          simp only [windowA, hb, hc]
          rw [m2, k2, k3, EH.len he]
        · exact ⟨_, e, he, h, .inl ⟨rfl, rfl⟩⟩
    · exact ⟨_, e, he, h, .inl ⟨rfl, rfl⟩⟩
  · exact ⟨_, e, he, h, .inl ⟨rfl, rfl⟩⟩

omit [Bare] in
theorem win_or {T : Tab} {h h' : Heap} {t : TypeId} {s s' x : AV} {K : AV → Heap → Prop} (alt : (s' = s ∧ h' = h) ∨ windowA h s = some (s', h')) (hap : appendW T h' t s' x K) : appendW2 T h t s x K := by
  rcases alt with ⟨h1, h2⟩ | hw
  · subst h1; subst h2; exact .inl hap
  · exact .inr (.inl ⟨_, _, hw, hap⟩)

def emptyIs (s : AV) : Option (Nat × Nat) := match s with
  | .ms b i 0 none => some (b, i)
  | _ => none
def emptyE (e : EH) (t : TypeId) (b i : Nat) (x : AV) (K : AV → EH → Option R) : Option R :=
  match T t with
  | none => none
  | some ti => match ti.desc with
    | .slice el => (match T el with
      | none => none
      | some ei => match rowsE e x with
        | none => none
        | some new => fList new fun new => match Nat.blt 0 ei.size && Nat.blt 0 ei.bytes && goodRows ei.size new with
          | false => none
          | true => (match e.get b with
            | some (.rows (r :: _) _ false) => (match new with
              | [] => K (.ms b i 0 none) e
              | a :: l => (match lenIs r ei.size && Nat.ble ((a :: l).length * ei.bytes) 140737488355328 with
                | true => fNat (a :: l).length fun n => e.kill b fun e1 => e1.push (.rows (a :: l) true false) fun e2 => K (.ms e1.n 0 n none) e2
                | false => none))
            | _ => none))
    | _ => none
omit [Bare] in
theorem emptyE_ok {e : EH} (he : e.ok) {t : TypeId} {b i : Nat} {x : AV} {K : AV → EH → Option R} {y : R} (h : emptyE T e t b i x K = some y) :
    (∃ ti el ei, T t = some ti ∧ ti.desc = .slice el ∧ T el = some ei) ∧ Went K y (appendW2 T e.abs t (.ms b i 0 none) x) := by
  unfold emptyE at h
  split at h
  · cases h
  rename_i ti ht
  split at h
  rotate_left
  · cases h
  rename_i el hd
  obtain ⟨d, sz, by', ze, cm⟩ := ti
  simp only at hd; subst hd
  split at h
  · cases h
  rename_i ei hei
  split at h
  · cases h
  rename_i new hnew
  rw [fList_eq] at h
  have hnew := rowsE_eq he hnew
  split at h
  · cases h
  rename_i hc
  simp only [Bool.and_eq_true, Nat.blt_eq] at hc
  obtain ⟨⟨hc1, hc2⟩, hc3⟩ := hc
  have hc3 := goodRows_ok hc3
  rw [EH.get_abs he] at h
  split at h
  rotate_left
  · cases h
  rename_i r rest g hbl
  refine ⟨⟨_, _, _, ht, rfl, hei⟩, ?_⟩
  split at h
  · refine ⟨_, e, he, h, fun Q hq => .inl ?_⟩
    simp only [appendW, ht, hei, hnew, hbl, List.length_nil, if_true]
    exact ⟨⟨hc1, hc2⟩, hc3, hq⟩
  · rename_i a l
    split at h
    rotate_left
    · cases h
    rename_i hz
    simp only [Bool.and_eq_true, Nat.ble_eq, lenIs_eq] at hz
    rw [fNat_eq] at h
    obtain ⟨e1, k1, k2, k3, k4⟩ := EH.kill_ok he h
    obtain ⟨e2, m1, m2, m3⟩ := EH.push_ok k1 k4
    refine ⟨_, e2, m1, m3, fun Q hq => .inr (.inr ?_)⟩
    simp only [emptyW, hbl, ht, hei, hnew]
    refine ⟨⟨hc1, hc2⟩, hc3, by simp, ⟨r, rest, rfl, beq_iff_eq.1 hz.1⟩, hz.2, ?_⟩
    rw [m2, k2, k3, ← EH.len he] at hq
    exact hq

def appendCE (ts : TS) (e : EH) (t u : TypeId) (s x : Operand) (K : AV → EH → Option R) : Option R :=
  match T u with
  | none => none
  | some ui => (match notInt ui.desc with
    | false => none
    | true => evK ts s fun sv => evK ts x fun xv =>
      (match xv with
      | .str _ => (match T t with
        | some ti => (match ti.desc with
          | .slice el => (match T el with
            | some ei => (match Nat.beq ei.size 1 with | true => winE sv e fun sv e => appendE T e t sv xv fun r e => moveE r e K | false => none)
            | none => none)
          | _ => none)
        | none => none)
      | _ => (match emptyIs sv with
        | some (b, i) => emptyE T e t b i xv K
        | none => winE sv e fun sv e => appendE T e t sv xv fun r e => moveE r e K)))

def callCE (ts : TS) (e : EH) (c : Call) (K : AV → EH → Option R) : Option R :=
  match c.callee with
  | .value f => evK ts f fun fv => evsK ts c.args.toList fun as => callVE ih fv as e K
  | .builtin .len => (match c.argTypes.toList, c.args.toList with
    | [t], [x] => evK ts x fun xv => lenE T e t xv fun r => K r e
    | _, _ => none)
  | .builtin .append => (match c.argTypes.toList, c.args.toList with
    | [t, u], [s, x] => appendCE T ts e t u s x K
    | _, _ => none)
  | .builtin .copy => (match c.argTypes.toList, c.args.toList with
    | [t, _], [d, x] => evK ts d fun dv => evK ts x fun xv => copyE T e t dv xv K
    | _, _ => none)
  | .builtin .max => (match c.args.toList with
    | [x, y] => evK ts x fun xv => evK ts y fun yv => maxE xv yv e true K
    | _ => none)
  | .builtin .min => (match c.args.toList with
    | [x, y] => evK ts x fun xv => evK ts y fun yv => maxE xv yv e false K
    | _ => none)
  | _ => none

omit [Gl] [Bare] in
theorem gave_went {K : AV → EH → Option R} {e : EH} (he : e.ok) {y : R} {S : (AV → Prop) → Prop} (h : Gave (fun r => K r e) y S) : Went K y fun Q => S fun r => Q r e.abs := by
  obtain ⟨r, h1, h2⟩ := h
  exact ⟨r, e, he, h1, fun Q hq => h2 _ hq⟩

theorem callCE_ok (hX : BareOK P) (hih : ih.OK P) {ts : TS} (ht : okT ts) {e : EH} {c : Call} {K : AV → EH → Option R} {y : R} (he : e.ok) (h : callCE ih T ts e c K = some y) :
    Went K y (callW P T ⟨ts.flatten, e.abs⟩ c) := by
  unfold callCE at h
  split at h
  · rename_i f hc
    rw [evK_eq ht e.abs, evsK_eq ht e.abs] at h
    obtain ⟨r, e', h1, h2, h3⟩ := callVE_ok ih hX hih he h
    exact ⟨r, e', h1, h2, fun Q hq => by simp only [callW, hc]; exact h3 Q hq⟩
  · rename_i hc
    split at h
    · rename_i t x hat hx
      rw [evK_eq ht e.abs] at h
      obtain ⟨r, e', h1, h2, h3⟩ := gave_went he (lenE_ok T he h)
      exact ⟨r, e', h1, h2, fun Q hq => by simp only [callW, hc, hat, hx]; exact h3 Q hq⟩
    · cases h
  · rename_i hc
    split at h
    · rename_i t u s x hat hx
      unfold appendCE at h
      split at h
      · cases h
      · rename_i ui hu
        split at h
        · cases h
        · rename_i hn
          rw [evK_eq ht e.abs, evK_eq ht e.abs] at h
          split at h
          · rename_i b hb
            split at h
            · rename_i ti hti
              split at h
              · rename_i el hd
                split at h
                · rename_i ei hei
                  split at h
                  · rename_i hz
                    rw [Nat.beq_eq] at hz
                    obtain ⟨s', e2, he2, h, alt⟩ := winE_ok he h
                    obtain ⟨r0, e0, h1, h2, h3⟩ := appendE_ok T he2 h
                    obtain ⟨r, e', g1, g2, g3⟩ := moveE_ok h1 h2
                    refine ⟨r, e', g1, g2, fun Q hq => ?_⟩
                    have hap := h3 (fun r h' => Q r h' ∨ moveW h' r Q) (g3 Q hq)
                    have hap2 := win_or alt hap
                    rw [hb] at hap2
                    simp only [callW, hc, hat, hx, hti, hu, hd, hei]
                    rw [hb]
                    exact ⟨⟨hn, hz⟩, hap2⟩
                  · cases h
                · cases h
              · cases h
            · cases h
          · rename_i hns
            split at h
            · rename_i b0 i0 hem
              have hsv : (⟨ts.flatten, e.abs⟩ : St).ev s = .ms b0 i0 0 none := by
                unfold emptyIs at hem
                split at hem
                · rename_i hs0; injection hem with hem; injection hem with h1 h2; subst h1; subst h2; exact hs0
                · cases hem
              obtain ⟨hd, r, e', g1, g2, g3⟩ := emptyE_ok T he h
              refine ⟨r, e', g1, g2, fun Q hq => ?_⟩
              have hap2 := g3 (fun r h' => Q r h' ∨ moveW h' r Q) (.inl hq)
              rw [← hsv] at hap2
              obtain ⟨ti, el, ei, hti, hd, hei⟩ := hd
              simp only [callW, hc, hat, hx, hti, hu, hd, hei]
              refine ⟨⟨hn, ?_⟩, hap2⟩
              first
                | trivial
                | (split
                   · rename_i s' hs'; exact (hns s' hs').elim
                   · trivial)
            obtain ⟨s', e2, he2, h, alt⟩ := winE_ok he h
            obtain ⟨r0, e0, h1, h2, h3⟩ := appendE_ok T he2 h
            obtain ⟨r, e', g1, g2, g3⟩ := moveE_ok h1 h2
            refine ⟨r, e', g1, g2, fun Q hq => ?_⟩
            have hap := h3 (fun r h' => Q r h' ∨ moveW h' r Q) (g3 Q hq)
            have hap2 := win_or alt hap
            have hd : ∃ ti el ei, T t = some ti ∧ ti.desc = .slice el ∧ T el = some ei := by
              unfold appendW at hap
              split at hap
              · rename_i el sz by' ze cm htt
                split at hap
                · rename_i ei new hei _
                  exact ⟨_, el, ei, htt, rfl, hei⟩
                · exact hap.elim
              · exact hap.elim
            obtain ⟨ti, el, ei, hti, hd, hei⟩ := hd
            simp only [callW, hc, hat, hx, hti, hu, hd, hei]
            refine ⟨⟨hn, ?_⟩, hap2⟩
            first
              | trivial
              | (split
                 · rename_i s' hs'; exact (hns s' hs').elim
                 · trivial)
    · cases h
  · rename_i hc
    split at h
    · rename_i t u d x hat hx
      rw [evK_eq ht e.abs, evK_eq ht e.abs] at h
      obtain ⟨r, e', h1, h2, h3⟩ := copyE_ok T he h
      exact ⟨r, e', h1, h2, fun Q hq => by simp only [callW, hc, hat, hx]; exact h3 Q hq⟩
    · cases h
  · rename_i hc
    split at h
    · rename_i x1 x2 hx
      rw [evK_eq ht e.abs, evK_eq ht e.abs] at h
      unfold maxE at h
      split at h
      · rename_i k a h1
        split at h
        · rename_i k' b h2
          split at h
          · rename_i hs
            dsimp only at h
            rw [fInt_eq] at h
            have hs : k = k' := by simpa [sameK] using hs
            refine ⟨_, e, he, h, fun Q hq => ?_⟩
            simp only [callW, hc, hx, h1, h2]
            exact ⟨hs, hq⟩
          · cases h
        · cases h
      · cases h
    · cases h
  · rename_i hc
    split at h
    · rename_i x1 x2 hx
      rw [evK_eq ht e.abs, evK_eq ht e.abs] at h
      unfold maxE at h
      split at h
      · rename_i k a h1
        split at h
        · rename_i k' b h2
          split at h
          · rename_i hs
            dsimp only at h
            rw [fInt_eq] at h
            have hs : k = k' := by simpa [sameK] using hs
            refine ⟨_, e, he, h, fun Q hq => ?_⟩
            simp only [callW, hc, hx, h1, h2]
            exact ⟨hs, hq⟩
          · cases h
        · cases h
      · cases h
    · cases h
  · cases h

def fieldE (t : TypeId) (x : AV) (f : Nat) (K : AV → Option R) : Option R := match fieldA T t x f with | some r => fAV r K | none => none
def pickE (ts : TS) (c : AV) (a b : Operand) (K : AV → Option R) : Option R := match c with
  | .bool t => (match t with | true => evK ts a K | false => evK ts b K)
  | _ => none
def buildE (t : TypeId) (ps : List (Nat × AV)) (K : AV → Option R) : Option R := match buildA T t ps with | some r => fAV r K | none => none
def unE (op : UnOp) (x : AV) (K : AV → Option R) : Option R := match unA op x with | some r => fAV r K | none => none
def extractE (x : AV) (i : Nat) (K : AV → Option R) : Option R := match x with | .tup cs => (match nthL cs i with | some r => K r | none => none) | _ => none
def nilCheckE (e : EH) (x : AV) (K : AV → Option R) : Option R :=
  match x with
  | .ptr b i j => (match e.get b with | some (.rows _ _ _) => K (.ptr b i j) | _ => none)
  | .vp row j => K (.vp row j)
  | .gp g j => K (.gp g j)
  | .fn (.func f) a c => K (.fn (.func f) a c)
  | .yld l => (match e.loop l with | some _ => K (.yld l) | none => none)
  | _ => none

def ifcB : AV → Bool
  | .nili | .ifc _ _ => true
  | _ => false

def ptrB (x y : AV) : Bool := match x with
  | .ptr _ _ _ => (match y with | .ptr _ _ _ => true | _ => false)
  | _ => false
def ptrE (e : EH) (op : BinOp) (t : TypeId) (x y : AV) : Option AV := ptrG T e.get op t x y
theorem ptrE_eq {e : EH} (he : e.ok) {op : BinOp} {t : TypeId} {x y : AV} : ptrE T e op t x y = ptrA T e.abs op t x y := by
  unfold ptrE ptrA
  rw [show e.get = e.abs.blk? from funext (EH.get_abs he)]

def binOpE (e : EH) (op : BinOp) (t : TypeId) (ox oy : Operand) (x y : AV) (K : AV → Option R) : Option R :=
  match ifcB x with
  | true => (match nilIfcA T op t ox oy x y with | some r => fAV r K | none => none)
  | false => (match ptrB x y with
    | true => (match ptrE T e op t x y with | some r => fAV r K | none => none)
    | false => binE T e op t x y K)

abbrev OpH (R : Type) := IH R → Tab → TS → EH → (AV → EH → Option R) → Option R
def hMove (x : Operand) : OpH R := fun _ _ ts e K => evK ts x fun r => K r e
def hPick (c a b : Operand) : OpH R := fun _ _ ts e K => evK ts c fun c => pickE ts c a b fun r => K r e
def hAlloc (t : TypeId) : OpH R := fun _ T _ e K => allocE T e t K
def hBox (t : TypeId) (x : Operand) : OpH R := fun _ T ts e K => evK ts x fun x => boxE T e t x K
def hBuild (t : TypeId) (ps : Array (Nat × Operand)) : OpH R := fun _ T ts e K => evpK ts ps.toList fun ps => buildE T t ps fun r => K r e
def hBuildSlice (t : TypeId) (n : Nat) (ps : Array (Nat × Operand)) : OpH R := fun _ T ts e K => evpK ts ps.toList fun ps => buildSliceE T e t n ps K
def hLoad (t : TypeId) (a : Operand) : OpH R := fun _ T ts e K => evK ts a fun a => loadE T e t a fun r => K r e
def hStore (t : TypeId) (a x : Operand) : OpH R := fun _ T ts e K => evK ts a fun a => evK ts x fun x => storeE T e t a x K
def hNilCheck (x : Operand) : OpH R := fun _ _ ts e K => evK ts x fun x => nilCheckE e x fun r => K r e
def hBin (op : BinOp) (t : TypeId) (ox oy : Operand) (_ : TypeId) : OpH R := fun _ T ts e K => evK ts ox fun x => evK ts oy fun y => binOpE T e op t ox oy x y fun r => K r e
def hUn (op : UnOp) (_ : TypeId) (x : Operand) : OpH R := fun _ _ ts e K => evK ts x fun x => unE op x fun r => K r e
def hConv (s d : TypeId) (x : Operand) : OpH R := fun _ T ts e K => evK ts x fun x => convAE T e s d x K
def hMakeFunc (f : Fn) (a c : Array Operand) : OpH R := fun _ _ ts e K => evsK ts a.toList fun a => evsK ts c.toList fun c => K (.fn f a c) e
def hMakeSlice (t : TypeId) (l c : Operand) : OpH R := fun _ T ts e K => evK ts l fun l => evK ts c fun c => makeSliceE T e t l c K
def hSlice (t : TypeId) (x : Operand) (lo hi mx : Option Operand) : OpH R := fun _ T ts e K => evK ts x fun x => evoK ts lo fun lo => evoK ts hi fun hi => evoK ts mx fun mx => sliceE T e t x lo hi mx fun r => K r e
def hFieldAddr (t : TypeId) (x : Operand) (f : Nat) : OpH R := fun _ T ts e K => evK ts x fun x => fieldAddrE T e t x f fun r => K r e
def hField (t : TypeId) (x : Operand) (f : Nat) : OpH R := fun _ T ts e K => evK ts x fun x => fieldE T t x f fun r => K r e
def hIndexAddr (t : TypeId) (x i : Operand) : OpH R := fun _ T ts e K => evK ts x fun x => evK ts i fun i => indexAddrE T e t x i fun r => K r e
def hIndex (t : TypeId) (x i : Operand) : OpH R := fun _ T ts e K => evK ts x fun x => evK ts i fun i => indexE T t x i fun r => K r e
def hExtract (x : Operand) (i : Nat) : OpH R := fun _ _ ts e K => evK ts x fun x => extractE x i fun r => K r e
def hCall (c : Call) : OpH R := fun ih T ts e K => callCE ih T ts e c K
def hNone : OpH R := fun _ _ _ _ _ => none
def hMakeMap (_ : TypeId) (r : Option Operand) : OpH R := fun _ _ _ e K => match r with | none => e.push (.mapb []) fun e' => K (.mp e.n) e' | some _ => none
def hLookup (t : TypeId) (x i : Operand) (c : Bool) : OpH R := fun _ T ts e K => evK ts x fun x => evK ts i fun i => lookupE T e t x i c fun r => K r e
def hMapUpd (t : TypeId) (m k x : Operand) : OpH R := fun _ T ts e K => evK ts m fun m => evK ts k fun k => evK ts x fun x => mapUpdateE T e t m k x K

def opSelC (o : Op) : OpH R :=
  match o with
  | .move x => hMove x
  | .assign x => hMove x
  | .pick c a b => hPick c a b
  | .alloc t => hAlloc t
  | .box t x => hBox t x
  | .build t ps => hBuild t ps
  | .buildSlice t n ps => hBuildSlice t n ps
  | .load t a => hLoad t a
  | .store t a x => hStore t a x
  | .nilCheck x => hNilCheck x
  | .binOp op t x y u => hBin op t x y u
  | .unOp op t x => hUn op t x
  | .convert s d x => hConv s d x
  | .makeFunc f a c => hMakeFunc f a c
  | .makeSlice t l c => hMakeSlice t l c
  | .slice t x lo hi mx => hSlice t x lo hi mx
  | .fieldAddr t x f => hFieldAddr t x f
  | .field t x f => hField t x f
  | .indexAddr t x i => hIndexAddr t x i
  | .index t x i => hIndex t x i
  | .extract x i => hExtract x i
  | .call c => hCall c
  | .makeMap t r => hMakeMap t r
  | .lookup t x i c => hLookup t x i c
  | .mapUpdate t m k x => hMapUpd t m k x
  | .insert t m k x => hMapUpd t m k x
  | _ => hNone

noncomputable def opSel (o : Op) : OpH R :=
  Op.rec (motive := fun _ => OpH R) hMove hMove hPick hAlloc hBox hBuild hBuildSlice hMapUpd hLoad hStore (fun _ => hNone) (fun _ => hNone) hNilCheck hBin hUn hConv
    (fun _ _ => hNone) (fun _ _ => hNone) hMakeFunc hMakeMap (fun _ _ => hNone) hMakeSlice hSlice hFieldAddr hField hIndexAddr hIndex hLookup hMapUpd
    (fun _ _ _ => hNone) (fun _ _ _ _ => hNone) (fun _ _ => hNone) (fun _ _ => hNone) (fun _ => hNone) (fun _ _ _ _ => hNone) hExtract hCall (fun _ => hNone) (fun _ => hNone) (fun _ => hNone)
    (fun _ _ => hNone) (fun _ _ _ => hNone) (fun _ _ => hNone) o

def opE (ts : TS) (e : EH) (o : Oper) (K : AV → EH → Option R) : Option R := opSel o.op ih T ts e K

theorem opE_ok (hX : BareOK P) (hih : ih.OK P) {ts : TS} (ht : okT ts) {e : EH} {o : Oper} {K : AV → EH → Option R} {y : R} (he : e.ok) (h : opE ih T ts e o K = some y) :
    Went K y (opW P T ⟨ts.flatten, e.abs⟩ o) := by
  obtain ⟨dst, op, type, pos, after, guard⟩ := o
  have one : ∀ {r : AV}, K r e = some y → (∀ Q : AV → Heap → Prop, Q r e.abs → opW P T ⟨ts.flatten, e.abs⟩ ⟨dst, op, type, pos, after, guard⟩ Q) → Went K y (opW P T ⟨ts.flatten, e.abs⟩ ⟨dst, op, type, pos, after, guard⟩) :=
    fun h1 h2 => ⟨_, e, he, h1, h2⟩
  have two : ∀ {S : (AV → Heap → Prop) → Prop}, Went K y S → (∀ Q, S Q → opW P T ⟨ts.flatten, e.abs⟩ ⟨dst, op, type, pos, after, guard⟩ Q) → Went K y (opW P T ⟨ts.flatten, e.abs⟩ ⟨dst, op, type, pos, after, guard⟩) :=
    fun ⟨r, e', h1, h2, h3⟩ h4 => ⟨r, e', h1, h2, fun Q hq => h4 Q (h3 Q hq)⟩
  unfold opE at h
  simp only at h
  cases op
  case move x => replace h : hMove x ih T ts e K = some y := h; unfold hMove at h; rw [evK_eq ht e.abs] at h; exact one h fun Q hq => hq
  case assign x => replace h : hMove x ih T ts e K = some y := h; unfold hMove at h; rw [evK_eq ht e.abs] at h; exact one h fun Q hq => hq
  case pick c a b =>
    replace h : hPick c a b ih T ts e K = some y := h
    unfold hPick at h
    rw [evK_eq ht e.abs] at h
    unfold pickE at h
    split at h
    · rename_i t hb
      split at h
      · rw [evK_eq ht e.abs] at h; exact one h fun Q hq => by simp only [opW, hb]; exact hq
      · rw [evK_eq ht e.abs] at h; exact one h fun Q hq => by simp only [opW, hb]; exact hq
    · cases h
  case alloc t => exact two (allocE_ok T he h) fun Q hq => hq
  case box t x => replace h : hBox t x ih T ts e K = some y := h; unfold hBox at h; rw [evK_eq ht e.abs] at h; exact two (boxE_ok T he h) fun Q hq => hq
  case build t ps =>
    replace h : hBuild t ps ih T ts e K = some y := h
    unfold hBuild at h
    rw [evpK_eq ht e.abs] at h
    unfold buildE at h
    split at h
    · rename_i r hr
      rw [fAV_eq] at h
      exact one h fun Q hq => by simp only [opW, hr]; exact hq
    · cases h
  case buildSlice t n ps => replace h : hBuildSlice t n ps ih T ts e K = some y := h; unfold hBuildSlice at h; rw [evpK_eq ht e.abs] at h; exact two (buildSliceE_ok T he h) fun Q hq => hq
  case load t a =>
    replace h : hLoad t a ih T ts e K = some y := h
    unfold hLoad at h
    rw [evK_eq ht e.abs] at h
    obtain ⟨r, h1, h2⟩ := loadE_ok T he h
    exact one h2 fun Q hq => by simp only [opW, h1]; exact hq
  case store t a x =>
    replace h : hStore t a x ih T ts e K = some y := h
    unfold hStore at h
    rw [evK_eq ht e.abs, evK_eq ht e.abs] at h
    obtain ⟨h', e', h1, h2, h3, h4⟩ := storeE_ok T he h
    exact ⟨_, e', h2, h4, fun Q hq => by simp only [opW, h1]; exact h3 ▸ hq⟩
  case nilCheck x =>
    replace h : hNilCheck x ih T ts e K = some y := h
    unfold hNilCheck at h
    rw [evK_eq ht e.abs] at h
    unfold nilCheckE at h
    split at h
    · rename_i b i j hx
      rw [EH.get_abs he] at h
      split at h
      · rename_i hb; exact one h fun Q hq => by simp only [opW, nilCheckW, hx, hb]; exact hq
      · cases h
    · rename_i hx; exact one h fun Q hq => by simp only [opW, nilCheckW, hx]; exact hq
    · rename_i hx; exact one h fun Q hq => by simp only [opW, nilCheckW, hx]; exact hq
    · rename_i hx; exact one h fun Q hq => by simp only [opW, nilCheckW, hx]; exact hq
    · rename_i l hx
      rw [EH.loop_abs] at h
      split at h
      · rename_i hb; exact one h fun Q hq => by simp only [opW, nilCheckW, hx, hb]; exact hq
      · cases h
    · cases h
  case binOp op t ox oy u =>
    replace h : hBin op t ox oy u ih T ts e K = some y := h
    unfold hBin at h
    rw [evK_eq ht e.abs, evK_eq ht e.abs] at h
    unfold binOpE at h
    split at h
    · split at h
      · rename_i r hr
        rw [fAV_eq] at h
        exact one h fun Q hq => .inr ⟨r, .inl hr, hq⟩
      · cases h
    · split at h
      · split at h
        · rename_i r hr
          rw [fAV_eq] at h
          rw [ptrE_eq T he] at hr
          exact one h fun Q hq => .inr ⟨r, .inr hr, hq⟩
        · cases h
      · exact two (gave_went he (binE_ok T he h)) fun Q hq => .inl hq
  case unOp op t x =>
    replace h : hUn op t x ih T ts e K = some y := h
    unfold hUn at h
    rw [evK_eq ht e.abs] at h
    unfold unE at h
    split at h
    · rename_i r hr
      rw [fAV_eq] at h
      exact one h fun Q hq => by simp only [opW, hr]; exact hq
    · cases h
  case convert s d x => replace h : hConv s d x ih T ts e K = some y := h; unfold hConv at h; rw [evK_eq ht e.abs] at h; exact two ((convAE_ok T he h).went he) fun Q hq => hq
  case makeFunc f a c => replace h : hMakeFunc f a c ih T ts e K = some y := h; unfold hMakeFunc at h; rw [evsK_eq ht e.abs, evsK_eq ht e.abs] at h; exact one h fun Q hq => hq
  case makeSlice t l c => replace h : hMakeSlice t l c ih T ts e K = some y := h; unfold hMakeSlice at h; rw [evK_eq ht e.abs, evK_eq ht e.abs] at h; exact two (makeSliceE_ok T he h) fun Q hq => hq
  case slice t x lo hi mx =>
    replace h : hSlice t x lo hi mx ih T ts e K = some y := h
    unfold hSlice at h
    rw [evK_eq ht e.abs, evoK_eq ht e.abs, evoK_eq ht e.abs, evoK_eq ht e.abs] at h
    exact two (gave_went he (sliceE_ok T he h)) fun Q hq => hq
  case fieldAddr t x f =>
    replace h : hFieldAddr t x f ih T ts e K = some y := h
    unfold hFieldAddr at h
    rw [evK_eq ht e.abs] at h
    obtain ⟨r, h1, h2⟩ := fieldAddrE_ok T he h
    exact one h2 fun Q hq => by simp only [opW, h1]; exact hq
  case field t x f =>
    replace h : hField t x f ih T ts e K = some y := h
    unfold hField at h
    rw [evK_eq ht e.abs] at h
    unfold fieldE at h
    split at h
    · rename_i r hr
      rw [fAV_eq] at h
      exact one h fun Q hq => by simp only [opW, hr]; exact hq
    · cases h
  case indexAddr t x i => replace h : hIndexAddr t x i ih T ts e K = some y := h; unfold hIndexAddr at h; rw [evK_eq ht e.abs, evK_eq ht e.abs] at h; exact two (gave_went he (indexAddrE_ok T he h)) fun Q hq => hq
  case index t x i => replace h : hIndex t x i ih T ts e K = some y := h; unfold hIndex at h; rw [evK_eq ht e.abs, evK_eq ht e.abs] at h; exact two (gave_went he (indexE_ok T h)) fun Q hq => hq
  case extract x i =>
    replace h : hExtract x i ih T ts e K = some y := h
    unfold hExtract at h
    rw [evK_eq ht e.abs] at h
    unfold extractE at h
    split at h
    · rename_i cs hx
      rw [nthL_eq] at h
      split at h
      · rename_i r hr
        exact one h fun Q hq => by simp only [opW, hx, hr]; exact hq
      · cases h
    · cases h
  case makeMap t r =>
    replace h : hMakeMap t r ih T ts e K = some y := h
    unfold hMakeMap at h
    split at h
    · obtain ⟨e', h1, h2, h3⟩ := EH.push_ok he h
      exact ⟨_, e', h1, h3, fun Q hq => by simp only [opW]; rw [EH.len he, ← h2]; exact hq⟩
    · cases h
  case lookup t x i c =>
    replace h : hLookup t x i c ih T ts e K = some y := h
    unfold hLookup at h
    rw [evK_eq ht e.abs, evK_eq ht e.abs] at h
    exact two (gave_went he (lookupE_ok T he h)) fun Q hq => hq
  case mapUpdate t m k x =>
    replace h : hMapUpd t m k x ih T ts e K = some y := h
    unfold hMapUpd at h
    rw [evK_eq ht e.abs, evK_eq ht e.abs, evK_eq ht e.abs] at h
    obtain ⟨e', h1, h2, h3⟩ := mapUpdateE_ok T he h
    exact ⟨_, e', h1, h2, fun Q hq => h3 (fun h' => Q .junk h') hq⟩
  case insert t m k x =>
    replace h : hMapUpd t m k x ih T ts e K = some y := h
    unfold hMapUpd at h
    rw [evK_eq ht e.abs, evK_eq ht e.abs, evK_eq ht e.abs] at h
    obtain ⟨e', h1, h2, h3⟩ := mapUpdateE_ok T he h
    exact ⟨_, e', h1, h2, fun Q hq => h3 (fun h' => Q .junk h') hq⟩
  case call c => exact two (callCE_ok ih T hX hih ht he h) fun Q hq => hq
  all_goals exact absurd h (by intro h; cases h)

def isWr : Op → Bool
  | .alloc _ | .box _ _ | .buildSlice _ _ _ | .makeSlice _ _ _ | .store _ _ _ | .makeMap _ _ | .mapUpdate _ _ _ _ | .insert _ _ _ _ => true
  | .call c => (match c.callee with
    | .builtin .len | .builtin .max | .builtin .min => false
    | _ => true)
  | _ => false

theorem opE_quiet {ts : TS} (ht : okT ts) {e : EH} {o : Oper} {K : AV → EH → Option R} {y : R} (he : e.ok) (hw : isWr o.op = false) (h : opE ih T ts e o K = some y) :
    Quiet K e y (opW P T ⟨ts.flatten, e.abs⟩ o) := by
  obtain ⟨dst, op, type, pos, after, guard⟩ := o
  have one : ∀ {r : AV}, K r e = some y → (∀ Q : AV → Heap → Prop, Q r e.abs → opW P T ⟨ts.flatten, e.abs⟩ ⟨dst, op, type, pos, after, guard⟩ Q) → Quiet K e y (opW P T ⟨ts.flatten, e.abs⟩ ⟨dst, op, type, pos, after, guard⟩) :=
    fun h1 h2 => ⟨_, h1, h2⟩
  have two : ∀ {S : (AV → Prop) → Prop}, Gave (fun r => K r e) y S → (∀ Q : AV → Heap → Prop, S (fun r => Q r e.abs) → opW P T ⟨ts.flatten, e.abs⟩ ⟨dst, op, type, pos, after, guard⟩ Q) → Quiet K e y (opW P T ⟨ts.flatten, e.abs⟩ ⟨dst, op, type, pos, after, guard⟩) :=
    fun ⟨r, h1, h3⟩ h4 => ⟨r, h1, fun Q hq => h4 Q (h3 _ hq)⟩
  unfold opE at h
  simp only at h
  cases op
  case move x => replace h : hMove x ih T ts e K = some y := h; unfold hMove at h; rw [evK_eq ht e.abs] at h; exact one h fun Q hq => hq
  case assign x => replace h : hMove x ih T ts e K = some y := h; unfold hMove at h; rw [evK_eq ht e.abs] at h; exact one h fun Q hq => hq
  case pick c a b =>
    replace h : hPick c a b ih T ts e K = some y := h
    unfold hPick at h
    rw [evK_eq ht e.abs] at h
    unfold pickE at h
    split at h
    · rename_i t hb
      split at h
      · rw [evK_eq ht e.abs] at h; exact one h fun Q hq => by simp only [opW, hb]; exact hq
      · rw [evK_eq ht e.abs] at h; exact one h fun Q hq => by simp only [opW, hb]; exact hq
    · cases h
  case alloc t => cases hw
  case box t x => cases hw
  case build t ps =>
    replace h : hBuild t ps ih T ts e K = some y := h
    unfold hBuild at h
    rw [evpK_eq ht e.abs] at h
    unfold buildE at h
    split at h
    · rename_i r hr
      rw [fAV_eq] at h
      exact one h fun Q hq => by simp only [opW, hr]; exact hq
    · cases h
  case buildSlice t n ps => cases hw
  case load t a =>
    replace h : hLoad t a ih T ts e K = some y := h
    unfold hLoad at h
    rw [evK_eq ht e.abs] at h
    obtain ⟨r, h1, h2⟩ := loadE_ok T he h
    exact one h2 fun Q hq => by simp only [opW, h1]; exact hq
  case store t a x => cases hw
  case nilCheck x =>
    replace h : hNilCheck x ih T ts e K = some y := h
    unfold hNilCheck at h
    rw [evK_eq ht e.abs] at h
    unfold nilCheckE at h
    split at h
    · rename_i b i j hx
      rw [EH.get_abs he] at h
      split at h
      · rename_i hb; exact one h fun Q hq => by simp only [opW, nilCheckW, hx, hb]; exact hq
      · cases h
    · rename_i hx; exact one h fun Q hq => by simp only [opW, nilCheckW, hx]; exact hq
    · rename_i hx; exact one h fun Q hq => by simp only [opW, nilCheckW, hx]; exact hq
    · rename_i hx; exact one h fun Q hq => by simp only [opW, nilCheckW, hx]; exact hq
    · rename_i l hx
      rw [EH.loop_abs] at h
      split at h
      · rename_i hb; exact one h fun Q hq => by simp only [opW, nilCheckW, hx, hb]; exact hq
      · cases h
    · cases h
  case binOp op t ox oy u =>
    replace h : hBin op t ox oy u ih T ts e K = some y := h
    unfold hBin at h
    rw [evK_eq ht e.abs, evK_eq ht e.abs] at h
    unfold binOpE at h
    split at h
    · split at h
      · rename_i r hr
        rw [fAV_eq] at h
        exact one h fun Q hq => .inr ⟨r, .inl hr, hq⟩
      · cases h
    · split at h
      · split at h
        · rename_i r hr
          rw [fAV_eq] at h
          rw [ptrE_eq T he] at hr
          exact one h fun Q hq => .inr ⟨r, .inr hr, hq⟩
        · cases h
      · exact two (binE_ok T he h) fun Q hq => .inl hq
  case unOp op t x =>
    replace h : hUn op t x ih T ts e K = some y := h
    unfold hUn at h
    rw [evK_eq ht e.abs] at h
    unfold unE at h
    split at h
    · rename_i r hr
      rw [fAV_eq] at h
      exact one h fun Q hq => by simp only [opW, hr]; exact hq
    · cases h
  case convert s d x => replace h : hConv s d x ih T ts e K = some y := h; unfold hConv at h; rw [evK_eq ht e.abs] at h; exact convAE_ok T he h
  case makeFunc f a c => replace h : hMakeFunc f a c ih T ts e K = some y := h; unfold hMakeFunc at h; rw [evsK_eq ht e.abs, evsK_eq ht e.abs] at h; exact one h fun Q hq => hq
  case makeSlice t l c => cases hw
  case slice t x lo hi mx =>
    replace h : hSlice t x lo hi mx ih T ts e K = some y := h
    unfold hSlice at h
    rw [evK_eq ht e.abs, evoK_eq ht e.abs, evoK_eq ht e.abs, evoK_eq ht e.abs] at h
    exact two (sliceE_ok T he h) fun Q hq => hq
  case fieldAddr t x f =>
    replace h : hFieldAddr t x f ih T ts e K = some y := h
    unfold hFieldAddr at h
    rw [evK_eq ht e.abs] at h
    obtain ⟨r, h1, h2⟩ := fieldAddrE_ok T he h
    exact one h2 fun Q hq => by simp only [opW, h1]; exact hq
  case field t x f =>
    replace h : hField t x f ih T ts e K = some y := h
    unfold hField at h
    rw [evK_eq ht e.abs] at h
    unfold fieldE at h
    split at h
    · rename_i r hr
      rw [fAV_eq] at h
      exact one h fun Q hq => by simp only [opW, hr]; exact hq
    · cases h
  case indexAddr t x i => replace h : hIndexAddr t x i ih T ts e K = some y := h; unfold hIndexAddr at h; rw [evK_eq ht e.abs, evK_eq ht e.abs] at h; exact two (indexAddrE_ok T he h) fun Q hq => hq
  case index t x i => replace h : hIndex t x i ih T ts e K = some y := h; unfold hIndex at h; rw [evK_eq ht e.abs, evK_eq ht e.abs] at h; exact two (indexE_ok T h) fun Q hq => hq
  case extract x i =>
    replace h : hExtract x i ih T ts e K = some y := h
    unfold hExtract at h
    rw [evK_eq ht e.abs] at h
    unfold extractE at h
    split at h
    · rename_i cs hx
      rw [nthL_eq] at h
      split at h
      · rename_i r hr
        exact one h fun Q hq => by simp only [opW, hx, hr]; exact hq
      · cases h
    · cases h
  case makeMap t r => cases hw
  case lookup t x i c =>
    replace h : hLookup t x i c ih T ts e K = some y := h
    unfold hLookup at h
    rw [evK_eq ht e.abs, evK_eq ht e.abs] at h
    exact two (lookupE_ok T he h) fun Q hq => hq
  case mapUpdate t m k x => cases hw
  case insert t m k x => cases hw
  case call c =>
    replace h : callCE ih T ts e c K = some y := h
    unfold callCE at h
    split at h
    · rename_i f hc; simp [isWr, hc] at hw
    · rename_i hc
      split at h
      · rename_i t x hat hx
        rw [evK_eq ht e.abs] at h
        obtain ⟨r, h1, h2⟩ := lenE_ok T he h
        exact ⟨r, h1, fun Q hq => by simp only [opW, callW, hc, hat, hx]; exact h2 _ hq⟩
      · cases h
    · rename_i hc; simp [isWr, hc] at hw
    · rename_i hc; simp [isWr, hc] at hw
    · rename_i hc
      split at h
      · rename_i x1 x2 hx
        rw [evK_eq ht e.abs, evK_eq ht e.abs] at h
        unfold maxE at h
        split at h
        · rename_i k a h1
          split at h
          · rename_i k' b h2
            split at h
            · rename_i hs
              dsimp only at h
              rw [fInt_eq] at h
              have hs : k = k' := by simpa [sameK] using hs
              refine ⟨_, h, fun Q hq => ?_⟩
              simp only [opW, callW, hc, hx, h1, h2]
              exact ⟨hs, hq⟩
            · cases h
          · cases h
        · cases h
      · cases h
    · rename_i hc
      split at h
      · rename_i x1 x2 hx
        rw [evK_eq ht e.abs, evK_eq ht e.abs] at h
        unfold maxE at h
        split at h
        · rename_i k a h1
          split at h
          · rename_i k' b h2
            split at h
            · rename_i hs
              dsimp only at h
              rw [fInt_eq] at h
              have hs : k = k' := by simpa [sameK] using hs
              refine ⟨_, h, fun Q hq => ?_⟩
              simp only [opW, callW, hc, hx, h1, h2]
              exact ⟨hs, hq⟩
            · cases h
          · cases h
        · cases h
      · cases h
    · cases h
  all_goals exact absurd h (by intro h; cases h)

end ops
end
end Go.Abs
