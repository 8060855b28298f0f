/-
  A way to run the abstract operations, made for the kernel: the operations that only look, slices, and append; that the runs are right.
  Conditions: none.
-/
import Derived.Test.YthbpdiolceabhaaGreatDoorAbsEval1
set_option linter.unusedVariables false
set_option linter.unusedSimpArgs false
set_option linter.unusedSectionVars false
namespace Go.Abs
noncomputable section
variable [Gl]

section ops
variable {R : Type} (T : Tab)

/-- A wrap that costs nothing for small numbers. -/
def halfK : IntKind → Nat
  | .i8 => 128 | .u8 => 256 | .i16 => 32768 | .u16 => 65536 | .i32 => 2147483648 | .u32 => 4294967296 | .i64 => 9223372036854775808 | .u64 => 18446744073709551616
def wrapF (k : IntKind) (n : Int) : Int := match n with
  | .ofNat m => (match Nat.blt m (halfK k) with | true => .ofNat m | false => k.wrap n)
  | .negSucc _ => k.wrap n
omit [Gl] in
theorem wrap_small (k : IntKind) (m : Nat) (h : m < halfK k) : k.wrap (.ofNat m) = .ofNat m := by
  show k.wrap (m : Int) = (m : Int)
  unfold IntKind.wrap
  cases k <;> simp only [halfK] at h <;> simp [IntKind.bits, IntKind.signed] <;> omega
theorem wrapF_eq (k : IntKind) (n : Int) : wrapF k n = k.wrap n := by
  unfold wrapF
  split
  · rename_i m
    split
    · rename_i hb
      rw [wrap_small k m (by simpa [Nat.blt_eq] using hb)]
    · rfl
  · rfl

def intK (k : IntKind) (n : Int) (K : AV → Option R) : Option R := fInt (wrapF k n) fun n => K (.int k n)
theorem intK_eq (k : IntKind) (n : Int) (K : AV → Option R) : intK k n K = K (.int k (k.wrap n)) := by simp only [intK, fInt_eq, wrapF_eq]
def boolK (b : Bool) (K : AV → Option R) : Option R := match b with | true => K (.bool true) | false => K (.bool false)
omit [Gl] in
theorem boolK_eq (b : Bool) (K : AV → Option R) : boolK b K = K (.bool b) := by cases b <;> rfl

def sameK (k k' : IntKind) : Bool := decide (k = k')

def shlE (k : IntKind) (a : Int) (b : Int) (K : AV → Option R) : Option R := match b with
  | .ofNat b => intK k (a * 2 ^ (min b k.bits)) K
  | .negSucc _ => none
def shrE (k : IntKind) (a : Int) (b : Int) (K : AV → Option R) : Option R := match b with
  | .ofNat b => fInt (a.fdiv (2 ^ (min b k.bits))) fun n => K (.int k n)
  | .negSucc _ => none
def quoE (k : IntKind) (a : Int) (k' : IntKind) (b : Int) (K : AV → Option R) : Option R := match sameK k k' && !(b == 0) with
  | true => intK k (a.tdiv b) K
  | false => none
def remE (k : IntKind) (a : Int) (k' : IntKind) (b : Int) (K : AV → Option R) : Option R := match sameK k k' && !(b == 0) with
  | true => fInt (a.tmod b) fun n => K (.int k n)
  | false => none
def arithE (op : BinOp) (k : IntKind) (a : Int) (k' : IntKind) (b : Int) (K : AV → Option R) : Option R := match sameK k k' with
  | true => (match intA op k a b with | some r => fAV r K | none => none)
  | false => none

def binIE (op : BinOp) (k : IntKind) (a : Int) (k' : IntKind) (b : Int) (K : AV → Option R) : Option R :=
  match op with
  | .shl => shlE k a b K
  | .shr => shrE k a b K
  | .quo => quoE k a k' b K
  | .rem => remE k a k' b K
  | .add => (match sameK k k' with | true => intK k (a + b) K | false => none)
  | .sub => (match sameK k k' with | true => intK k (a - b) K | false => none)
  | .mul => (match sameK k k' with | true => intK k (a * b) K | false => none)
  | .eql => (match sameK k k' with | true => boolK (a == b) K | false => none)
  | .neq => (match sameK k k' with | true => boolK (a != b) K | false => none)
  | .lss => (match sameK k k' with | true => boolK (decide (a < b)) K | false => none)
  | .leq => (match sameK k k' with | true => boolK (decide (a ≤ b)) K | false => none)
  | .gtr => (match sameK k k' with | true => boolK (decide (b < a)) K | false => none)
  | .geq => (match sameK k k' with | true => boolK (decide (b ≤ a)) K | false => none)
  | .and => arithE .and k a k' b K
  | .or => arithE .or k a k' b K
  | .xor => arithE .xor k a k' b K
  | .andNot => arithE .andNot k a k' b K

theorem arithE_ok {op : BinOp} {k : IntKind} {a : Int} {k' : IntKind} {b : Int} {K : AV → Option R} {y : R} (h : arithE op k a k' b K = some y) : ∃ r, k = k' ∧ intA op k a b = some r ∧ K r = some y := by
  unfold arithE at h
  split at h
  · rename_i hs
    split at h
    · rename_i r hr
      rw [fAV_eq] at h
      exact ⟨r, by simpa [sameK] using hs, hr, h⟩
    · cases h
  · cases h

theorem binIE_ok {h : Heap} {t : TypeId} {op : BinOp} {k : IntKind} {a : Int} {k' : IntKind} {b : Int} {K : AV → Option R} {y : R} (hh : binIE op k a k' b K = some y) :
    Gave K y (binW T h op t (.int k a) (.int k' b)) := by
  have same : ∀ {k k' : IntKind}, sameK k k' = true → k = k' := fun h => by simpa [sameK] using h
  unfold binIE at hh
  split at hh
  · unfold shlE at hh
    split at hh
    · rw [intK_eq] at hh
      exact ⟨_, hh, fun Q hq => ⟨Int.natCast_nonneg _, hq⟩⟩
    · cases hh
  · unfold shrE at hh
    split at hh
    · rw [fInt_eq] at hh
      exact ⟨_, hh, fun Q hq => ⟨Int.natCast_nonneg _, hq⟩⟩
    · cases hh
  · unfold quoE at hh
    split at hh
    · rename_i hc
      rw [intK_eq] at hh
      simp only [Bool.and_eq_true, Bool.not_eq_true', beq_eq_false_iff_ne] at hc
      exact ⟨_, hh, fun Q hq => by simp only [binW]; rw [if_pos (same hc.1)]; exact ⟨hc.2, hq⟩⟩
    · cases hh
  · unfold remE at hh
    split at hh
    · rename_i hc
      rw [fInt_eq] at hh
      simp only [Bool.and_eq_true, Bool.not_eq_true', beq_eq_false_iff_ne] at hc
      exact ⟨_, hh, fun Q hq => by simp only [binW]; rw [if_pos (same hc.1)]; exact ⟨hc.2, hq⟩⟩
    · cases hh
  · split at hh
    · rename_i hs; rw [intK_eq] at hh; exact ⟨_, hh, fun Q hq => by simp only [binW, intA]; rw [if_pos (same hs)]; exact hq⟩
    · cases hh
  · split at hh
    · rename_i hs; rw [intK_eq] at hh; exact ⟨_, hh, fun Q hq => by simp only [binW, intA]; rw [if_pos (same hs)]; exact hq⟩
    · cases hh
  · split at hh
    · rename_i hs; rw [intK_eq] at hh; exact ⟨_, hh, fun Q hq => by simp only [binW, intA]; rw [if_pos (same hs)]; exact hq⟩
    · cases hh
  iterate 6
    · split at hh
      · rename_i hs; rw [boolK_eq] at hh; exact ⟨_, hh, fun Q hq => by simp only [binW, intA]; rw [if_pos (same hs)]; exact hq⟩
      · cases hh
  all_goals
    obtain ⟨r, rfl, h2, h3⟩ := arithE_ok hh
    exact ⟨r, h3, fun Q hq => by simp only [binW, if_true, h2]; exact hq⟩

def binSE (op : BinOp) (a b : List UInt8) (K : AV → Option R) : Option R :=
  match op with
  | .add => (match Nat.ble (a.length + b.length) 9223372036854775807 with | true => fList (a ++ b) fun s => K (.str s) | false => none)
  | op => (match strA op a b with | some r => fAV r K | none => none)

theorem binSE_ok {h : Heap} {t : TypeId} {op : BinOp} {a b : List UInt8} {K : AV → Option R} {y : R} (hh : binSE op a b K = some y) :
    Gave K y (binW T h op t (.str a) (.str b)) := by
  unfold binSE at hh
  split at hh
  · split at hh
    · rename_i hc
      rw [fList_eq] at hh
      rw [Nat.ble_eq] at hc
      exact ⟨_, hh, fun Q hq => ⟨by omega, hq⟩⟩
    · cases hh
  · split at hh
    · rename_i hne r hr
      rw [fAV_eq] at hh
      refine ⟨r, hh, fun Q hq => ?_⟩
      cases op <;> simp only [strA] at hr <;> simp_all [binW, strA]
    · cases hh

/-- Is it nil? -/
def nilE (e : EH) (d : TypeDesc) (x : AV) : Option Bool :=
  match x with
  | .ms b _ _ _ => (match d with | .slice _ => (match e.get b with | some _ => some false | none => none) | _ => none)
  | .ptr b _ _ => (match d with | .pointer _ => (match e.get b with | some _ => some false | none => none) | _ => none)
  | .mp b => (match d with | .map _ _ => (match e.get b with | some _ => some false | none => none) | _ => none)
  | x => nilA ⟨[], []⟩ d x

theorem nilE_eq {e : EH} (he : e.ok) (d : TypeDesc) (x : AV) : nilE e d x = nilA e.abs d x := by
  cases x <;> first
    | (cases d <;> rfl)
    | (simp only [nilE, EH.get_abs he]; cases d <;> rfl)

def eqE (e : EH) (t : TypeId) (x y : AV) : Option Bool :=
  match T t with
  | none => none
  | some ti =>
    match isNil ti.desc x with
    | true => nilE e ti.desc y
    | false => (match isNil ti.desc y with
      | true => nilE e ti.desc x
      | false => eqA T 100 t x y)

def notNum : AV → Bool
  | .int _ _ | .str _ => false
  | _ => true

omit [Gl] in
theorem binW_eql {h : Heap} {t : TypeId} {x y : AV} {Q : AV → Prop} (hx : notNum x = true) : binW T h .eql t x y Q = (match T t with
    | none => False
    | some ti =>
      if isNil ti.desc x then (match nilA h ti.desc y with | some b => Q (.bool b) | none => False)
      else if isNil ti.desc y then (match nilA h ti.desc x with | some b => Q (.bool b) | none => False)
      else match eqA T 100 t x y with | some b => Q (.bool b) | none => False) := by
  cases x <;> first | rfl | cases hx
omit [Gl] in
theorem binW_neq {h : Heap} {t : TypeId} {x y : AV} {Q : AV → Prop} (hx : notNum x = true) : binW T h .neq t x y Q = (match T t with
    | none => False
    | some ti =>
      if isNil ti.desc x then (match nilA h ti.desc y with | some b => Q (.bool !b) | none => False)
      else if isNil ti.desc y then (match nilA h ti.desc x with | some b => Q (.bool !b) | none => False)
      else match eqA T 100 t x y with | some b => Q (.bool !b) | none => False) := by
  cases x <;> first | rfl | cases hx

theorem eqE_ok {e : EH} (he : e.ok) {t : TypeId} {x y : AV} {b : Bool} (h : eqE T e t x y = some b) (hx : notNum x = true) (Q : AV → Prop) :
    (Q (.bool b) → binW T e.abs .eql t x y Q) ∧ (Q (.bool !b) → binW T e.abs .neq t x y Q) := by
  rw [binW_eql T hx, binW_neq T hx]
  unfold eqE at h
  split at h
  · cases h
  · rename_i ti ht
    split at h
    · rename_i hn
      rw [nilE_eq he] at h
      rw [if_pos hn, if_pos hn, h]
      exact ⟨id, id⟩
    · rename_i hn
      have hn : ¬ isNil ti.desc x = true := by rw [hn]; exact Bool.false_ne_true
      split at h
      · rename_i hn'
        rw [nilE_eq he] at h
        rw [if_neg hn, if_neg hn, if_pos hn', if_pos hn', h]
        exact ⟨id, id⟩
      · rename_i hn'
        have hn' : ¬ isNil ti.desc y = true := by rw [hn']; exact Bool.false_ne_true
        rw [if_neg hn, if_neg hn, if_neg hn', if_neg hn', h]
        exact ⟨id, id⟩

def binOE (e : EH) (op : BinOp) (t : TypeId) (x y : AV) (K : AV → Option R) : Option R :=
  match op with
  | .eql => (match notNum x with | true => (match eqE T e t x y with | some b => boolK b K | none => none) | false => none)
  | .neq => (match notNum x with | true => (match eqE T e t x y with | some b => boolK (!b) K | none => none) | false => none)
  | _ => none

def binE (e : EH) (op : BinOp) (t : TypeId) (x y : AV) (K : AV → Option R) : Option R :=
  match x with
  | .int k a => (match y with | .int k' b => binIE op k a k' b K | _ => none)
  | .str a => (match y with | .str b => binSE op a b K | _ => none)
  | x => binOE T e op t x y K

theorem binOE_ok {e : EH} (he : e.ok) {op : BinOp} {t : TypeId} {x z : AV} {K : AV → Option R} {y : R} (hh : binOE T e op t x z K = some y) :
    Gave K y (binW T e.abs op t x z) := by
  unfold binOE at hh
  split at hh
  · split at hh
    · rename_i hx
      split at hh
      · rename_i b hb
        rw [boolK_eq] at hh
        exact ⟨_, hh, fun Q hq => (eqE_ok T he hb hx Q).1 hq⟩
      · cases hh
    · cases hh
  · split at hh
    · rename_i hx
      split at hh
      · rename_i b hb
        rw [boolK_eq] at hh
        exact ⟨_, hh, fun Q hq => (eqE_ok T he hb hx Q).2 hq⟩
      · cases hh
    · cases hh
  · cases hh

theorem binE_ok {e : EH} (he : e.ok) {op : BinOp} {t : TypeId} {x z : AV} {K : AV → Option R} {y : R} (hh : binE T e op t x z K = some y) :
    Gave K y (binW T e.abs op t x z) := by
  unfold binE at hh
  split at hh
  · split at hh
    · exact binIE_ok T hh
    · cases hh
  · split at hh
    · exact binSE_ok T hh
    · cases hh
  · exact binOE_ok T he hh

def convE (e : EH) (src dst : TypeId) (x : AV) (K : AV → EH → Option R) : Option R :=
  match T src, T dst with
  | some _, some di =>
    match x with
    | .int _ n => (match di.desc with | .int k => intK k n (fun r => K r e) | _ => none)
    | .str s => (match di.desc with | .string => K (.str s) e | _ => none)
    | _ => none
  | _, _ => none

/-- The outcome of a run that leaves the memory alone, and says so. -/
def Quiet (K : AV → EH → Option R) (e : EH) (y : R) (S : (AV → Heap → Prop) → Prop) : Prop :=
  ∃ r, K r e = some y ∧ ∀ Q : AV → Heap → Prop, Q r e.abs → S Q
omit [Gl] in
theorem Quiet.went {K : AV → EH → Option R} {e : EH} {y : R} {S : (AV → Heap → Prop) → Prop} (he : e.ok) (h : Quiet K e y S) : Went K y S := by
  obtain ⟨r, h1, h2⟩ := h
  exact ⟨r, e, he, h1, h2⟩

theorem convE_ok {e : EH} {src dst : TypeId} {x : AV} {K : AV → EH → Option R} {y : R} (h : convE T e src dst x K = some y) : Quiet K e y (convW T e.abs src dst x) := by
  unfold convE at h
  split at h
  · rename_i si di hs hd
    split at h
    · split at h
      · rename_i k hk
        rw [intK_eq] at h
        exact ⟨_, h, fun Q hq => by simp only [convW, hs, hd, hk]; exact hq⟩
      · cases h
    · split at h
      · rename_i hk
        exact ⟨_, h, fun Q hq => by simp only [convW, hs, hd, hk]; exact hq⟩
      · cases h
    · cases h
  · cases h

def indexMsE (e : EH) (t : TypeId) (el : TypeId) (b s len : Nat) (i : Nat) (K : AV → Option R) : Option R :=
  match Nat.blt i len with
  | false => none
  | true =>
    match T el with
    | none => none
    | some ei =>
      match e.get b with
      | some (.rows rs _ _) => (match nthL rs (s + i) with
        | some row => (match row.length == ei.size && Nat.blt 0 ei.size with | true => fNat (s + i) fun si => K (.ptr b si 0) | false => none)
        | none => none)
      | _ => none

def indexVsE (el : TypeId) (es : List (List AV)) (i : Nat) (K : AV → Option R) : Option R :=
  match T el with
  | none => none
  | some ei => (match nthL es i with
    | some row => (match row.length == ei.size with | true => K (.vp row 0) | false => none)
    | none => none)

def indexAddrE (e : EH) (t : TypeId) (x ix : AV) (K : AV → Option R) : Option R :=
  match T t with
  | none => none
  | some ti =>
  match ix with
  | .int _ (.ofNat i) =>
    match ti.desc with
    | .slice el => (match x with
      | .ms b s len _ => indexMsE T e t el b s len i K
      | .vs es _ => indexVsE T el es i K
      | _ => none)
    | .array n el => (match Nat.blt i n with
      | false => none
      | true => (match T el with
        | none => none
        | some ei => (match x with
          | .ptr b r j => (match e.get b with
            | some (.rows rs _ _) => (match nthL rs r with
              | some row => (match Nat.blt (j + i * ei.size) row.length with | true => fNat (j + i * ei.size) fun o => K (.ptr b r o) | false => none)
              | none => none)
            | _ => none)
          | .vp row j => fNat (j + i * ei.size) fun o => K (.vp row o)
          | .gp g j => fNat (j + i * ei.size) fun o => K (.gp g o)
          | _ => none)))
    | _ => none
  | _ => none

theorem indexAddrE_ok {e : EH} (he : e.ok) {t : TypeId} {x ix : AV} {K : AV → Option R} {y : R} (h : indexAddrE T e t x ix K = some y) : Gave K y (indexAddrW T e.abs t x ix) := by
  unfold indexAddrE at h
  split at h
  · cases h
  · rename_i ti ht
    split at h
    · rename_i k i
      split at h
      · rename_i el hd
        split at h
        · rename_i b s len capo
          unfold indexMsE at h
          split at h
          · cases h
          · rename_i hi
            rw [Nat.blt_eq] at hi
            split at h
            · cases h
            · rename_i ei hei
              rw [EH.get_abs he] at h
              split at h
              · rename_i rs g fz hb
                rw [nthL_eq] at h
                split at h
                · rename_i row hrow
                  split at h
                  · rename_i hc
                    rw [fNat_eq] at h
                    simp only [Bool.and_eq_true, beq_iff_eq, Nat.blt_eq] at hc
                    refine ⟨_, h, fun Q hq => ?_⟩
                    simp only [indexAddrW, indexMemW, ht, hd, hei, hb]
                    exact ⟨⟨Int.natCast_nonneg i, Int.ofNat_lt.2 hi⟩, hc.2, ⟨row, hrow, hc.1⟩, hq⟩
                  · cases h
                · cases h
              · cases h
        · rename_i es capo
          unfold indexVsE at h
          split at h
          · cases h
          · rename_i ei hei
            rw [nthL_eq] at h
            split at h
            · rename_i row hrow
              split at h
              · rename_i hc
                rw [beq_iff_eq] at hc
                refine ⟨_, h, fun Q hq => ?_⟩
                obtain ⟨hi, _⟩ := List.getElem?_eq_some_iff.1 hrow
                simp only [indexAddrW, indexMemW, ht, hd, hei]
                exact ⟨⟨Int.natCast_nonneg i, Int.ofNat_lt.2 hi⟩, row, hrow, hc, hq⟩
              · cases h
            · cases h
        · cases h
      · rename_i n el hd
        split at h
        · cases h
        · rename_i hi
          rw [Nat.blt_eq] at hi
          have hb2 : (0 : Int) ≤ Int.ofNat i ∧ Int.ofNat i < (n : Int) := ⟨Int.natCast_nonneg i, Int.ofNat_lt.2 hi⟩
          split at h
          · cases h
          · rename_i ei hei
            split at h
            · rename_i b r j
              rw [EH.get_abs he] at h
              split at h
              · rename_i rs g fz hb
                rw [nthL_eq] at h
                split at h
                · rename_i row hrow
                  split at h
                  · rename_i hc
                    rw [Nat.blt_eq] at hc
                    rw [fNat_eq] at h
                    refine ⟨_, h, fun Q hq => ?_⟩
                    simp only [indexAddrW, indexMemW, ht, hd, hei, hb, hrow]
                    exact ⟨hb2, hc, hq⟩
                  · cases h
                · cases h
              · cases h
            · rw [fNat_eq] at h
              refine ⟨_, h, fun Q hq => ?_⟩
              simp only [indexAddrW, indexMemW, ht, hd, hei]
              exact ⟨hb2, hq⟩
            · rw [fNat_eq] at h
              refine ⟨_, h, fun Q hq => ?_⟩
              simp only [indexAddrW, indexGlobW, ht, hd, hei]
              exact ⟨hb2, hq⟩
            · cases h
      · cases h
    · cases h

def indexE (t : TypeId) (x ix : AV) (K : AV → Option R) : Option R :=
  match ix with
  | .int _ (.ofNat i) =>
    match T t with
    | none => none
    | some ti => (match x with
      | .str s => (match ti.desc with
        | .string => (match nthL s i with | some c => fNat c.toNat fun n => K (.int .u8 (.ofNat n)) | none => none)
        | _ => none)
      | .agg cs => (match ti.desc with
        | .array n el => (match Nat.blt i n with
          | false => none
          | true => (match T el with
            | none => none
            | some ei => (match partA ei cs (i * ei.size) with | some r => fAV r K | none => none)))
        | _ => none)
      | _ => none)
  | _ => none

theorem indexE_ok {t : TypeId} {x ix : AV} {K : AV → Option R} {y : R} (h : indexE T t x ix K = some y) : Gave K y (indexW T t x ix) := by
  unfold indexE at h
  split at h
  · rename_i k i
    split at h
    · cases h
    · rename_i ti ht
      split at h
      · rename_i s
        split at h
        · rename_i hd
          rw [nthL_eq] at h
          split at h
          · rename_i c hc
            rw [fNat_eq] at h
            refine ⟨_, h, fun Q hq => ?_⟩
            simp only [indexW, ht, hd]
            exact ⟨Int.natCast_nonneg i, c, hc, hq⟩
          · cases h
        · cases h
      · rename_i cs
        split at h
        · rename_i n el hd
          split at h
          · cases h
          · rename_i hi
            rw [Nat.blt_eq] at hi
            split at h
            · cases h
            · rename_i ei hei
              split at h
              · rename_i r hr
                rw [fAV_eq] at h
                refine ⟨_, h, fun Q hq => ?_⟩
                simp only [indexW, ht, hd, hei]
                exact ⟨⟨Int.natCast_nonneg i, Int.ofNat_lt.2 hi⟩, r, hr, hq⟩
              · cases h
        · cases h
      · cases h
  · cases h

end ops
end
end Go.Abs
