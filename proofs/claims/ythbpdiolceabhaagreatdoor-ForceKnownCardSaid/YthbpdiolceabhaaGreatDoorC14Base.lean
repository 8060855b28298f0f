/-
  What is known of the program ahead of every run: its table of powers, the byte search, exact.Whole.Text and strconv.Itoa.
  Conditions: none.
-/
import Derived.Test.YthbpdiolceabhaaGreatDoorC14Text
import Derived.Test.YthbpdiolceabhaaGreatDoorAbsBridge
import Derived.Test.YthbpdiolceabhaaGreatDoorAbsTables
import Derived.Test.YthbpdiolceabhaaGreatDoorAbsDraw4
set_option linter.unusedVariables false
set_option linter.unusedSimpArgs false
set_option linter.unusedSectionVars false
namespace Go.Abs
noncomputable section
open Go.Proofs

instance c14Gl : Gl := ⟨fun g => match Nat.beq g 0 with
  | true => some (Lib.pow10Tab.map (AV.int .u64))
  | false => none⟩

def idxE : List AV → Option AV
  | [.str s, .int .u8 (.ofNat c)] => match Nat.ble c 255 with
    | true => some (.int .i64 (idxF c s 0))
    | false => none
  | _ => none

instance c14Bare : Bare := ⟨fun f => match Nat.beq f 188 with | true => some idxE | false => none⟩

theorem tr_nil {E : Env} {w : World} {vs : Array Value} (h : TR E w [] vs) : vs = #[] := Array.eq_empty_of_size_eq_zero h.size.symm

theorem tr_cons {E : Env} {w : World} {x : AV} {xs : List AV} {vs : Array Value} (h : TR E w (x :: xs) vs) : ∃ v vs', vs = #[v] ++ vs' ∧ VR E w x v ∧ TR E w xs vs' := by
  obtain ⟨l⟩ := vs
  obtain ⟨hs, hv⟩ := h
  cases l with
  | nil => cases hs
  | cons v l =>
    refine ⟨v, ⟨l⟩, by simp, ?_, by simpa using hs, fun i hi hj => ?_⟩
    · exact hv 0 (by simp) (by simp)
    · exact hv (i + 1) (by simpa using hi) (by simpa using hj)

theorem c14BareOK : BareOK Tryz.prog where
  ok f g args r hf hr := by
    have hf' : f = 188 := by
      unfold Bare.ext c14Bare at hf
      simp only at hf
      split at hf
      · rename_i h; exact Nat.eq_of_beq_eq_true h
      · cases hf
    subst hf'
    injection hf with hf; subst hf
    unfold idxE at hr
    split at hr
    · rename_i s c
      split at hr
      · rename_i hc
        have hc' : c ≤ 255 := Nat.le_of_ble_eq_true hc
        injection hr with hr; subst hr
        refine ⟨.int _ _, fun E w vs ht => ?_⟩
        obtain ⟨v1, r1, rfl, h1, ht⟩ := tr_cons ht
        obtain ⟨v2, r2, rfl, h2, ht⟩ := tr_cons ht
        obtain rfl := tr_nil ht
        cases h1; cases h2
        refine ⟨.int .i64 (idxF c s 0), ?_, .int ..⟩
        rw [run_callFunc_indexByte Tryz.func188 (by decide +kernel) (by decide +kernel) (by rfl) (by rfl)]
        show ((Extern.BytealgIndexByte.indexByte #[.string ⟨s.toArray⟩, .int .u8 (Int.ofNat c)]).run Tryz.prog w).andThen _ = _
        rw [run_indexByte_string, idxF_eq (by omega)]
        rfl
      · cases hr
    · cases hr

def itoaM : List AV → Option AV
  | [.int .i64 n] => match i64B n with
    | true => some (.str (itoaE n))
    | false => none
  | _ => none

theorem itoa_pure (args : List AV) (r : AV) (h : itoaM args = some r) : PureSem Tryz.prog 81 args r := by
  unfold itoaM at h
  split at h
  · rename_i n
    split at h
    · rename_i hb
      obtain ⟨e, h0, h1⟩ := itoaE_eq hb
      injection h with h; subst h
      refine pure_of_calls ⟨Tryz.f81, Tryz.func81, by decide +kernel, by decide +kernel⟩ (.str _) fun F w vs hg ht => ⟨.string ⟨(itoaE n).toArray⟩, fun w' => .str _, ?_⟩
      obtain ⟨v1, r1, rfl, k1, ht⟩ := tr_cons ht
      obtain rfl := tr_nil ht
      cases k1
      rw [e]
      refine (Tryz.strconv_Itoa n h0 h1 w (hg.tab (b := 0) (by decide +kernel) rfl)).mono ?_
      rintro e w' ⟨rfl, kk, os, rfl⟩
      exact ⟨rfl, Lib.below_grow _ _ (Nat.le_refl _) kk os⟩
    · cases h
  · cases h

/-- A limb's digits, padded. -/
def pad9 (x : Nat) (acc : List UInt8) : List UInt8 := List.replicate (9 - (digs 20 x []).length) 48 ++ digs 20 x acc
def txtL : List Nat → List UInt8 → List UInt8
  | [], acc => acc
  | [x], acc => digs 20 x acc
  | x :: y :: l, acc => txtL (y :: l) (pad9 x acc)

/-- The limbs of a value. -/
def limbsM : List (List AV) → Option (List Nat)
  | [] => some []
  | [.int .u32 (.ofNat n)] :: l => match Nat.ble n 999999999 with
    | true => match limbsM l with
      | some r => some (n :: r)
      | none => none
    | false => none
  | _ => none

def textM : List AV → Option AV
  | [.agg [.bool _, .nils]] => some (.str [48])
  | [.agg [.bool _, .vs [] _]] => some (.str [48])
  | [.agg [.bool neg, .vs es _]] => match Nat.ble es.length 1000, limbsM es with
    | true, some l => some (.str (match neg with | true => 45 :: txtL l [] | false => txtL l []))
    | _, _ => none
  | _ => none

theorem limbsM_ok : ∀ (es : List (List AV)) (l : List Nat), limbsM es = some l → l.length = es.length ∧ ∀ (i : Nat) (hi : i < es.length) (hj : i < l.length), es[i] = [.int .u32 (l[i] : Int)] ∧ l[i] < 1000000000
  | [], l, h => by
    injection h with h; subst h
    exact ⟨rfl, fun i hi => by simp at hi⟩
  | e :: es, l, h => by
    unfold limbsM at h
    split at h
    · rename_i heq; cases heq
    · rename_i n l' heq
      injection heq with e1 e2; subst e1; subst e2
      split at h
      · rename_i hn
        have hn' := Nat.le_of_ble_eq_true hn
        split at h
        · rename_i r hr
          injection h with h; subst h
          obtain ⟨a, b⟩ := limbsM_ok _ _ hr
          refine ⟨by simp [a], fun i hi hj => ?_⟩
          cases i with
          | zero => exact ⟨rfl, by show n < _; omega⟩
          | succ i => exact b i (by simpa using hi) (by simpa using hj)
        · cases h
      · cases h
    · cases h

theorem digs20 (x : Nat) (acc : List UInt8) (h : x < 1000000000) : digs 20 x acc = Lib.itoa (x : Int) ++ acc := by
  rw [digs_eq 19 x acc (by omega), Lib.itoa_nonneg]

theorem txtL_eq (l : List Nat) (hx : ∀ x ∈ l, x < 1000000000) : ∀ (l' : List Nat) (k : Nat) (acc : List UInt8), l.drop k = l' →
    txtL l' acc = txtFrom l.length (fun i => l.getD i 0) l'.length k ++ acc
  | [], k, acc, _ => rfl
  | [x], k, acc, h => by
    have hlt : k < l.length := by
      rcases Nat.lt_or_ge k l.length with hh | hh
      · exact hh
      · rw [List.drop_eq_nil_of_le hh] at h; cases h
    have hl : k + 1 = l.length := by have := congrArg List.length h; simp at this; omega
    have hxk : l.getD k 0 = x := by
      rw [List.drop_eq_getElem_cons hlt] at h
      injection h with h1 _
      simp [hlt, h1]
    have hx' : x < 1000000000 := by
      rw [← hxk]; simp [hlt]; exact hx _ (List.getElem_mem hlt)
    show digs 20 x acc = txtFrom l.length _ 0 (k + 1) ++ txtPiece l.length _ k ++ acc
    rw [digs20 x acc hx']
    simp only [txtFrom, txtPiece, hxk, show ¬ k + 1 < l.length by omega, if_false, List.nil_append]
  | x :: y :: r, k, acc, h => by
    have hlt : k < l.length := by
      rcases Nat.lt_or_ge k l.length with hh | hh
      · exact hh
      · rw [List.drop_eq_nil_of_le hh] at h; cases h
    have hl : k + 1 < l.length := by have := congrArg List.length h; simp at this; omega
    have hd : l[k] = x ∧ l.drop (k + 1) = y :: r := by
      rw [List.drop_eq_getElem_cons hlt] at h
      injection h with h1 h2; exact ⟨h1, h2⟩
    have hxk : l.getD k 0 = x := by simp [hlt, hd.1]
    have hx' : x < 1000000000 := hd.1 ▸ hx _ (List.getElem_mem hlt)
    show txtL (y :: r) (pad9 x acc) = txtFrom l.length _ (y :: r).length (k + 1) ++ txtPiece l.length _ k ++ acc
    rw [txtL_eq l hx (y :: r) (k + 1) (pad9 x acc) hd.2, List.append_assoc]
    congr 1
    simp only [pad9, txtPiece, hxk, hl, if_true]
    rw [digs20 x acc hx', digs20 x [] hx', List.append_nil, List.append_assoc]

theorem text_pure (args : List AV) (r : AV) (h : textM args = some r) : PureSem Tryz.prog 126 args r := by
  have ok : FnOK Tryz.prog 126 := ⟨Tryz.f126, Tryz.func126, by decide +kernel, by decide +kernel⟩
  have one : ∀ {E : Env} {w : World} {x y : AV} {vs : Array Value}, TR E w [.agg [x, y]] vs → ∃ v1 v2, vs = #[.agg #[v1, v2]] ∧ VR E w x v1 ∧ VR E w y v2 := by
    intro E w x y vs ht
    obtain ⟨v1, r1, rfl, k1, ht⟩ := tr_cons ht
    obtain rfl := tr_nil ht
    cases k1 with
    | agg _ vs hs hv =>
      obtain ⟨v1, r1, rfl, k1, ht⟩ := tr_cons (⟨hs, hv⟩ : TR E w [x, y] vs)
      obtain ⟨v2, r2, rfl, k2, ht⟩ := tr_cons ht
      obtain rfl := tr_nil ht
      exact ⟨v1, v2, by simp, k1, k2⟩
  unfold textM at h
  split at h
  · injection h with h; subst h
    refine pure_of_calls ok (.str _) fun F w vs hg ht => ⟨.string ⟨#[48]⟩, fun w' => .str [48], ?_⟩
    obtain ⟨v1, v2, rfl, k1, k2⟩ := one ht
    cases k1; cases k2
    exact text_zero _ none 0 w
  · injection h with h; subst h
    refine pure_of_calls ok (.str _) fun F w vs hg ht => ⟨.string ⟨#[48]⟩, fun w' => .str [48], ?_⟩
    obtain ⟨v1, v2, rfl, k1, k2⟩ := one ht
    cases k1; cases k2
    exact text_zero _ _ _ w
  · rename_i neg es capo hne
    split at h
    · rename_i l hlen hl
      have hlen' := Nat.le_of_ble_eq_true hlen
      obtain ⟨hs, hlim⟩ := limbsM_ok _ _ hl
      injection h with h; subst h
      have hpos : 0 < es.length := by
        cases es with
        | nil => exact (hne rfl).elim
        | cons _ _ => simp
      have hx : ∀ x ∈ l, x < 1000000000 := fun x hx => by
        obtain ⟨i, hi, rfl⟩ := List.getElem_of_mem hx
        exact (hlim i (by omega) hi).2
      have et : txtL l [] = txtFrom l.length (fun i => l.getD i 0) l.length 0 := by rw [txtL_eq l hx l 0 [] rfl, List.append_nil]
      refine pure_of_calls ok (.str _) fun F w vs hg ht => ⟨_, fun w' => .str _, ?_⟩
      obtain ⟨v1, v2, rfl, k1, k2⟩ := one ht
      cases k1
      cases k2 with
      | vs _ _ B off cap sz vals a1 a2 a3 a4 a5 =>
        have cell : ∀ i, i < es.length → w.cell? ⟨B, off + i, none⟩ = some (.int .u32 ((l.getD i 0 : Nat) : Int)) := fun i hi => by
          have e1 := (hlim i hi (by omega)).1
          have l1 : es[i].length = 1 := by rw [e1]; rfl
          have s1 : sz = 1 := (a3 i hi).symm.trans l1
          obtain ⟨_, c1⟩ := a4 i hi 0 (by omega)
          have c2 := a5 i hi 0 (by omega)
          have e2 : es[i][0]'(by omega) = .int .u32 (l[i]'(by omega) : Int) := by simp [e1]
          rw [e2] at c2
          rw [s1, Nat.mul_one, Nat.add_zero] at c1
          rw [c1]
          generalize vals i 0 = v at c2
          cases c2
          simp [hs, hi]
        have hB : B < w.heap.size := by
          have := cell 0 hpos
          rcases Nat.lt_or_ge B w.heap.size with hh | hh
          · exact hh
          · simp [World.cell?, Array.getElem?_eq_none hh] at this
        have htab : Lib.TabIs Tryz.prog w "internal/strconv.uint64pow10" .u64 Lib.pow10Tab := hg.tab (b := 0) (by decide +kernel) rfl
        have hxs : ∀ i, i < es.length → l.getD i 0 < 1000000000 := fun i hi => by
          have hi' : i < l.length := by omega
          simp [hi']; exact hx _ (List.getElem_mem hi')
        cases neg with
        | false =>
          have := text_pos B off es.length cap (fun i => l.getD i 0) w hpos (by omega) hB hxs cell htab
          simpa only [txtAll, et, hs, Bool.false_eq_true, if_false, List.nil_append] using this
        | true =>
          have := text_neg B off es.length cap (fun i => l.getD i 0) w hpos (by omega) hB hxs cell htab
          simpa only [txtAll, et, hs, if_true, List.singleton_append] using this
    · cases h
  · cases h

/-- The calls that are known. -/
def c14M (more : FuncId → Option (List AV → Option AV)) (f : FuncId) : Option (List AV → Option AV) :=
  match Nat.beq f 126 with
  | true => some textM
  | false => match Nat.beq f 81 with
    | true => some itoaM
    | false => more f

theorem c14M_ok {more : FuncId → Option (List AV → Option AV)} (h : MemOK Tryz.prog more) : MemOK Tryz.prog (c14M more) where
  ok f g args r hf hp hr := by
    unfold c14M at hf
    split at hf
    · rename_i e
      obtain rfl := Nat.eq_of_beq_eq_true e
      injection hf with hf; subst hf
      exact text_pure args r hr
    · split at hf
      · rename_i e
        obtain rfl := Nat.eq_of_beq_eq_true e
        injection hf with hf; subst hf
        exact itoa_pure args r hr
      · exact h.ok f g args r hf hp hr

theorem c14M0_ok : MemOK Tryz.prog fun _ => none := ⟨fun _ _ _ _ h => by cases h⟩

theorem c14_ok {more : FuncId → Option (List AV → Option AV)} (h : MemOK Tryz.prog more) {n : Nat} {f : FuncId} {args : List AV} {r : AV}
    (hc : callIs (tiOf Tryz.prog) (drawE (tiOf Tryz.prog) (c14M more)) (funOf Tryz.prog) (c14M more) n f args r = true) : PureSem Tryz.prog f args r :=
  callIs_ok _ _ _ _ (tiOf_ok Tryz.prog) c14BareOK (funOf_ok Tryz.prog) (c14M_ok h) (drawE_ok (tiOf Tryz.prog) (c14M more) (tiOf_ok Tryz.prog) c14BareOK (c14M_ok h) (by decide +kernel)) hc
end
end Go.Abs
