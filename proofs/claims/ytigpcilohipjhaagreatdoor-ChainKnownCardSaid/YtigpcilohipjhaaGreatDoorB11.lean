/-
  Steps to a law of this program: AbsEval3, AbsEval4.
  Conditions: none.
-/
import Derived.Test.YtigpcilohipjhaaGreatDoorB10
import Derived.Test.YtigpcilohipjhaaGreatDoorB9
set_option linter.unusedVariables false
set_option linter.unusedSimpArgs false
set_option linter.unusedSectionVars false
namespace Go.Abs
noncomputable section
variable [Gl]

section ops
variable {R : Type} (T : Tab)

def natA : Option AV → Nat → Option Nat
  | none, d => some d
  | some (.int _ (.ofNat n)), _ => some n
  | _, _ => none

omit [Gl] in
theorem natA_low {o : Option AV} {l : Nat} (h : natA o 0 = some l) : lowA o = some (l : Int) := by
  unfold natA at h
  split at h
  · injection h with h; subst h; rfl
  · injection h with h; subst h; rfl
  · cases h
omit [Gl] in
theorem natA_high {o : Option AV} {n l : Nat} (h : natA o n = some l) : highA n o = some (l : Int) := by
  unfold natA at h
  split at h
  · injection h with h; subst h; rfl
  · injection h with h; subst h; rfl
  · cases h

def sliceStrE (s : List UInt8) (lo hi mx : Option AV) (K : AV → Option R) : Option R :=
  match mx with
  | some _ => none
  | none =>
  match natA lo 0, natA hi s.length with
  | some l, some u => (match Nat.ble l u && Nat.ble u s.length with
    | true => fList ((s.take u).drop l) fun s => K (.str s)
    | false => none)
  | _, _ => none

def allSize (n : Nat) : List (List AV) → Bool
  | [] => true
  | r :: l => match r.length == n with | true => allSize n l | false => false
omit [Gl] in
theorem allSize_ok {n : Nat} : ∀ {l : List (List AV)}, allSize n l = true → ∀ r ∈ l, r.length = n
  | [], _, r, hr => by cases hr
  | a :: l, h, r, hr => by
    unfold allSize at h
    split at h
    · rename_i hc
      rcases List.mem_cons.1 hr with rfl | hr
      · simpa using hc
      · exact allSize_ok h r hr
    · cases h

def capK (c : Option Nat) (l : Nat) (k : Option Nat → Option R) : Option R :=
  match c with
  | none => k none
  | some c => fNat (c - l) fun c => k (some c)
theorem capK_eq (c : Option Nat) (l : Nat) (k : Option Nat → Option R) : capK c l k = k (c.map (· - l)) := by
  cases c <;> simp [capK, fNat_eq]

def sliceVsE (size : Nat) (es : List (List AV)) (capo : Option Nat) (lo hi mx : Option AV) (K : AV → Option R) : Option R :=
  match allSize size es with
  | false => none
  | true =>
  match natA lo 0, natA hi es.length with
  | some l, some u => (match mx with
    | none => (match Nat.ble l u && Nat.ble u es.length with
      | true => fList ((es.take u).drop l) fun es => capK capo l fun c => K (.vs es c)
      | false => none)
    | some (.int _ (.ofNat m)) => (match hi.isSome && Nat.ble l u && Nat.ble u m && Nat.ble m es.length with
      | true => fList ((es.take u).drop l) fun es => fNat (m - l) fun c => K (.vs es (some c))
      | false => none)
    | _ => none)
  | _, _ => none

def sliceNilE (lo hi mx : Option AV) (K : AV → Option R) : Option R :=
  match mx with
  | some _ => none
  | none => (match natA lo 0, natA hi 0 with
    | some 0, some 0 => K .nils
    | _, _ => none)

def sliceMsE (e : EH) (size b s len : Nat) (capo : Option Nat) (lo hi mx : Option AV) (K : AV → Option R) : Option R :=
  match e.get b with
  | some (.rows rs _ _) =>
    (match allSize size rs with
    | false => none
    | true =>
    match natA lo 0, natA hi len with
    | some l, some u => (match mx with
      | none => (match Nat.ble l u && Nat.ble u len with
        | true => (match Nat.beq l 0 || Nat.blt l u with
          | true => fNat (s + l) fun s => fNat (u - l) fun n => capK capo l fun c => K (.ms b s n c)
          | false => (match Nat.beq l u with | true => K (.vs [] none) | false => none))
        | false => none)
      | some (.int _ (.ofNat m)) => (match hi.isSome && Nat.ble l u && Nat.ble u m && Nat.ble m len with
        | true => (match Nat.beq l 0 || Nat.blt l m with
          | true => fNat (s + l) fun s => fNat (u - l) fun n => fNat (m - l) fun c => K (.ms b s n (some c))
          | false => (match Nat.beq l m with | true => K (.vs [] (some 0)) | false => none))
        | false => none)
      | _ => none)
    | _, _ => none)
  | _ => none

def sliceE (e : EH) (t : TypeId) (x : AV) (lo hi mx : Option AV) (K : AV → Option R) : Option R :=
  match T t with
  | none => none
  | some ti =>
    match ti.desc with
    | .string => (match x with | .str s => sliceStrE s lo hi mx K | _ => none)
    | .slice el => (match T el with
      | none => none
      | some ei => (match x with
        | .vs es c => sliceVsE ei.size es c lo hi mx K
        | .nils => sliceNilE lo hi mx K
        | .ms b s len c => sliceMsE e ei.size b s len c lo hi mx K
        | _ => none))
    | _ => none

theorem sliceE_ok {e : EH} (he : e.ok) {t : TypeId} {x : AV} {lo hi mx : Option AV} {K : AV → Option R} {y : R} (h : sliceE T e t x lo hi mx K = some y) : Gave K y (sliceW T e.abs t x lo hi mx) := by
  unfold sliceE at h
  split at h
  · cases h
  · rename_i ti ht
    split at h
    · rename_i hd
      split at h
      · rename_i s
        unfold sliceStrE at h
        split at h
        · cases h
        · split at h
          · rename_i l u hl hu
            split at h
            · rename_i hc
              rw [fList_eq] at h
              simp only [Bool.and_eq_true, Nat.ble_eq] at hc
              refine ⟨_, h, fun Q hq => ?_⟩
              simp only [sliceW, ht, hd, natA_low hl, natA_high hu]
              exact ⟨⟨Int.natCast_nonneg l, Int.ofNat_le.2 hc.1, Int.ofNat_le.2 hc.2⟩, hq⟩
            · cases h
          · cases h
      · cases h
    · rename_i el hd
      split at h
      · cases h
      · rename_i ei hei
        split at h
        · rename_i es capo
          unfold sliceVsE at h
          split at h
          · cases h
          · rename_i hall
            have hall := allSize_ok hall
            split at h
            · rename_i l u hl hu
              split at h
              · split at h
                · rename_i hc
                  rw [fList_eq, capK_eq] at h
                  simp only [Bool.and_eq_true, Nat.ble_eq] at hc
                  refine ⟨_, h, fun Q hq => ?_⟩
                  simp only [sliceW, ht, hd, hei, natA_low hl, natA_high hu]
                  exact ⟨⟨Int.natCast_nonneg l, Int.ofNat_le.2 hc.1, Int.ofNat_le.2 hc.2⟩, hall, hq⟩
                · cases h
              · rename_i k m
                split at h
                · rename_i hc
                  rw [fList_eq, fNat_eq] at h
                  simp only [Bool.and_eq_true, Nat.ble_eq] at hc
                  obtain ⟨⟨⟨h1, h2⟩, h3⟩, h4⟩ := hc
                  refine ⟨_, h, fun Q hq => ?_⟩
                  simp only [sliceW, ht, hd, hei, natA_low hl, natA_high hu]
                  exact ⟨h1, ⟨Int.natCast_nonneg l, Int.ofNat_le.2 h2, Int.ofNat_le.2 h3, Int.ofNat_le.2 h4⟩, hall, hq⟩
                · cases h
              · cases h
            · cases h
        · unfold sliceNilE at h
          split at h
          · cases h
          · split at h
            · rename_i hl hu
              refine ⟨_, h, fun Q hq => ?_⟩
              simp only [sliceW, ht, hd, hei, natA_low hl, natA_high hu]
              exact ⟨⟨rfl, rfl⟩, hq⟩
            · cases h
        · rename_i b s len capo
          unfold sliceMsE at h
          rw [EH.get_abs he] at h
          split at h
          · rename_i rs g fz hb
            split at h
            · cases h
            · rename_i hall
              have hall := allSize_ok hall
              split at h
              · rename_i l u hl hu
                split at h
                · split at h
                  · rename_i hc
                    simp only [Bool.and_eq_true, Nat.ble_eq] at hc
                    have hb3 : (0 : Int) ≤ l ∧ (l : Int) ≤ u ∧ (u : Int) ≤ len := ⟨Int.natCast_nonneg l, Int.ofNat_le.2 hc.1, Int.ofNat_le.2 hc.2⟩
                    split at h
                    · rename_i hz
                      rw [fNat_eq, fNat_eq, capK_eq] at h
                      simp only [Bool.or_eq_true, Nat.beq_eq, Nat.blt_eq] at hz
                      refine ⟨_, h, fun Q hq => ?_⟩
                      simp only [sliceW, ht, hd, hei, natA_low hl, natA_high hu, hb]
                      exact ⟨hb3, hall, .inl ⟨by omega, hq⟩⟩
                    · split at h
                      · rename_i hz
                        rw [Nat.beq_eq] at hz
                        refine ⟨_, h, fun Q hq => ?_⟩
                        simp only [sliceW, ht, hd, hei, natA_low hl, natA_high hu, hb]
                        exact ⟨hb3, hall, .inr ⟨by omega, hq⟩⟩
                      · cases h
                  · cases h
                · rename_i k m
                  split at h
                  · rename_i hc
                    simp only [Bool.and_eq_true, Nat.ble_eq] at hc
                    obtain ⟨⟨⟨h1, h2⟩, h3⟩, h4⟩ := hc
                    have hb3 : (0 : Int) ≤ l ∧ (l : Int) ≤ u ∧ (u : Int) ≤ m ∧ (m : Int) ≤ len := ⟨Int.natCast_nonneg l, Int.ofNat_le.2 h2, Int.ofNat_le.2 h3, Int.ofNat_le.2 h4⟩
                    split at h
                    · rename_i hz
                      rw [fNat_eq, fNat_eq, fNat_eq] at h
                      simp only [Bool.or_eq_true, Nat.beq_eq, Nat.blt_eq] at hz
                      refine ⟨_, h, fun Q hq => ?_⟩
                      simp only [sliceW, ht, hd, hei, natA_low hl, natA_high hu, hb]
                      exact ⟨h1, hb3, hall, .inl ⟨by rw [Int.ofNat_eq_natCast]; omega, hq⟩⟩
                    · split at h
                      · rename_i hz
                        rw [Nat.beq_eq] at hz
                        refine ⟨_, h, fun Q hq => ?_⟩
                        simp only [sliceW, ht, hd, hei, natA_low hl, natA_high hu, hb]
                        exact ⟨h1, hb3, hall, .inr ⟨by rw [Int.ofNat_eq_natCast]; omega, hq⟩⟩
                      · cases h
                  · cases h
                · cases h
              · cases h
          · cases h
        · cases h
    · cases h

def rowsE (e : EH) (x : AV) : Option (List (List AV)) :=
  match x with
  | .vs es _ => some es
  | .nils => some []
  | .str s => some (s.map fun c => [.int .u8 c.toNat])
  | .ms b i len _ => (match e.get b with
    | some (.rows rs _ _) => (match Nat.ble (i + len) rs.length with | true => some ((rs.drop i).take len) | false => none)
    | _ => none)
  | _ => none

theorem rowsE_eq {e : EH} (he : e.ok) {x : AV} {new : List (List AV)} (h : rowsE e x = some new) : rowsOf e.abs x = some new := by
  unfold rowsE at h
  split at h
  · exact h
  · exact h
  · exact h
  · rw [EH.get_abs he] at h
    split at h
    · rename_i rs g fz hb
      split at h
      · rename_i hc
        rw [Nat.ble_eq] at hc
        simp only [rowsOf, hb]
        rw [if_pos hc]; exact h
      · cases h
    · cases h
  · cases h

/-- Rows that may lie in a block. -/
def goodRows (size : Nat) : List (List AV) → Bool
  | [] => true
  | r :: l => match r.length == size && r.all okc with | true => goodRows size l | false => false
omit [Gl] in
theorem goodRows_ok {n : Nat} : ∀ {l : List (List AV)}, goodRows n l = true → ∀ r ∈ l, r.length = n ∧ r.all okc = true
  | [], _, r, hr => by cases hr
  | a :: l, h, r, hr => by
    unfold goodRows at h
    split at h
    · rename_i hc
      rcases List.mem_cons.1 hr with rfl | hr
      · simpa using hc
      · exact goodRows_ok h r hr
    · cases h

def appendMsE (e : EH) (size bytes : Nat) (b i len : Nat) (capo : Option Nat) (rs : List (List AV)) (g : Bool) (new : List (List AV)) (nl : Nat) (K : AV → EH → Option R) : Option R :=
  match goodRows size rs && Nat.ble ((len + nl) * bytes) 140737488355328 with
  | false => none
  | true =>
  match capo with
  | none => (match Nat.beq i 0 && Nat.blt 0 len && len == rs.length with
    | true => fList (rs ++ new) fun rs => e.put b (.rows rs true false) fun e => fNat (len + nl) fun l => K (.ms b 0 l none) e
    | false => none)
  | some c => (match Nat.blt c (len + nl) with
    | true => (match Nat.ble (i + len) rs.length with
      | true => fList ((rs.drop i).take len ++ new) fun rs => e.push (.rows rs true false) fun e' => fNat (len + nl) fun l => K (.ms e.n 0 l none) e'
      | false => none)
    | false => (match g with
      | true => none
      | false => (match Nat.ble (i + len + nl) rs.length with
        | true => fList (rs.take (i + len) ++ new ++ rs.drop (i + len + nl)) fun rs => e.put b (.rows rs false false) fun e => fNat (len + nl) fun l => K (.ms b i l (some c)) e
        | false => none)))

def appendE (e : EH) (t : TypeId) (s x : AV) (K : AV → EH → Option R) : Option R :=
  match T t with
  | none => none
  | some ti =>
  match ti.desc with
  | .slice el =>
    (match T el with
    | none => none
    | some ei =>
      match rowsE e x with
      | none => none
      | some new => fList new fun new => match Nat.blt 0 ei.size && Nat.blt 0 ei.bytes && goodRows ei.size new with
        | false => none
        | true => (match s with
          | .nils => (match new with
            | [] => K .nils e
            | _ :: _ => (match Nat.ble (new.length * ei.bytes) 140737488355328 with
              | true => e.push (.rows new true false) fun e' => fNat new.length fun l => K (.ms e.n 0 l none) e'
              | false => none))
          | .vs es capo => (match new with
            | [] => K (.vs es capo) e
            | _ :: _ => (match capo with
              | none => none
              | some c => (match Nat.blt c (es.length + new.length) && goodRows ei.size es && Nat.ble ((es.length + new.length) * ei.bytes) 140737488355328 with
                | true => fList (es ++ new) fun rs => e.push (.rows rs true false) fun e' => fNat (es.length + new.length) fun l => K (.ms e.n 0 l none) e'
                | false => none)))
          | .ms b i len capo => (match e.get b with
            | some (.rows rs g false) => (match new with
              | [] => K (.ms b i len capo) e
              | _ :: _ => appendMsE e ei.size ei.bytes b i len capo rs g new new.length K)
            | _ => none)
          | _ => none))
  | _ => none

/-- A new name, where a block has grown. -/
def moveE (r : AV) (e : EH) (K : AV → EH → Option R) : Option R :=
  match r with
  | .ms b 0 n none => (match e.get b with
    | some (.rows rs true false) => (match n == rs.length with
      | true => e.kill b fun e => e.push (.rows rs false false) fun e' => K (.ms e.n 0 n none) e'
      | false => K r e)
    | _ => K r e)
  | _ => K r e

theorem moveE_ok {r : AV} {e : EH} (he : e.ok) {K : AV → EH → Option R} {y : R} (h : moveE r e K = some y) : Went K y fun Q => Q r e.abs ∨ moveW e.abs r Q := by
  have stay : K r e = some y → Went K y fun Q => Q r e.abs ∨ moveW e.abs r Q := fun h => ⟨r, e, he, h, fun Q hq => .inl hq⟩
  unfold moveE at h
  split at h
  · rename_i b n
    rw [EH.get_abs he] at h
    split at h
    · rename_i rs hb
      split at h
      · rename_i hn
        rw [beq_iff_eq] at hn
        obtain ⟨e1, k1, k2, k3, k4⟩ := EH.kill_ok he h
        obtain ⟨e2, m1, m2, m3⟩ := EH.push_ok k1 k4
        refine ⟨_, e2, m1, m3, fun Q hq => .inr ?_⟩
        simp only [moveW, hb]
        refine ⟨hn, ?_⟩
        rw [EH.len he, ← k3, ← k2, ← m2]
        exact hq
      · exact stay h
    · exact stay h
  · exact stay h

theorem appendE_ok {e : EH} (he : e.ok) {t : TypeId} {s x : AV} {K : AV → EH → Option R} {y : R} (h : appendE T e t s x K = some y) : Went K y (appendW T e.abs t s x) := by
  unfold appendE at h
  split at h
  · cases h
  · rename_i ti ht
    split at h
    · rename_i el hd
      obtain ⟨d, sz, by', ze, cm⟩ := ti
      simp only at hd; subst hd
      split at h
      · cases h
      · rename_i ei hei
        split at h
        · cases h
        · rename_i new hnew
          rw [fList_eq] at h
          have hnew := rowsE_eq he hnew
          split at h
          · cases h
          · rename_i hc
            simp only [Bool.and_eq_true, Nat.blt_eq] at hc
            obtain ⟨⟨hc1, hc2⟩, hc3⟩ := hc
            have hc3 := goodRows_ok hc3
            split at h
            · split at h
              · refine ⟨_, e, he, h, fun Q hq => ?_⟩
                simp only [appendW, ht, hei, hnew, List.length_nil, if_true]
                exact ⟨⟨hc1, hc2⟩, hc3, hq⟩
              · rename_i a l
                split at h
                · rename_i hb
                  rw [Nat.ble_eq] at hb
                  obtain ⟨e', h1, h2, h3⟩ := EH.push_ok he h
                  rw [fNat_eq] at h3
                  refine ⟨_, e', h1, h3, fun Q hq => ?_⟩
                  simp only [appendW, ht, hei, hnew, EH.len he]
                  rw [if_neg (by simp)]
                  exact ⟨⟨hc1, hc2⟩, hc3, hb, h2 ▸ hq⟩
                · cases h
            · rename_i es capo
              split at h
              · refine ⟨_, e, he, h, fun Q hq => ?_⟩
                simp only [appendW, ht, hei, hnew, List.length_nil, if_true]
                exact ⟨⟨hc1, hc2⟩, hc3, hq⟩
              · rename_i a l
                split at h
                · cases h
                · rename_i c
                  split at h
                  · rename_i hb
                    simp only [Bool.and_eq_true, Nat.ble_eq, Nat.blt_eq] at hb
                    rw [fList_eq] at h
                    obtain ⟨e', h1, h2, h3⟩ := EH.push_ok he h
                    rw [fNat_eq] at h3
                    refine ⟨_, e', h1, h3, fun Q hq => ?_⟩
                    simp only [appendW, ht, hei, hnew, EH.len he]
                    rw [if_neg (by simp)]
                    exact ⟨⟨hc1, hc2⟩, hc3, ⟨c, rfl, hb.1.1⟩, goodRows_ok hb.1.2, hb.2, h2 ▸ hq⟩
                  · cases h
            · rename_i b i len capo
              rw [EH.get_abs he] at h
              split at h
              · rename_i rs g hbl
                split at h
                · refine ⟨_, e, he, h, fun Q hq => ?_⟩
                  simp only [appendW, ht, hei, hnew, hbl, List.length_nil, if_true]
                  exact ⟨⟨hc1, hc2⟩, hc3, hq⟩
                · rename_i a l
                  unfold appendMsE at h
                  split at h
                  · cases h
                  · rename_i hb
                    simp only [Bool.and_eq_true, Nat.ble_eq] at hb
                    have hgood := goodRows_ok hb.1
                    split at h
                    · split at h
                      · rename_i hz
                        simp only [Bool.and_eq_true, Nat.beq_eq, Nat.blt_eq, beq_iff_eq] at hz
                        rw [fList_eq] at h
                        obtain ⟨e', h1, h2, h3⟩ := EH.put_ok he h
                        rw [fNat_eq] at h3
                        refine ⟨_, e', h1, h3, fun Q hq => ?_⟩
                        simp only [appendW, ht, hei, hnew, hbl]
                        rw [if_neg (by simp)]
                        exact ⟨⟨hc1, hc2⟩, hc3, hgood, hb.2, ⟨hz.1.1, hz.1.2, hz.2⟩, h2 ▸ hq⟩
                      · cases h
                    · rename_i c
                      split at h
                      · rename_i hz
                        rw [Nat.blt_eq] at hz
                        split at h
                        · rename_i hz2
                          rw [Nat.ble_eq] at hz2
                          rw [fList_eq] at h
                          obtain ⟨e', h1, h2, h3⟩ := EH.push_ok he h
                          rw [fNat_eq] at h3
                          refine ⟨_, e', h1, h3, fun Q hq => ?_⟩
                          simp only [appendW, ht, hei, hnew, hbl, EH.len he]
                          rw [if_neg (by simp)]
                          exact ⟨⟨hc1, hc2⟩, hc3, hgood, hb.2, .inl ⟨hz, hz2, h2 ▸ hq⟩⟩
                        · cases h
                      · rename_i hz
                        have hz := (Bool.eq_false_iff.1 hz)
                        rw [ne_eq, Nat.blt_eq] at hz
                        split at h
                        · cases h
                        · split at h
                          · rename_i hz2
                            rw [Nat.ble_eq] at hz2
                            rw [fList_eq] at h
                            obtain ⟨e', h1, h2, h3⟩ := EH.put_ok he h
                            rw [fNat_eq] at h3
                            refine ⟨_, e', h1, h3, fun Q hq => ?_⟩
                            simp only [appendW, ht, hei, hnew, hbl]
                            rw [if_neg (by simp)]
                            exact ⟨⟨hc1, hc2⟩, hc3, hgood, hb.2, .inr ⟨by omega, trivial, hz2, h2 ▸ hq⟩⟩
                          · cases h
              · cases h
            · cases h
    · cases h

def convTextE (e : EH) (el : TypeId) (x : AV) (K : AV → EH → Option R) : Option R :=
  match T el with
  | none => none
  | some ei => (match ei.desc with
    | .int .u8 => (match rowsE e x with
      | none => none
      | some rows => (match sliceB x with
        | false => none
        | true => (match bytesA rows with
          | some s => fList s fun s => K (.str s) e
          | none => none)))
    | _ => none)

def convRowsE (e : EH) (el : TypeId) (s : List UInt8) (K : AV → EH → Option R) : Option R :=
  match T el with
  | none => none
  | some ei => (match ei.desc with
    | .int .u8 => fList (s.map fun c => [AV.int .u8 c.toNat]) fun rows => K (.vs rows none) e
    | _ => none)

def convAE (e : EH) (src dst : TypeId) (x : AV) (K : AV → EH → Option R) : Option R :=
  match T src with
  | none => none
  | some si => (match T dst with
    | none => none
    | some di => (match di.desc with
      | .slice el => (match si.desc with
        | .string => (match x with | .str s => convRowsE T e el s K | _ => none)
        | _ => none)
      | .string => (match si.desc with
        | .slice el => convTextE T e el x K
        | _ => convE T e src dst x K)
      | _ => convE T e src dst x K))

theorem convAE_ok {e : EH} (he : e.ok) {src dst : TypeId} {x : AV} {K : AV → EH → Option R} {y : R} (h : convAE T e src dst x K = some y) :
    Quiet K e y fun Q => convW T e.abs src dst x Q ∨ convBytesW T e.abs src dst x Q := by
  have old : convE T e src dst x K = some y → Quiet K e y fun Q => convW T e.abs src dst x Q ∨ convBytesW T e.abs src dst x Q := fun h => by
    obtain ⟨r, h1, h2⟩ := convE_ok T h
    exact ⟨r, h1, fun Q hq => .inl (h2 Q hq)⟩
  unfold convAE at h
  split at h
  · cases h
  · rename_i si hs
    split at h
    · cases h
    · rename_i di hd
      split at h
      · rename_i el hdd
        split at h
        · rename_i hsd
          split at h
          · rename_i s
            unfold convRowsE at h
            split at h
            · cases h
            · rename_i ei hei
              split at h
              · rename_i hu
                rw [fList_eq] at h
                refine ⟨_, h, fun Q hq => .inr ?_⟩
                simp only [convBytesW, hs, hd, hsd, hdd, hei]
                exact ⟨hu, hq⟩
              · cases h
          · cases h
        · cases h
      · rename_i hdd
        split at h
        · rename_i el hsd
          unfold convTextE at h
          split at h
          · cases h
          · rename_i ei hei
            split at h
            · rename_i hu
              split at h
              · cases h
              · rename_i rows hrows
                split at h
                · cases h
                · rename_i hsl
                  split at h
                  · rename_i s hby
                    rw [fList_eq] at h
                    refine ⟨_, h, fun Q hq => .inr ?_⟩
                    simp only [convBytesW, hs, hd, hsd, hdd, hei, rowsE_eq he hrows]
                    exact ⟨hu, hsl, s, hby, hq⟩
                  · cases h
            · cases h
        · exact old h
      · exact old h

def lenE (e : EH) (t : TypeId) (x : AV) (K : AV → Option R) : Option R :=
  match T t with
  | none => none
  | some ti =>
    match ti.desc with
    | .string => (match x with | .str s => fNat s.length fun n => K (.int .i64 (.ofNat n)) | _ => none)
    | .array n _ => K (.int .i64 (.ofNat n))
    | .slice _ => (match x with
      | .vs es _ => fNat es.length fun n => K (.int .i64 (.ofNat n))
      | .ms b _ len _ => (match e.get b with | some (.rows _ _ _) => K (.int .i64 (.ofNat len)) | _ => none)
      | .nils => K (.int .i64 (.ofNat 0))
      | _ => none)
    | _ => none

theorem lenE_ok {e : EH} (he : e.ok) {t : TypeId} {x : AV} {K : AV → Option R} {y : R} (h : lenE T e t x K = some y) : Gave K y (lenW T e.abs t x) := by
  unfold lenE at h
  split at h
  · cases h
  · rename_i ti ht
    split at h
    · rename_i hd
      split at h
      · rw [fNat_eq] at h
        exact ⟨_, h, fun Q hq => by simp only [lenW, ht, hd]; exact hq⟩
      · cases h
    · rename_i n el hd
      exact ⟨_, h, fun Q hq => by simp only [lenW, ht, hd]; exact hq⟩
    · rename_i el hd
      split at h
      · rw [fNat_eq] at h
        exact ⟨_, h, fun Q hq => by simp only [lenW, ht, hd]; exact hq⟩
      · rw [EH.get_abs he] at h
        split at h
        · rename_i hb
          exact ⟨_, h, fun Q hq => by simp only [lenW, ht, hd, hb]; exact hq⟩
        · cases h
      · exact ⟨_, h, fun Q hq => by simp only [lenW, ht, hd]; exact hq⟩
      · cases h
    · cases h

end ops
end
end Go.Abs

namespace Go.Abs
noncomputable section
variable [Gl]

section ops
variable {R : Type} (T : Tab)

def nthKC : List AV → Nat → (AV → Option R) → Option R
  | [], _, k => k .junk
  | x :: l, n, k => match n with | 0 => k x | p + 1 => nthKC l p k
noncomputable def nthK (l : List AV) : Nat → (AV → Option R) → Option R :=
  List.rec (motive := fun _ => Nat → (AV → Option R) → Option R) (fun _ k => k .junk) (fun x _ ih n k => Nat.rec (k x) (fun p _ => ih p k) n) l
omit [Gl] in
theorem nthK_eq : ∀ (l : List AV) (n : Nat) (k : AV → Option R), nthK l n k = k (l.getD n .junk)
  | [], _, k => by rw [List.getD_nil]; rfl
  | x :: l, 0, k => by rw [List.getD_cons_zero]; rfl
  | x :: l, n + 1, k => by rw [List.getD_cons_succ]; exact nthK_eq l n k

/-- The places of a frame, eight in a list. -/
abbrev TS := List (List AV)

def okT : TS → Prop
  | [] => True
  | c :: r => match r with
    | [] => c.length ≤ 8
    | _ :: _ => c.length = 8 ∧ okT r

def nthCC : TS → Nat → (List AV → Option R) → Option R
  | [], _, k => k []
  | c :: l, n, k => match n with | 0 => k c | p + 1 => nthCC l p k
noncomputable def nthC (l : TS) : Nat → (List AV → Option R) → Option R :=
  List.rec (motive := fun _ => Nat → (List AV → Option R) → Option R) (fun _ k => k []) (fun c _ ih n k => Nat.rec (k c) (fun p _ => ih p k) n) l

def tsGet (ts : TS) (n : Nat) (k : AV → Option R) : Option R := nthC ts (n / 8) fun c => nthK c (n % 8) k

omit [Gl] in
theorem okT_tail {c : List AV} {r : TS} (h : okT (c :: r)) : okT r := by
  cases r with
  | nil => trivial
  | cons d r => exact h.2

theorem tsGet_eq : ∀ (ts : TS) (n : Nat) (k : AV → Option R), okT ts → tsGet ts n k = k (ts.flatten.getD n .junk)
  | [], n, k, _ => by
    show nthK [] (n % 8) k = _
    rw [nthK_eq]; simp
  | c :: r, n, k, h => by
    rcases Nat.lt_or_ge n 8 with hn | hn
    · have e1 : n / 8 = 0 := by omega
      have e2 : n % 8 = n := by omega
      show nthC (c :: r) (n / 8) (fun c => nthK c (n % 8) k) = _
      rw [e1, e2]
      show nthK c n k = _
      rw [nthK_eq]
      congr 1
      cases r with
      | nil => simp
      | cons d r =>
        have hc : c.length = 8 := h.1
        rw [List.flatten_cons, List.getD_eq_getElem?_getD, List.getD_eq_getElem?_getD, List.getElem?_append_left (by omega)]
    · have e1 : n / 8 = (n - 8) / 8 + 1 := by omega
      have e2 : n % 8 = (n - 8) % 8 := by omega
      show nthC (c :: r) (n / 8) (fun c => nthK c (n % 8) k) = _
      rw [e1, e2]
      show tsGet r (n - 8) k = _
      rw [tsGet_eq r (n - 8) k (okT_tail h)]
      congr 1
      cases r with
      | nil =>
        have hc : c.length ≤ 8 := h
        simp [List.getD_eq_getElem?_getD, List.getElem?_eq_none (show c.length ≤ n by omega)]
      | cons d r =>
        have hc : c.length = 8 := h.1
        rw [List.flatten_cons (l := c), List.getD_eq_getElem?_getD, List.getD_eq_getElem?_getD, List.getElem?_append_right (by omega), hc]

def putT : TS → Nat → Nat → AV → TS
  | [], _, _, _ => []
  | c :: l, 0, r, x => c.set r x :: l
  | c :: l, q + 1, r, x => c :: putT l q r x

def setCC : TS → Nat → Nat → AV → (TS → Option R) → Option R
  | [], _, _, _, k => k []
  | c :: l, n, r, x, k => match n with | 0 => setL c r x fun c' => k (c' :: l) | p + 1 => setCC l p r x fun l' => k (c :: l')
noncomputable def setC (l : TS) : Nat → Nat → AV → (TS → Option R) → Option R :=
  List.rec (motive := fun _ => Nat → Nat → AV → (TS → Option R) → Option R) (fun _ _ _ k => k [])
    (fun c l ih n r x k => Nat.rec (setL c r x fun c' => k (c' :: l)) (fun p _ => ih p r x fun l' => k (c :: l')) n) l
theorem setC_eq : ∀ (ts : TS) (q r : Nat) (x : AV) (k : TS → Option R), setC ts q r x k = k (putT ts q r x)
  | [], _, _, _, _ => rfl
  | c :: l, 0, r, x, k => by show setL c r x (fun c' => k (c' :: l)) = _; rw [setL_eq]; rfl
  | c :: l, q + 1, r, x, k => by show setC l q r x (fun l' => k (c :: l')) = _; rw [setC_eq l]; rfl

omit [Gl] in
theorem putT_nil {ts : TS} {q r : Nat} {x : AV} : putT ts q r x = [] ↔ ts = [] := by
  cases ts <;> cases q <;> simp [putT]

omit [Gl] in
theorem putT_ok : ∀ (ts : TS) (q r : Nat) (x : AV), okT ts → okT (putT ts q r x)
  | [], _, _, _, _ => trivial
  | [c], 0, r, x, h => by show (c.set r x).length ≤ 8; rw [List.length_set]; exact h
  | [c], q + 1, r, x, h => h
  | c :: d :: l, 0, r, x, h => ⟨by rw [List.length_set]; exact h.1, h.2⟩
  | c :: d :: l, q + 1, r, x, h => by
    have := putT_ok (d :: l) q r x h.2
    cases q with
    | zero => exact ⟨h.1, this⟩
    | succ q => exact ⟨h.1, this⟩

theorem putT_flatten : ∀ (ts : TS) (n : Nat) (x : AV), okT ts → (putT ts (n / 8) (n % 8) x).flatten = ts.flatten.set n x
  | [], _, _, _ => by simp [putT]
  | c :: r, n, x, h => by
    rcases Nat.lt_or_ge n 8 with hn | hn
    · have e1 : n / 8 = 0 := by omega
      have e2 : n % 8 = n := by omega
      rw [e1, e2]
      show (c.set n x :: r).flatten = _
      cases r with
      | nil => simp
      | cons d r =>
        have hc : c.length = 8 := h.1
        rw [List.flatten_cons, List.flatten_cons (l := c), List.set_append_left _ _ (by omega)]
    · have e1 : n / 8 = (n - 8) / 8 + 1 := by omega
      have e2 : n % 8 = (n - 8) % 8 := by omega
      rw [e1, e2]
      show (c :: putT r ((n - 8) / 8) ((n - 8) % 8) x).flatten = _
      rw [List.flatten_cons, putT_flatten r (n - 8) x (okT_tail h), List.flatten_cons]
      cases r with
      | nil =>
        have hc : c.length ≤ 8 := h
        simp [List.set_eq_of_length_le (show c.length ≤ n by omega)]
      | cons d r =>
        have hc : c.length = 8 := h.1
        rw [List.set_append_right _ _ (by omega), hc]

def chunkF : Nat → List AV → TS
  | 0, _ => []
  | n + 1, l => match l with
    | [] => []
    | x :: r => (x :: r.take 7) :: chunkF n (r.drop 7)

omit [Gl] in
theorem chunkF_flatten : ∀ (n : Nat) (l : List AV), l.length ≤ n → (chunkF n l).flatten = l
  | 0, l, h => by cases l <;> simp_all [chunkF]
  | n + 1, [], _ => by simp [chunkF]
  | n + 1, x :: r, h => by
    rw [chunkF, List.flatten_cons, chunkF_flatten n (r.drop 7) (by simp at h ⊢; omega)]
    simp

theorem chunkF_nil {n : Nat} {l : List AV} (h : l.length ≤ n) (hc : chunkF n l = []) : l = [] := by
  have := chunkF_flatten n l h
  rw [hc] at this
  exact this.symm

omit [Gl] in
theorem chunkF_ok : ∀ (n : Nat) (l : List AV), l.length ≤ n → okT (chunkF n l)
  | 0, l, _ => trivial
  | n + 1, [], _ => trivial
  | n + 1, x :: r, h => by
    have ih := chunkF_ok n (r.drop 7) (by simp at h ⊢; omega)
    rw [chunkF]
    cases hr : chunkF n (r.drop 7) with
    | nil => show (x :: r.take 7).length ≤ 8; simp; omega
    | cons d l =>
      rw [hr] at ih
      refine ⟨?_, ih⟩
      have : r.drop 7 ≠ [] := fun e => by
        rw [e] at hr
        cases n <;> simp [chunkF] at hr
      have h7 : 7 < r.length := by
        rcases Nat.lt_or_ge 7 r.length with h | h
        · exact h
        · exact absurd (List.drop_eq_nil_of_le h) this
      simp; omega

def evTmp (t : Tmp) (ts : TS) (k : AV → Option R) : Option R := tsGet ts t k
def evConst (v : Value) (_ : TS) (k : AV → Option R) : Option R := fAV (ofV v) k
def evGlob (g : Nat) (_ : TS) (k : AV → Option R) : Option R := k (.gp g 0)
def evFunc (f : FuncId) (_ : TS) (k : AV → Option R) : Option R := k (.fn (.func f) [] [])
def evSelC (o : Operand) : TS → (AV → Option R) → Option R :=
  match o with
  | .tmp t => evTmp t
  | .const v => evConst v
  | .global g => evGlob g
  | .func f => evFunc f
noncomputable def evSel (o : Operand) : TS → (AV → Option R) → Option R :=
  Operand.rec (motive := fun _ => TS → (AV → Option R) → Option R) evTmp evConst evGlob evFunc o
def evK (ts : TS) (o : Operand) (k : AV → Option R) : Option R := evSel o ts k
theorem evK_eq {ts : TS} (ht : okT ts) (h : Heap) (o : Operand) (k : AV → Option R) : evK ts o k = k (St.ev ⟨ts.flatten, h⟩ o) := by
  cases o with
  | tmp t => exact tsGet_eq ts t k ht
  | const v => exact fAV_eq (ofV v) k
  | global g => rfl
  | func f => rfl

def evsK (ts : TS) : List Operand → (List AV → Option R) → Option R
  | [], k => k []
  | o :: l, k => evK ts o fun x => evsK ts l fun xs => k (x :: xs)
theorem evsK_eq {ts : TS} (ht : okT ts) (h : Heap) : ∀ (l : List Operand) (k : List AV → Option R), evsK ts l k = k (l.map (St.ev ⟨ts.flatten, h⟩))
  | [], _ => rfl
  | o :: l, k => by rw [evsK, evK_eq ht h, evsK_eq ht h l]; rfl

def evoK (ts : TS) (o : Option Operand) (k : Option AV → Option R) : Option R :=
  match o with
  | none => k none
  | some o => evK ts o fun x => k (some x)
theorem evoK_eq {ts : TS} (ht : okT ts) (h : Heap) (o : Option Operand) (k : Option AV → Option R) : evoK ts o k = k (o.map (St.ev ⟨ts.flatten, h⟩)) := by
  cases o with
  | none => rfl
  | some o => rw [evoK, evK_eq ht h]; rfl

def evpK (ts : TS) : List (Nat × Operand) → (List (Nat × AV) → Option R) → Option R
  | [], k => k []
  | (i, o) :: l, k => evK ts o fun x => evpK ts l fun xs => k ((i, x) :: xs)
theorem evpK_eq {ts : TS} (ht : okT ts) (h : Heap) : ∀ (l : List (Nat × Operand)) (k : List (Nat × AV) → Option R), evpK ts l k = k (l.map fun p => (p.1, St.ev ⟨ts.flatten, h⟩ p.2))
  | [], _ => rfl
  | (i, o) :: l, k => by rw [evpK, evK_eq ht h, evpK_eq ht h l]; rfl

def putK (ts : TS) (d : Option Tmp) (x : AV) (k : TS → Option R) : Option R :=
  match d with
  | none => k ts
  | some d => setC ts (d / 8) (d % 8) x k
theorem putK_ok {ts : TS} (ht : okT ts) {d : Option Tmp} {x : AV} {k : TS → Option R} {y : R} (h : putK ts d x k = some y) : ∃ ts', okT ts' ∧ ts'.flatten = aput ts.flatten d x ∧ k ts' = some y := by
  cases d with
  | none => exact ⟨ts, ht, rfl, h⟩
  | some d =>
    rw [putK, setC_eq] at h
    exact ⟨_, putT_ok _ _ _ _ ht, putT_flatten ts d x ht, h⟩

def chunkK (l : List AV) (k : TS → Option R) : Option R := fRows (chunkF l.length l) k
theorem chunkK_ok {l : List AV} {k : TS → Option R} {y : R} (h : chunkK l k = some y) : ∃ ts, okT ts ∧ ts.flatten = l ∧ k ts = some y := by
  unfold chunkK at h
  rw [fRows_eq] at h
  exact ⟨_, chunkF_ok _ _ (Nat.le_refl _), chunkF_flatten _ _ (Nat.le_refl _), h⟩

/-- Values without names. -/
def allB {α : Type} (p : α → Bool) : List α → Bool
  | [] => true
  | a :: l => match p a with | true => allB p l | false => false
omit [Gl] in
theorem allB_ok {α : Type} {p : α → Bool} : ∀ {l : List α}, allB p l = true → ∀ x ∈ l, p x = true
  | [], _, x, hx => by cases hx
  | a :: l, h, x, hx => by
    unfold allB at h
    split at h
    · rename_i ha
      rcases List.mem_cons.1 hx with rfl | hx
      · exact ha
      · exact allB_ok h x hx
    · cases h

def pureB : Nat → AV → Bool
  | 0, _ => false
  | n + 1, x => match x with
    | .junk | .bool _ | .int _ _ | .str _ | .nilp | .nils | .nilf | .nili | .nilm | .gp _ _ => true
    | .agg cs => allB (pureB n) cs
    | .tup cs => allB (pureB n) cs
    | .vs es _ => allB (allB (pureB n)) es
    | .vp row _ => allB (pureB n) row
    | .fn _ a c => allB (pureB n) a && allB (pureB n) c
    | .ifc _ x => pureB n x
    | _ => false

theorem pureB_ok : ∀ (n : Nat) (x : AV), pureB n x = true → Pure x
  | 0, _, h => by cases h
  | n + 1, x, h => by
    have ih := pureB_ok n
    have all : ∀ {l : List AV}, allB (pureB n) l = true → ∀ (i : Nat) (hi : i < l.length), Pure l[i] := fun h i hi => ih _ (allB_ok h _ (List.getElem_mem hi))
    unfold pureB at h
    split at h
    · exact .junk
    · exact .bool _
    · exact .int _ _
    · exact .str _
    · exact .nilp
    · exact .nils
    · exact .nilf
    · exact .nili
    · exact .nilm
    · exact .gp _ _
    · exact .agg _ (all h)
    · exact .tup _ (all h)
    · exact .vs _ _ fun i hi j hj => all (allB_ok h _ (List.getElem_mem hi)) j hj
    · exact .vp _ _ (all h)
    · rw [Bool.and_eq_true] at h
      exact .fn _ _ _ (all h.1) (all h.2)
    · exact .ifc _ _ (ih _ h)
    · cases h

def plainB : Nat → AV → Bool
  | 0, _ => false
  | n + 1, x => match x with
    | .bool _ | .int _ _ | .str _ | .nilp | .nils | .nilf | .nili | .nilm => true
    | .agg cs => allB (plainB n) cs
    | .tup cs => allB (plainB n) cs
    | _ => false
theorem plainB_ok : ∀ (n : Nat) (x : AV), plainB n x = true → Plain x
  | 0, _, h => by cases h
  | n + 1, x, h => by
    have ih := plainB_ok n
    have all : ∀ {l : List AV}, allB (plainB n) l = true → ∀ (i : Nat) (hi : i < l.length), Plain l[i] := fun h i hi => ih _ (allB_ok h _ (List.getElem_mem hi))
    unfold plainB at h
    split at h
    · exact .bool _
    · exact .int _ _
    · exact .str _
    · exact .nilp
    · exact .nils
    · exact .nilf
    · exact .nili
    · exact .nilm
    · exact .agg _ (all h)
    · exact .tup _ (all h)
    · cases h

def frzL (f : AV → (AV → Option R) → Option R) : List AV → (List AV → Option R) → Option R
  | [], k => k []
  | a :: l, k => f a fun a' => frzL f l fun l' => k (a' :: l')
def frzLL (f : AV → (AV → Option R) → Option R) : List (List AV) → (List (List AV) → Option R) → Option R
  | [], k => k []
  | a :: l, k => frzL f a fun a' => frzLL f l fun l' => k (a' :: l')

/-- A value read to the bottom. -/
def frz : Nat → EH → AV → (AV → Option R) → Option R
  | 0, _, _, _ => none
  | n + 1, e, x, k => match x with
    | .agg cs => frzL (frz n e) cs fun cs => k (.agg cs)
    | .tup cs => frzL (frz n e) cs fun cs => k (.tup cs)
    | .fn f a c => frzL (frz n e) a fun a => frzL (frz n e) c fun c => k (.fn f a c)
    | .ifc t x => frz n e x fun x => k (.ifc t x)
    | .ms b i len capo => (match e.get b with
      | some (.rows rs _ _) => (match Nat.ble (i + len) rs.length with
        | true => frzLL (frz n e) ((rs.drop i).take len) fun es => k (.vs es capo)
        | false => none)
      | _ => none)
    | .ptr b i j => (match e.get b with
      | some (.rows rs _ _) => (match nthL rs i with | some row => frzL (frz n e) row fun row => k (.vp row j) | none => none)
      | _ => none)
    | .bool b => k (.bool b)
    | .int q n => k (.int q n)
    | .str s => k (.str s)
    | .nilp => k .nilp
    | .nils => k .nils
    | .nilf => k .nilf
    | .nili => k .nili
    | .nilm => k .nilm
    | .gp g j => k (.gp g j)
    | .vs es c => frzLL (frz n e) es fun es => k (.vs es c)
    | .vp row j => frzL (frz n e) row fun row => k (.vp row j)
    | _ => none

structure FrzL (h : Heap) (xs ys : List AV) : Prop where
  len : xs.length = ys.length
  frz : ∀ (i : Nat) (hi : i < xs.length) (hj : i < ys.length), Frz h xs[i] ys[i]
  pure : ∀ y ∈ ys, Pure y

omit [Gl] in
theorem frzL_ok {h : Heap} {f : AV → (AV → Option R) → Option R} (hf : ∀ x k z, f x k = some z → ∃ y, Frz h x y ∧ Pure y ∧ k y = some z) :
    ∀ (l : List AV) (k : List AV → Option R) (z : R), frzL f l k = some z → ∃ l', FrzL h l l' ∧ k l' = some z
  | [], k, z, hk => ⟨[], ⟨rfl, fun i hi => by simp at hi, fun y hy => by cases hy⟩, hk⟩
  | a :: l, k, z, hk => by
    obtain ⟨y, h1, h2, h3⟩ := hf _ _ _ hk
    obtain ⟨l', h4, h5⟩ := frzL_ok hf l _ z h3
    refine ⟨y :: l', ⟨by simp [h4.len], fun i hi hj => ?_, fun x hx => ?_⟩, h5⟩
    · cases i with
      | zero => exact h1
      | succ i => exact h4.frz i (by simpa using hi) (by simpa using hj)
    · rcases List.mem_cons.1 hx with rfl | hx
      · exact h2
      · exact h4.pure x hx

theorem frzLL_ok {h : Heap} {f : AV → (AV → Option R) → Option R} (hf : ∀ x k z, f x k = some z → ∃ y, Frz h x y ∧ Pure y ∧ k y = some z) :
    ∀ (l : List (List AV)) (k : List (List AV) → Option R) (z : R), frzLL f l k = some z →
      ∃ l' : List (List AV), l.length = l'.length ∧ (∀ (i : Nat) (hi : i < l.length) (hj : i < l'.length), FrzL h l[i] l'[i]) ∧ k l' = some z
  | [], k, z, hk => ⟨[], rfl, fun i hi => by simp at hi, hk⟩
  | a :: l, k, z, hk => by
    obtain ⟨y, h1, h3⟩ := frzL_ok hf a _ _ hk
    obtain ⟨l', h4, h5, h6⟩ := frzLL_ok hf l _ z h3
    refine ⟨y :: l', by simp [h4], fun i hi hj => ?_, h6⟩
    cases i with
    | zero => exact h1
    | succ i => exact h5 i (by simpa using hi) (by simpa using hj)

theorem frz_ok {e : EH} (he : e.ok) : ∀ (n : Nat) (x : AV) (k : AV → Option R) (z : R), frz n e x k = some z → ∃ y, Frz e.abs x y ∧ Pure y ∧ k y = some z
  | 0, _, _, _, h => by cases h
  | n + 1, x, k, z, h => by
    have ih := frz_ok he n
    have self : ∀ {x : AV}, Pure x → k x = some z → ∃ y, Frz e.abs x y ∧ Pure y ∧ k y = some z := fun hp hk => ⟨_, .pure _ hp, hp, hk⟩
    have all : ∀ {l : List AV}, allB (pureB n) l = true → ∀ (i : Nat) (hi : i < l.length), Pure l[i] := fun h i hi => pureB_ok _ _ (allB_ok h _ (List.getElem_mem hi))
    unfold frz at h
    split at h
    · obtain ⟨l, h1, h2⟩ := frzL_ok ih _ _ _ h
      exact ⟨_, .agg _ _ h1.len h1.frz, .agg _ fun i hi => h1.pure _ (List.getElem_mem hi), h2⟩
    · obtain ⟨l, h1, h2⟩ := frzL_ok ih _ _ _ h
      exact ⟨_, .tup _ _ h1.len h1.frz, .tup _ fun i hi => h1.pure _ (List.getElem_mem hi), h2⟩
    · obtain ⟨l, h1, h2⟩ := frzL_ok ih _ _ _ h
      obtain ⟨l2, h3, h4⟩ := frzL_ok ih _ _ _ h2
      exact ⟨_, .fn _ _ _ _ _ h1.len h3.len h1.frz h3.frz, .fn _ _ _ (fun i hi => h1.pure _ (List.getElem_mem hi)) fun i hi => h3.pure _ (List.getElem_mem hi), h4⟩
    · obtain ⟨y, h1, h2, h3⟩ := ih _ _ _ h
      exact ⟨_, .ifc _ _ _ h1, .ifc _ _ h2, h3⟩
    · rename_i b i len capo
      rw [EH.get_abs he] at h
      split at h
      · rename_i rs g fz hb
        split at h
        · rename_i hc
          rw [Nat.ble_eq] at hc
          obtain ⟨es, h1, h2, h3⟩ := frzLL_ok ih _ _ _ h
          have hlen : ((rs.drop i).take len).length = len := by rw [List.length_take, List.length_drop]; omega
          have hl : es.length = len := by rw [← h1, hlen]
          have get : ∀ (t : Nat) (ht : t < es.length) (hr : i + t < rs.length), FrzL e.abs rs[i + t] es[t] := fun t ht hr => by
            have := h2 t (by omega) ht
            simpa using this
          refine ⟨_, .ms b i len capo rs g fz es hb hl hc (fun t ht hr => (get t ht hr).len.symm) (fun t ht hr j h1 h2 => (get t ht hr).frz j h2 h1), .vs _ _ fun t ht j hj => (get t ht (by omega)).pure _ (List.getElem_mem hj), h3⟩
        · cases h
      · cases h
    · rename_i b i j
      rw [EH.get_abs he] at h
      split at h
      · rename_i rs g fz hb
        rw [nthL_eq] at h
        split at h
        · rename_i row hrow
          obtain ⟨hi, rfl⟩ := List.getElem?_eq_some_iff.1 hrow
          obtain ⟨l, h1, h2⟩ := frzL_ok ih _ _ _ h
          exact ⟨_, .ptr b i j rs g fz l hb hi h1.len.symm fun t a b => h1.frz t b a, .vp _ _ fun t ht => h1.pure _ (List.getElem_mem ht), h2⟩
        · cases h
      · cases h
    · exact self (.bool _) h
    · exact self (.int _ _) h
    · exact self (.str _) h
    · exact self .nilp h
    · exact self .nils h
    · exact self .nilf h
    · exact self .nili h
    · exact self .nilm h
    · exact self (.gp _ _) h
    · obtain ⟨es', h1, h2, h3⟩ := frzLL_ok ih _ _ _ h
      exact ⟨_, .vs _ _ _ h1 (fun t a b => (h2 t a b).len) (fun t a b j c d => (h2 t a b).frz j c d), .vs _ _ fun t ht j hj => (h2 t (by omega) ht).pure _ (List.getElem_mem hj), h3⟩
    · obtain ⟨l, h1, h2⟩ := frzL_ok ih _ _ _ h
      exact ⟨_, .vp _ _ _ h1.len h1.frz, .vp _ _ fun t ht => h1.pure _ (List.getElem_mem ht), h2⟩
    · cases h

/-- Equality of values. -/
def beqL {α : Type} (f : α → α → Bool) : List α → List α → Bool
  | [], [] => true
  | a :: l, b :: r => match f a b with | true => beqL f l r | false => false
  | _, _ => false
omit [Gl] in
theorem beqL_ok {α : Type} {f : α → α → Bool} (hf : ∀ a b, f a b = true → a = b) : ∀ {l r : List α}, beqL f l r = true → l = r
  | [], [], _ => rfl
  | a :: l, b :: r, h => by
    unfold beqL at h
    split at h
    · rename_i hab; rw [hf _ _ hab, beqL_ok hf h]
    · cases h
  | [], _ :: _, h => by cases h
  | _ :: _, [], h => by cases h

def beqU (a b : UInt8) : Bool := Nat.beq a.toNat b.toNat
omit [Gl] in
theorem beqU_ok (a b : UInt8) (h : beqU a b = true) : a = b := UInt8.toNat_inj.1 (by simpa [beqU, Nat.beq_eq] using h)

def beqC (a b : Option Nat) : Bool := match a with | none => (match b with | none => true | _ => false) | some a => (match b with | some b => Nat.beq a b | none => false)
omit [Gl] in
theorem beqC_ok (a b : Option Nat) (h : beqC a b = true) : a = b := by
  cases a <;> cases b <;> simp_all [beqC, Nat.beq_eq]

def beqI (a b : Int) : Bool := match a with | .ofNat a => (match b with | .ofNat b => Nat.beq a b | _ => false) | .negSucc a => (match b with | .negSucc b => Nat.beq a b | _ => false)
omit [Gl] in
theorem beqI_ok (a b : Int) (h : beqI a b = true) : a = b := by
  cases a <;> cases b <;> simp_all [beqI, Nat.beq_eq]

def beqF (a b : Fn) : Bool := match a with | .func a => (match b with | .func b => Nat.beq a b | _ => false) | _ => false
omit [Gl] in
theorem beqF_ok (a b : Fn) (h : beqF a b = true) : a = b := by
  cases a <;> cases b <;> simp_all [beqF, Nat.beq_eq]

def beqA : Nat → AV → AV → Bool
  | 0, _, _ => false
  | n + 1, x, y => match x with
    | .bool a => (match y with | .bool b => (match a with | true => b | false => !b) | _ => false)
    | .int k a => (match y with | .int k' b => sameK k k' && beqI a b | _ => false)
    | .str a => (match y with | .str b => beqL beqU a b | _ => false)
    | .nilp => (match y with | .nilp => true | _ => false)
    | .nils => (match y with | .nils => true | _ => false)
    | .nilf => (match y with | .nilf => true | _ => false)
    | .nili => (match y with | .nili => true | _ => false)
    | .nilm => (match y with | .nilm => true | _ => false)
    | .agg a => (match y with | .agg b => beqL (beqA n) a b | _ => false)
    | .tup a => (match y with | .tup b => beqL (beqA n) a b | _ => false)
    | .vs a c => (match y with | .vs b d => beqC c d && beqL (beqL (beqA n)) a b | _ => false)
    | .vp a c => (match y with | .vp b d => Nat.beq c d && beqL (beqA n) a b | _ => false)
    | .fn f a c => (match y with | .fn g b d => beqF f g && beqL (beqA n) a b && beqL (beqA n) c d | _ => false)
    | .gp g j => (match y with | .gp g' j' => Nat.beq g g' && Nat.beq j j' | _ => false)
    | .ifc t a => (match y with | .ifc u b => Nat.beq t u && beqA n a b | _ => false)
    | .ptr b i j => (match y with | .ptr b' i' j' => Nat.beq b b' && Nat.beq i i' && Nat.beq j j' | _ => false)
    | .ms b i l c => (match y with | .ms b' i' l' c' => Nat.beq b b' && Nat.beq i i' && Nat.beq l l' && beqC c c' | _ => false)
    | .mp b => (match y with | .mp b' => Nat.beq b b' | _ => false)
    | .yld b => (match y with | .yld b' => Nat.beq b b' | _ => false)
    | .junk => (match y with | .junk => true | _ => false)

theorem beqA_ok : ∀ (n : Nat) (x y : AV), beqA n x y = true → x = y
  | 0, _, _, h => by cases h
  | n + 1, x, y, h => by
    have ih := beqA_ok n
    unfold beqA at h
    split at h <;> (first | (cases h; done) | split at h) <;> first | (cases h; done) | rfl | skip
    · rename_i a _ b
      cases a <;> cases b <;> simp_all
    · rw [Bool.and_eq_true] at h
      rename_i k a _ k' b
      have h1 : k = k' := by simpa [sameK] using h.1
      rw [h1, beqI_ok _ _ h.2]
    · rw [beqL_ok beqU_ok h]
    · rw [beqL_ok ih h]
    · rw [beqL_ok ih h]
    · rw [Bool.and_eq_true] at h
      rw [beqC_ok _ _ h.1, beqL_ok (fun _ _ h => beqL_ok ih h) h.2]
    · rw [Bool.and_eq_true, Nat.beq_eq] at h
      rw [h.1, beqL_ok ih h.2]
    · rw [Bool.and_eq_true, Bool.and_eq_true] at h
      rw [beqF_ok _ _ h.1.1, beqL_ok ih h.1.2, beqL_ok ih h.2]
    · rw [Bool.and_eq_true, Nat.beq_eq, Nat.beq_eq] at h
      rw [h.1, h.2]
    · rw [Bool.and_eq_true, Nat.beq_eq] at h
      rw [h.1, ih _ _ h.2]
    · rw [Bool.and_eq_true, Bool.and_eq_true, Nat.beq_eq, Nat.beq_eq, Nat.beq_eq] at h
      rw [h.1.1, h.1.2, h.2]
    · rw [Bool.and_eq_true, Bool.and_eq_true, Bool.and_eq_true, Nat.beq_eq, Nat.beq_eq, Nat.beq_eq] at h
      rw [h.1.1.1, h.1.1.2, h.1.2, beqC_ok _ _ h.2]
    · rw [Nat.beq_eq] at h; rw [h]
    · rw [Nat.beq_eq] at h; rw [h]

/-- A table of calls. -/
def findM (args : List AV) : List (List AV × AV) → Option AV
  | [] => none
  | (as, r) :: l => match beqL (beqA 30) args as with | true => some r | false => findM args l
theorem findM_ok {args : List AV} : ∀ {l : List (List AV × AV)} {r : AV}, findM args l = some r → (args, r) ∈ l
  | [], _, h => by cases h
  | (as, r') :: l, r, h => by
    unfold findM at h
    split at h
    · rename_i hb
      injection h with h; subst h
      rw [beqL_ok (beqA_ok 30) hb]
      exact List.mem_cons_self
    · exact List.mem_cons_of_mem _ (findM_ok h)

end ops
end
end Go.Abs
