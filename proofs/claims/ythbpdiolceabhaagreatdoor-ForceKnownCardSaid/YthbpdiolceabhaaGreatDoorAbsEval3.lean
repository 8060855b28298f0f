/-
  A way to run the abstract operations, made for the kernel: slices, append, len; that the runs are right.
  Conditions: none.
-/
import Derived.Test.YthbpdiolceabhaaGreatDoorAbsEval2
import Derived.Test.YthbpdiolceabhaaGreatDoorAbsMove
set_option linter.unusedVariables false
set_option linter.unusedSimpArgs false
set_option linter.unusedSectionVars false
namespace Go.Abs
noncomputable section
variable [Gl]

section ops
variable {R : Type} (T : Tab)

def natA : Option AV → Nat → Option Nat
  | none, d => some d
  | some (.int _ (.ofNat n)), _ => some n
  | _, _ => none

omit [Gl] in
theorem natA_low {o : Option AV} {l : Nat} (h : natA o 0 = some l) : lowA o = some (l : Int) := by
  unfold natA at h
  split at h
  · injection h with h; subst h; rfl
  · injection h with h; subst h; rfl
  · cases h
omit [Gl] in
theorem natA_high {o : Option AV} {n l : Nat} (h : natA o n = some l) : highA n o = some (l : Int) := by
  unfold natA at h
  split at h
  · injection h with h; subst h; rfl
  · injection h with h; subst h; rfl
  · cases h

def sliceStrE (s : List UInt8) (lo hi mx : Option AV) (K : AV → Option R) : Option R :=
  match mx with
  | some _ => none
  | none =>
  match natA lo 0, natA hi s.length with
  | some l, some u => (match Nat.ble l u && Nat.ble u s.length with
    | true => fList ((s.take u).drop l) fun s => K (.str s)
    | false => none)
  | _, _ => none

def allSize (n : Nat) : List (List AV) → Bool
  | [] => true
  | r :: l => match r.length == n with | true => allSize n l | false => false
omit [Gl] in
theorem allSize_ok {n : Nat} : ∀ {l : List (List AV)}, allSize n l = true → ∀ r ∈ l, r.length = n
  | [], _, r, hr => by cases hr
  | a :: l, h, r, hr => by
    unfold allSize at h
    split at h
    · rename_i hc
      rcases List.mem_cons.1 hr with rfl | hr
      · simpa using hc
      · exact allSize_ok h r hr
    · cases h

def capK (c : Option Nat) (l : Nat) (k : Option Nat → Option R) : Option R :=
  match c with
  | none => k none
  | some c => fNat (c - l) fun c => k (some c)
theorem capK_eq (c : Option Nat) (l : Nat) (k : Option Nat → Option R) : capK c l k = k (c.map (· - l)) := by
  cases c <;> simp [capK, fNat_eq]

def sliceVsE (size : Nat) (es : List (List AV)) (capo : Option Nat) (lo hi mx : Option AV) (K : AV → Option R) : Option R :=
  match allSize size es with
  | false => none
  | true =>
  match natA lo 0, natA hi es.length with
  | some l, some u => (match mx with
    | none => (match Nat.ble l u && Nat.ble u es.length with
      | true => fList ((es.take u).drop l) fun es => capK capo l fun c => K (.vs es c)
      | false => none)
    | some (.int _ (.ofNat m)) => (match hi.isSome && Nat.ble l u && Nat.ble u m && Nat.ble m es.length with
      | true => fList ((es.take u).drop l) fun es => fNat (m - l) fun c => K (.vs es (some c))
      | false => none)
    | _ => none)
  | _, _ => none

def sliceNilE (lo hi mx : Option AV) (K : AV → Option R) : Option R :=
  match mx with
  | some _ => none
  | none => (match natA lo 0, natA hi 0 with
    | some 0, some 0 => K .nils
    | _, _ => none)

def sliceMsE (e : EH) (size b s len : Nat) (capo : Option Nat) (lo hi mx : Option AV) (K : AV → Option R) : Option R :=
  match e.get b with
  | some (.rows rs _ _) =>
    (match allSize size rs with
    | false => none
    | true =>
    match natA lo 0, natA hi len with
    | some l, some u => (match mx with
      | none => (match Nat.ble l u && Nat.ble u len with
        | true => (match Nat.beq l 0 || Nat.blt l u with
          | true => fNat (s + l) fun s => fNat (u - l) fun n => capK capo l fun c => K (.ms b s n c)
          | false => (match Nat.beq l u with | true => K (.vs [] none) | false => none))
        | false => none)
      | some (.int _ (.ofNat m)) => (match hi.isSome && Nat.ble l u && Nat.ble u m && Nat.ble m len with
        | true => (match Nat.beq l 0 || Nat.blt l m with
          | true => fNat (s + l) fun s => fNat (u - l) fun n => fNat (m - l) fun c => K (.ms b s n (some c))
          | false => (match Nat.beq l m with | true => K (.vs [] (some 0)) | false => none))
        | false => none)
      | _ => none)
    | _, _ => none)
  | _ => none

def sliceE (e : EH) (t : TypeId) (x : AV) (lo hi mx : Option AV) (K : AV → Option R) : Option R :=
  match T t with
  | none => none
  | some ti =>
    match ti.desc with
    | .string => (match x with | .str s => sliceStrE s lo hi mx K | _ => none)
    | .slice el => (match T el with
      | none => none
      | some ei => (match x with
        | .vs es c => sliceVsE ei.size es c lo hi mx K
        | .nils => sliceNilE lo hi mx K
        | .ms b s len c => sliceMsE e ei.size b s len c lo hi mx K
        | _ => none))
    | _ => none

theorem sliceE_ok {e : EH} (he : e.ok) {t : TypeId} {x : AV} {lo hi mx : Option AV} {K : AV → Option R} {y : R} (h : sliceE T e t x lo hi mx K = some y) : Gave K y (sliceW T e.abs t x lo hi mx) := by
  unfold sliceE at h
  split at h
  · cases h
  · rename_i ti ht
    split at h
    · rename_i hd
      split at h
      · rename_i s
        unfold sliceStrE at h
        split at h
        · cases h
        · split at h
          · rename_i l u hl hu
            split at h
            · rename_i hc
              rw [fList_eq] at h
              simp only [Bool.and_eq_true, Nat.ble_eq] at hc
              refine ⟨_, h, fun Q hq => ?_⟩
              simp only [sliceW, ht, hd, natA_low hl, natA_high hu]
              exact ⟨⟨Int.natCast_nonneg l, Int.ofNat_le.2 hc.1, Int.ofNat_le.2 hc.2⟩, hq⟩
            · cases h
          · cases h
      · cases h
    · rename_i el hd
      split at h
      · cases h
      · rename_i ei hei
        split at h
        · rename_i es capo
          unfold sliceVsE at h
          split at h
          · cases h
          · rename_i hall
            have hall := allSize_ok hall
            split at h
            · rename_i l u hl hu
              split at h
              · split at h
                · rename_i hc
                  rw [fList_eq, capK_eq] at h
                  simp only [Bool.and_eq_true, Nat.ble_eq] at hc
                  refine ⟨_, h, fun Q hq => ?_⟩
                  simp only [sliceW, ht, hd, hei, natA_low hl, natA_high hu]
                  exact ⟨⟨Int.natCast_nonneg l, Int.ofNat_le.2 hc.1, Int.ofNat_le.2 hc.2⟩, hall, hq⟩
                · cases h
              · rename_i k m
                split at h
                · rename_i hc
                  rw [fList_eq, fNat_eq] at h
                  simp only [Bool.and_eq_true, Nat.ble_eq] at hc
                  obtain ⟨⟨⟨h1, h2⟩, h3⟩, h4⟩ := hc
                  refine ⟨_, h, fun Q hq => ?_⟩
                  simp only [sliceW, ht, hd, hei, natA_low hl, natA_high hu]
                  exact ⟨h1, ⟨Int.natCast_nonneg l, Int.ofNat_le.2 h2, Int.ofNat_le.2 h3, Int.ofNat_le.2 h4⟩, hall, hq⟩
                · cases h
              · cases h
            · cases h
        · unfold sliceNilE at h
          split at h
          · cases h
          · split at h
            · rename_i hl hu
              refine ⟨_, h, fun Q hq => ?_⟩
              simp only [sliceW, ht, hd, hei, natA_low hl, natA_high hu]
              exact ⟨⟨rfl, rfl⟩, hq⟩
            · cases h
        · rename_i b s len capo
          unfold sliceMsE at h
          rw [EH.get_abs he] at h
          split at h
          · rename_i rs g fz hb
            split at h
            · cases h
            · rename_i hall
              have hall := allSize_ok hall
              split at h
              · rename_i l u hl hu
                split at h
                · split at h
                  · rename_i hc
                    simp only [Bool.and_eq_true, Nat.ble_eq] at hc
                    have hb3 : (0 : Int) ≤ l ∧ (l : Int) ≤ u ∧ (u : Int) ≤ len := ⟨Int.natCast_nonneg l, Int.ofNat_le.2 hc.1, Int.ofNat_le.2 hc.2⟩
                    split at h
                    · rename_i hz
                      rw [fNat_eq, fNat_eq, capK_eq] at h
                      simp only [Bool.or_eq_true, Nat.beq_eq, Nat.blt_eq] at hz
                      refine ⟨_, h, fun Q hq => ?_⟩
                      simp only [sliceW, ht, hd, hei, natA_low hl, natA_high hu, hb]
                      exact ⟨hb3, hall, .inl ⟨by omega, hq⟩⟩
                    · split at h
                      · rename_i hz
                        rw [Nat.beq_eq] at hz
                        refine ⟨_, h, fun Q hq => ?_⟩
                        simp only [sliceW, ht, hd, hei, natA_low hl, natA_high hu, hb]
                        exact ⟨hb3, hall, .inr ⟨by omega, hq⟩⟩
                      · cases h
                  · cases h
                · rename_i k m
                  split at h
                  · rename_i hc
                    simp only [Bool.and_eq_true, Nat.ble_eq] at hc
                    obtain ⟨⟨⟨h1, h2⟩, h3⟩, h4⟩ := hc
                    have hb3 : (0 : Int) ≤ l ∧ (l : Int) ≤ u ∧ (u : Int) ≤ m ∧ (m : Int) ≤ len := ⟨Int.natCast_nonneg l, Int.ofNat_le.2 h2, Int.ofNat_le.2 h3, Int.ofNat_le.2 h4⟩
                    split at h
                    · rename_i hz
                      rw [fNat_eq, fNat_eq, fNat_eq] at h
                      simp only [Bool.or_eq_true, Nat.beq_eq, Nat.blt_eq] at hz
                      refine ⟨_, h, fun Q hq => ?_⟩
                      simp only [sliceW, ht, hd, hei, natA_low hl, natA_high hu, hb]
                      exact ⟨h1, hb3, hall, .inl ⟨by rw [Int.ofNat_eq_natCast]; omega, hq⟩⟩
                    · split at h
                      · rename_i hz
                        rw [Nat.beq_eq] at hz
                        refine ⟨_, h, fun Q hq => ?_⟩
                        simp only [sliceW, ht, hd, hei, natA_low hl, natA_high hu, hb]
                        exact ⟨h1, hb3, hall, .inr ⟨by rw [Int.ofNat_eq_natCast]; omega, hq⟩⟩
                      · cases h
                  · cases h
                · cases h
              · cases h
          · cases h
        · cases h
    · cases h

def rowsE (e : EH) (x : AV) : Option (List (List AV)) :=
  match x with
  | .vs es _ => some es
  | .nils => some []
  | .str s => some (s.map fun c => [.int .u8 c.toNat])
  | .ms b i len _ => (match e.get b with
    | some (.rows rs _ _) => (match Nat.ble (i + len) rs.length with | true => some ((rs.drop i).take len) | false => none)
    | _ => none)
  | _ => none

theorem rowsE_eq {e : EH} (he : e.ok) {x : AV} {new : List (List AV)} (h : rowsE e x = some new) : rowsOf e.abs x = some new := by
  unfold rowsE at h
  split at h
  · exact h
  · exact h
  · exact h
  · rw [EH.get_abs he] at h
    split at h
    · rename_i rs g fz hb
      split at h
      · rename_i hc
        rw [Nat.ble_eq] at hc
        simp only [rowsOf, hb]
        rw [if_pos hc]; exact h
      · cases h
    · cases h
  · cases h

/-- Rows that may lie in a block. -/
def goodRows (size : Nat) : List (List AV) → Bool
  | [] => true
  | r :: l => match r.length == size && r.all okc with | true => goodRows size l | false => false
omit [Gl] in
theorem goodRows_ok {n : Nat} : ∀ {l : List (List AV)}, goodRows n l = true → ∀ r ∈ l, r.length = n ∧ r.all okc = true
  | [], _, r, hr => by cases hr
  | a :: l, h, r, hr => by
    unfold goodRows at h
    split at h
    · rename_i hc
      rcases List.mem_cons.1 hr with rfl | hr
      · simpa using hc
      · exact goodRows_ok h r hr
    · cases h

def appendMsE (e : EH) (size bytes : Nat) (b i len : Nat) (capo : Option Nat) (rs : List (List AV)) (g : Bool) (new : List (List AV)) (nl : Nat) (K : AV → EH → Option R) : Option R :=
  match goodRows size rs && Nat.ble ((len + nl) * bytes) 140737488355328 with
  | false => none
  | true =>
  match capo with
  | none => (match Nat.beq i 0 && Nat.blt 0 len && len == rs.length with
    | true => fList (rs ++ new) fun rs => e.put b (.rows rs true false) fun e => fNat (len + nl) fun l => K (.ms b 0 l none) e
    | false => none)
  | some c => (match Nat.blt c (len + nl) with
    | true => (match Nat.ble (i + len) rs.length with
      | true => fList ((rs.drop i).take len ++ new) fun rs => e.push (.rows rs true false) fun e' => fNat (len + nl) fun l => K (.ms e.n 0 l none) e'
      | false => none)
    | false => (match g with
      | true => none
      | false => (match Nat.ble (i + len + nl) rs.length with
        | true => fList (rs.take (i + len) ++ new ++ rs.drop (i + len + nl)) fun rs => e.put b (.rows rs false false) fun e => fNat (len + nl) fun l => K (.ms b i l (some c)) e
        | false => none)))

def appendE (e : EH) (t : TypeId) (s x : AV) (K : AV → EH → Option R) : Option R :=
  match T t with
  | none => none
  | some ti =>
  match ti.desc with
  | .slice el =>
    (match T el with
    | none => none
    | some ei =>
      match rowsE e x with
      | none => none
      | some new => fList new fun new => match Nat.blt 0 ei.size && Nat.blt 0 ei.bytes && goodRows ei.size new with
        | false => none
        | true => (match s with
          | .nils => (match new with
            | [] => K .nils e
            | _ :: _ => (match Nat.ble (new.length * ei.bytes) 140737488355328 with
              | true => e.push (.rows new true false) fun e' => fNat new.length fun l => K (.ms e.n 0 l none) e'
              | false => none))
          | .vs es capo => (match new with
            | [] => K (.vs es capo) e
            | _ :: _ => (match capo with
              | none => none
              | some c => (match Nat.blt c (es.length + new.length) && goodRows ei.size es && Nat.ble ((es.length + new.length) * ei.bytes) 140737488355328 with
                | true => fList (es ++ new) fun rs => e.push (.rows rs true false) fun e' => fNat (es.length + new.length) fun l => K (.ms e.n 0 l none) e'
                | false => none)))
          | .ms b i len capo => (match e.get b with
            | some (.rows rs g false) => (match new with
              | [] => K (.ms b i len capo) e
              | _ :: _ => appendMsE e ei.size ei.bytes b i len capo rs g new new.length K)
            | _ => none)
          | _ => none))
  | _ => none

/-- A new name, where a block has grown. -/
def moveE (r : AV) (e : EH) (K : AV → EH → Option R) : Option R :=
  match r with
  | .ms b 0 n none => (match e.get b with
    | some (.rows rs true false) => (match n == rs.length with
      | true => e.kill b fun e => e.push (.rows rs false false) fun e' => K (.ms e.n 0 n none) e'
      | false => K r e)
    | _ => K r e)
  | _ => K r e

theorem moveE_ok {r : AV} {e : EH} (he : e.ok) {K : AV → EH → Option R} {y : R} (h : moveE r e K = some y) : Went K y fun Q => Q r e.abs ∨ moveW e.abs r Q := by
  have stay : K r e = some y → Went K y fun Q => Q r e.abs ∨ moveW e.abs r Q := fun h => ⟨r, e, he, h, fun Q hq => .inl hq⟩
  unfold moveE at h
  split at h
  · rename_i b n
    rw [EH.get_abs he] at h
    split at h
    · rename_i rs hb
      split at h
      · rename_i hn
        rw [beq_iff_eq] at hn
        obtain ⟨e1, k1, k2, k3, k4⟩ := EH.kill_ok he h
        obtain ⟨e2, m1, m2, m3⟩ := EH.push_ok k1 k4
        refine ⟨_, e2, m1, m3, fun Q hq => .inr ?_⟩
        simp only [moveW, hb]
        refine ⟨hn, ?_⟩
        rw [EH.len he, ← k3, ← k2, ← m2]
        exact hq
      · exact stay h
    · exact stay h
  · exact stay h

theorem appendE_ok {e : EH} (he : e.ok) {t : TypeId} {s x : AV} {K : AV → EH → Option R} {y : R} (h : appendE T e t s x K = some y) : Went K y (appendW T e.abs t s x) := by
  unfold appendE at h
  split at h
  · cases h
  · rename_i ti ht
    split at h
    · rename_i el hd
      obtain ⟨d, sz, by', ze, cm⟩ := ti
      simp only at hd; subst hd
      split at h
      · cases h
      · rename_i ei hei
        split at h
        · cases h
        · rename_i new hnew
          rw [fList_eq] at h
          have hnew := rowsE_eq he hnew
          split at h
          · cases h
          · rename_i hc
            simp only [Bool.and_eq_true, Nat.blt_eq] at hc
            obtain ⟨⟨hc1, hc2⟩, hc3⟩ := hc
            have hc3 := goodRows_ok hc3
            split at h
            · split at h
              · refine ⟨_, e, he, h, fun Q hq => ?_⟩
                simp only [appendW, ht, hei, hnew, List.length_nil, if_true]
                exact ⟨⟨hc1, hc2⟩, hc3, hq⟩
              · rename_i a l
                split at h
                · rename_i hb
                  rw [Nat.ble_eq] at hb
                  obtain ⟨e', h1, h2, h3⟩ := EH.push_ok he h
                  rw [fNat_eq] at h3
                  refine ⟨_, e', h1, h3, fun Q hq => ?_⟩
                  simp only [appendW, ht, hei, hnew, EH.len he]
                  rw [if_neg (by simp)]
                  exact ⟨⟨hc1, hc2⟩, hc3, hb, h2 ▸ hq⟩
                · cases h
            · rename_i es capo
              split at h
              · refine ⟨_, e, he, h, fun Q hq => ?_⟩
                simp only [appendW, ht, hei, hnew, List.length_nil, if_true]
                exact ⟨⟨hc1, hc2⟩, hc3, hq⟩
              · rename_i a l
                split at h
                · cases h
                · rename_i c
                  split at h
                  · rename_i hb
                    simp only [Bool.and_eq_true, Nat.ble_eq, Nat.blt_eq] at hb
                    rw [fList_eq] at h
                    obtain ⟨e', h1, h2, h3⟩ := EH.push_ok he h
                    rw [fNat_eq] at h3
                    refine ⟨_, e', h1, h3, fun Q hq => ?_⟩
                    simp only [appendW, ht, hei, hnew, EH.len he]
                    rw [if_neg (by simp)]
                    exact ⟨⟨hc1, hc2⟩, hc3, ⟨c, rfl, hb.1.1⟩, goodRows_ok hb.1.2, hb.2, h2 ▸ hq⟩
                  · cases h
            · rename_i b i len capo
              rw [EH.get_abs he] at h
              split at h
              · rename_i rs g hbl
                split at h
                · refine ⟨_, e, he, h, fun Q hq => ?_⟩
                  simp only [appendW, ht, hei, hnew, hbl, List.length_nil, if_true]
                  exact ⟨⟨hc1, hc2⟩, hc3, hq⟩
                · rename_i a l
                  unfold appendMsE at h
                  split at h
                  · cases h
                  · rename_i hb
                    simp only [Bool.and_eq_true, Nat.ble_eq] at hb
                    have hgood := goodRows_ok hb.1
                    split at h
                    · split at h
                      · rename_i hz
                        simp only [Bool.and_eq_true, Nat.beq_eq, Nat.blt_eq, beq_iff_eq] at hz
                        rw [fList_eq] at h
                        obtain ⟨e', h1, h2, h3⟩ := EH.put_ok he h
                        rw [fNat_eq] at h3
                        refine ⟨_, e', h1, h3, fun Q hq => ?_⟩
                        simp only [appendW, ht, hei, hnew, hbl]
                        rw [if_neg (by simp)]
                        exact ⟨⟨hc1, hc2⟩, hc3, hgood, hb.2, ⟨hz.1.1, hz.1.2, hz.2⟩, h2 ▸ hq⟩
                      · cases h
                    · rename_i c
                      split at h
                      · rename_i hz
                        rw [Nat.blt_eq] at hz
                        split at h
                        · rename_i hz2
                          rw [Nat.ble_eq] at hz2
                          rw [fList_eq] at h
                          obtain ⟨e', h1, h2, h3⟩ := EH.push_ok he h
                          rw [fNat_eq] at h3
                          refine ⟨_, e', h1, h3, fun Q hq => ?_⟩
                          simp only [appendW, ht, hei, hnew, hbl, EH.len he]
                          rw [if_neg (by simp)]
                          exact ⟨⟨hc1, hc2⟩, hc3, hgood, hb.2, .inl ⟨hz, hz2, h2 ▸ hq⟩⟩
                        · cases h
                      · rename_i hz
                        have hz := (Bool.eq_false_iff.1 hz)
                        rw [ne_eq, Nat.blt_eq] at hz
                        split at h
                        · cases h
                        · split at h
                          · rename_i hz2
                            rw [Nat.ble_eq] at hz2
                            rw [fList_eq] at h
                            obtain ⟨e', h1, h2, h3⟩ := EH.put_ok he h
                            rw [fNat_eq] at h3
                            refine ⟨_, e', h1, h3, fun Q hq => ?_⟩
                            simp only [appendW, ht, hei, hnew, hbl]
                            rw [if_neg (by simp)]
                            exact ⟨⟨hc1, hc2⟩, hc3, hgood, hb.2, .inr ⟨by omega, trivial, hz2, h2 ▸ hq⟩⟩
                          · cases h
              · cases h
            · cases h
    · cases h

def convTextE (e : EH) (el : TypeId) (x : AV) (K : AV → EH → Option R) : Option R :=
  match T el with
  | none => none
  | some ei => (match ei.desc with
    | .int .u8 => (match rowsE e x with
      | none => none
      | some rows => (match sliceB x with
        | false => none
        | true => (match bytesA rows with
          | some s => fList s fun s => K (.str s) e
          | none => none)))
    | _ => none)

def convRowsE (e : EH) (el : TypeId) (s : List UInt8) (K : AV → EH → Option R) : Option R :=
  match T el with
  | none => none
  | some ei => (match ei.desc with
    | .int .u8 => fList (s.map fun c => [AV.int .u8 c.toNat]) fun rows => K (.vs rows none) e
    | _ => none)

def convAE (e : EH) (src dst : TypeId) (x : AV) (K : AV → EH → Option R) : Option R :=
  match T src with
  | none => none
  | some si => (match T dst with
    | none => none
    | some di => (match di.desc with
      | .slice el => (match si.desc with
        | .string => (match x with | .str s => convRowsE T e el s K | _ => none)
        | _ => none)
      | .string => (match si.desc with
        | .slice el => convTextE T e el x K
        | _ => convE T e src dst x K)
      | _ => convE T e src dst x K))

theorem convAE_ok {e : EH} (he : e.ok) {src dst : TypeId} {x : AV} {K : AV → EH → Option R} {y : R} (h : convAE T e src dst x K = some y) :
    Quiet K e y fun Q => convW T e.abs src dst x Q ∨ convBytesW T e.abs src dst x Q := by
  have old : convE T e src dst x K = some y → Quiet K e y fun Q => convW T e.abs src dst x Q ∨ convBytesW T e.abs src dst x Q := fun h => by
    obtain ⟨r, h1, h2⟩ := convE_ok T h
    exact ⟨r, h1, fun Q hq => .inl (h2 Q hq)⟩
  unfold convAE at h
  split at h
  · cases h
  · rename_i si hs
    split at h
    · cases h
    · rename_i di hd
      split at h
      · rename_i el hdd
        split at h
        · rename_i hsd
          split at h
          · rename_i s
            unfold convRowsE at h
            split at h
            · cases h
            · rename_i ei hei
              split at h
              · rename_i hu
                rw [fList_eq] at h
                refine ⟨_, h, fun Q hq => .inr ?_⟩
                simp only [convBytesW, hs, hd, hsd, hdd, hei]
                exact ⟨hu, hq⟩
              · cases h
          · cases h
        · cases h
      · rename_i hdd
        split at h
        · rename_i el hsd
          unfold convTextE at h
          split at h
          · cases h
          · rename_i ei hei
            split at h
            · rename_i hu
              split at h
              · cases h
              · rename_i rows hrows
                split at h
                · cases h
                · rename_i hsl
                  split at h
                  · rename_i s hby
                    rw [fList_eq] at h
                    refine ⟨_, h, fun Q hq => .inr ?_⟩
                    simp only [convBytesW, hs, hd, hsd, hdd, hei, rowsE_eq he hrows]
                    exact ⟨hu, hsl, s, hby, hq⟩
                  · cases h
            · cases h
        · exact old h
      · exact old h

def lenE (e : EH) (t : TypeId) (x : AV) (K : AV → Option R) : Option R :=
  match T t with
  | none => none
  | some ti =>
    match ti.desc with
    | .string => (match x with | .str s => fNat s.length fun n => K (.int .i64 (.ofNat n)) | _ => none)
    | .array n _ => K (.int .i64 (.ofNat n))
    | .slice _ => (match x with
      | .vs es _ => fNat es.length fun n => K (.int .i64 (.ofNat n))
      | .ms b _ len _ => (match e.get b with | some (.rows _ _ _) => K (.int .i64 (.ofNat len)) | _ => none)
      | .nils => K (.int .i64 (.ofNat 0))
      | _ => none)
    | _ => none

theorem lenE_ok {e : EH} (he : e.ok) {t : TypeId} {x : AV} {K : AV → Option R} {y : R} (h : lenE T e t x K = some y) : Gave K y (lenW T e.abs t x) := by
  unfold lenE at h
  split at h
  · cases h
  · rename_i ti ht
    split at h
    · rename_i hd
      split at h
      · rw [fNat_eq] at h
        exact ⟨_, h, fun Q hq => by simp only [lenW, ht, hd]; exact hq⟩
      · cases h
    · rename_i n el hd
      exact ⟨_, h, fun Q hq => by simp only [lenW, ht, hd]; exact hq⟩
    · rename_i el hd
      split at h
      · rw [fNat_eq] at h
        exact ⟨_, h, fun Q hq => by simp only [lenW, ht, hd]; exact hq⟩
      · rw [EH.get_abs he] at h
        split at h
        · rename_i hb
          exact ⟨_, h, fun Q hq => by simp only [lenW, ht, hd, hb]; exact hq⟩
        · cases h
      · exact ⟨_, h, fun Q hq => by simp only [lenW, ht, hd]; exact hq⟩
      · cases h
    · cases h

end ops
end
end Go.Abs
