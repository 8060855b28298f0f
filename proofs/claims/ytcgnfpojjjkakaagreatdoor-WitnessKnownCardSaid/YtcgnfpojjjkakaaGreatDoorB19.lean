/-
  Steps to a law of this program: AbsLimb, AbsIter, AbsDiv, AbsDiv2.
  Conditions: none.
-/
import Derived.Test.YtcgnfpojjjkakaaGreatDoorB18
import Derived.Test.YtcgnfpojjjkakaaGreatDoorB4
set_option linter.unusedVariables false
set_option linter.unusedSimpArgs false
set_option linter.unusedSectionVars false
namespace Go.Abs
noncomputable section

def val : List Nat → Nat
  | [] => 0
  | x :: l => x + 1000000000 * val l
def okL (l : List Nat) : Prop := ∀ x ∈ l, x < 1000000000
def trim : List Nat → List Nat
  | [] => []
  | x :: r => match trim r with
    | [] => if x = 0 then [] else [x]
    | y :: s => x :: y :: s
def Norm (l : List Nat) : Prop := trim l = l

theorem val_append : ∀ (a b : List Nat), val (a ++ b) = val a + 1000000000 ^ a.length * val b
  | [], b => by simp [val]
  | x :: a, b => by
    simp only [List.cons_append, val, val_append a b, List.length_cons, Nat.pow_succ]
    rw [Nat.mul_add, ← Nat.mul_assoc, Nat.mul_comm 1000000000 (1000000000 ^ a.length), Nat.add_assoc]

theorem okL_append {a b : List Nat} : okL (a ++ b) ↔ okL a ∧ okL b := by
  unfold okL
  constructor
  · intro h; exact ⟨fun x hx => h x (by simp [hx]), fun x hx => h x (by simp [hx])⟩
  · rintro ⟨h1, h2⟩ x hx
    rcases List.mem_append.1 hx with hx | hx
    · exact h1 x hx
    · exact h2 x hx
theorem okL_nil : okL [] := fun x hx => by simp at hx
theorem okL_one {x : Nat} (h : x < 1000000000) : okL [x] := fun y hy => by simp at hy; subst hy; exact h
theorem okL_take {l : List Nat} (h : okL l) (n : Nat) : okL (l.take n) := fun x hx => h x (List.mem_of_mem_take hx)
theorem okL_get {l : List Nat} (h : okL l) {i : Nat} (hi : i < l.length) : l[i] < 1000000000 := h _ (List.getElem_mem hi)

theorem val_lt : ∀ {l : List Nat}, okL l → val l < 1000000000 ^ l.length
  | [], _ => by simp [val]
  | x :: l, h => by
    have h1 := h x (by simp)
    have h2 := val_lt (l := l) fun y hy => h y (by simp [hy])
    simp only [val, List.length_cons, Nat.pow_succ]
    omega

theorem trim_val : ∀ (l : List Nat), val (trim l) = val l
  | [] => rfl
  | x :: r => by
    have ih := trim_val r
    unfold trim
    split
    · rename_i h
      rw [h] at ih
      simp only [val] at ih ⊢
      split
      · simp [val]; omega
      · simp [val]; omega
    · rename_i y s h
      rw [h] at ih
      simp only [val] at ih ⊢
      omega

theorem trim_trim : ∀ (l : List Nat), trim (trim l) = trim l
  | [] => rfl
  | x :: r => by
    have ih := trim_trim r
    rw [trim]
    split
    · split
      · rfl
      · rename_i h; simp [trim, h]
    · rename_i y s h
      rw [h] at ih
      rw [trim, ih]

theorem trim_ok : ∀ {l : List Nat}, okL l → okL (trim l)
  | [], h => h
  | x :: r, h => by
    have h1 := h x (by simp)
    have ih := trim_ok (l := r) fun y hy => h y (by simp [hy])
    rw [trim]
    split
    · split
      · exact okL_nil
      · exact okL_one h1
    · rename_i y s e
      rw [e] at ih
      intro z hz
      rcases List.mem_cons.1 hz with rfl | hz
      · exact h1
      · exact ih z hz

theorem trim_zero : ∀ (l : List Nat), trim (l ++ [0]) = trim l
  | [] => rfl
  | x :: r => by rw [List.cons_append, trim, trim, trim_zero r]

theorem trim_last : ∀ (l : List Nat) {x : Nat}, x ≠ 0 → trim (l ++ [x]) = l ++ [x]
  | [], x, h => by simp [trim, h]
  | y :: r, x, h => by
    rw [List.cons_append, trim, trim_last r h]
    cases r with
    | nil => rfl
    | cons a b => rfl

theorem trim_take_succ {l : List Nat} {k : Nat} (hk : k < l.length) (h : l[k] = 0) : trim (l.take (k + 1)) = trim (l.take k) := by
  rw [List.take_succ_eq_append_getElem hk, h, trim_zero]
theorem trim_take_last {l : List Nat} {k : Nat} (hk : k < l.length) (h : l[k] ≠ 0) : trim (l.take (k + 1)) = l.take (k + 1) := by
  rw [List.take_succ_eq_append_getElem hk, trim_last _ h]

theorem val_zero : ∀ {l : List Nat}, Norm l → val l = 0 → l = []
  | [], _, _ => rfl
  | x :: r, hn, h => by
    simp only [val] at h
    have hx : x = 0 := by omega
    have hr : val r = 0 := by omega
    subst hx
    unfold Norm at hn
    rw [trim] at hn
    split at hn
    · simp at hn
    · rename_i y s e
      have : Norm r := by
        unfold Norm; rw [e]; injection hn
      rw [val_zero this hr] at e
      simp [trim] at e

theorem Norm.tail {x : Nat} {r : List Nat} (h : Norm (x :: r)) : Norm r := by
  unfold Norm at h ⊢
  rw [trim] at h
  split at h
  · rename_i e
    split at h
    · simp at h
    · injection h with _ h; rw [e, h]
  · rename_i y s e
    injection h with _ h
    rw [e, h]

theorem val_inj : ∀ {a b : List Nat}, okL a → okL b → Norm a → Norm b → val a = val b → a = b
  | [], b, _, _, _, hb, h => (val_zero hb h.symm).symm
  | x :: a, [], _, _, ha, _, h => val_zero ha h
  | x :: a, y :: b, oa, ob, ha, hb, h => by
    have h1 := oa x (by simp)
    have h2 := ob y (by simp)
    simp only [val] at h
    have e1 : x = y := by omega
    have e2 : val a = val b := by omega
    rw [e1, val_inj (fun z hz => oa z (by simp [hz])) (fun z hz => ob z (by simp [hz])) ha.tail hb.tail e2]

def encF : Nat → Nat → List Nat
  | 0, _ => []
  | f + 1, n => if n = 0 then [] else n % 1000000000 :: encF f (n / 1000000000)
def enc (n : Nat) : List Nat := encF (n + 1) n

theorem encF_val : ∀ (f n : Nat), n < f → val (encF f n) = n
  | 0, n, h => by omega
  | f + 1, n, h => by
    unfold encF
    split
    · rename_i h0; simp [val, h0]
    · have := encF_val f (n / 1000000000) (by have := Nat.div_lt_self (n := n) (k := 1000000000) (by omega) (by omega); omega)
      simp only [val, this]
      omega
theorem encF_ok : ∀ (f n : Nat), okL (encF f n)
  | 0, n => okL_nil
  | f + 1, n => by
    unfold encF
    split
    · exact okL_nil
    · intro x hx
      rcases List.mem_cons.1 hx with rfl | hx
      · exact Nat.mod_lt _ (by omega)
      · exact encF_ok f _ x hx
theorem encF_norm : ∀ (f n : Nat), n < f → Norm (encF f n)
  | 0, n, h => by omega
  | f + 1, n, h => by
    unfold encF
    split
    · rfl
    · rename_i h0
      have hl : n / 1000000000 < f := by have := Nat.div_lt_self (n := n) (k := 1000000000) (by omega) (by omega); omega
      have ih := encF_norm f (n / 1000000000) hl
      have hv := encF_val f (n / 1000000000) hl
      unfold Norm at ih ⊢
      rw [trim, ih]
      split
      · rename_i e
        rw [e] at hv
        simp only [val] at hv
        rw [if_neg (by omega), e]
      · rename_i y s e
        rw [e]

theorem enc_val (n : Nat) : val (enc n) = n := encF_val _ _ (by omega)
theorem enc_ok (n : Nat) : okL (enc n) := encF_ok _ _
theorem enc_norm (n : Nat) : Norm (enc n) := encF_norm _ _ (by omega)
theorem trim_norm (l : List Nat) : Norm (trim l) := trim_trim l

theorem trim_enc {l : List Nat} (h : okL l) : trim l = enc (val l) :=
  val_inj (trim_ok h) (enc_ok _) (trim_norm l) (enc_norm _) (by rw [trim_val, enc_val])
theorem norm_enc {l : List Nat} (h : okL l) (hn : Norm l) : l = enc (val l) := by rw [← trim_enc h]; exact hn.symm
theorem enc_zero : enc 0 = [] := rfl
theorem enc_nil {n : Nat} : enc n = [] ↔ n = 0 := by
  constructor
  · intro h; have := enc_val n; rw [h] at this; exact this.symm
  · rintro rfl; rfl
theorem pure1 {x : AV} (h : Pure x) : ∀ y ∈ [x], Pure y := by intro y hy; simp at hy; subst hy; exact h
theorem pure2 {x y : AV} (h : Pure x) (h' : Pure y) : ∀ z ∈ [x, y], Pure z := by intro z hz; simp at hz; rcases hz with rfl | rfl <;> assumption

def limbsV (l : List Nat) : List (List AV) := l.map fun (n : Nat) => [AV.int .u32 (n : Int)]
theorem limbsV_length (l : List Nat) : (limbsV l).length = l.length := by simp [limbsV]
theorem limbsV_get {l : List Nat} {i : Nat} (h : i < l.length) : (limbsV l)[i]? = some [.int .u32 ((l[i] : Nat) : Int)] := by simp [limbsV, h]
theorem limbsV_row {l : List Nat} : ∀ row ∈ limbsV l, row.length = 1 := by intro row h; simp [limbsV] at h; obtain ⟨n, _, rfl⟩ := h; rfl

inductive MagV (l : List Nat) : AV → Prop where
  | nils (h : l = []) : MagV l .nils
  | vs (c : Option Nat) : MagV l (.vs (limbsV l) c)
theorem pure_limbs (l : List Nat) (c : Option Nat) : Pure (.vs (limbsV l) c) := by
  refine .vs _ _ fun i hi j hj => ?_
  simp [limbsV] at hi hj ⊢
  exact .int _ _
theorem MagV.pure {l : List Nat} {x : AV} (h : MagV l x) : Pure x := by
  cases h with
  | nils => exact .nils
  | vs c => exact pure_limbs l c
theorem pure_agg2 {x y : AV} (h : Pure x) (h' : Pure y) : Pure (.agg [x, y]) := .agg _ fun i hi => by
  match i, hi with
  | 0, _ => exact h
  | 1, _ => exact h'

theorem idx_limbs {l : List Nat} {i : Int} {K : AV → Prop} (k : Nat) (hi : i = k) (hk : k < l.length) (h : K (.vp [.int .u32 ((l[k] : Nat) : Int)] 0)) : idxX (limbsV l) 1 i K := by
  subst hi
  refine ⟨⟨by omega, by rw [limbsV_length]; omega⟩, _, limbsV_get (by simpa using hk), rfl, h⟩
theorem slc_limbs {l r : List Nat} {c : Option Nat} {a b : Int} {K : AV → Prop} (hb : 0 ≤ a ∧ a ≤ b ∧ b ≤ l.length) (e : (l.take b.toNat).drop a.toNat = r) (h : K (.vs (limbsV r) (c.map (· - a.toNat)))) : slcX (limbsV l) c 1 a b K := by
  subst e
  refine ⟨⟨hb.1, hb.2.1, by rw [limbsV_length]; exact hb.2.2⟩, limbsV_row, ?_⟩
  have : ((limbsV l).take b.toNat).drop a.toNat = limbsV ((l.take b.toNat).drop a.toNat) := by simp [limbsV, List.map_take, List.map_drop]
  rw [this]; exact h

theorem slc_limbs0 {l r : List Nat} {c : Option Nat} {b : Int} {K : AV → Prop} (hb : 0 ≤ b ∧ b ≤ l.length) (e : l.take b.toNat = r) (h : K (.vs (limbsV r) c)) : slcX (limbsV l) c 1 0 b K :=
  slc_limbs ⟨by omega, hb.1, hb.2⟩ (by simpa using e) (by cases c <;> exact h)

theorem frz_agg2 {h : Heap} {x y x' y' : AV} (h1 : Frz h x x') (h2 : Frz h y y') : Frz h (.agg [x, y]) (.agg [x', y']) := .agg _ _ rfl fun i hi hj => by
  match i, hi with
  | 0, _ => exact h1
  | 1, _ => exact h2


def carS (t : Nat → Nat) : Nat → Nat
  | 0 => 0
  | i + 1 => (t i + carS t i) / 1000000000
def digS (t : Nat → Nat) (i : Nat) : Nat := (t i + carS t i) % 1000000000
def outS (t : Nat → Nat) (i : Nat) : List Nat := (List.range i).map (digS t)
def sumS (t : Nat → Nat) : Nat → Nat
  | 0 => 0
  | i + 1 => sumS t i + 1000000000 ^ i * t i

theorem outS_length (t : Nat → Nat) (i : Nat) : (outS t i).length = i := by simp [outS]
theorem outS_succ (t : Nat → Nat) (i : Nat) : outS t (i + 1) = outS t i ++ [digS t i] := by simp [outS, List.range_succ]
theorem outS_ok (t : Nat → Nat) (i : Nat) : okL (outS t i) := fun x hx => by
  simp only [outS, List.mem_map] at hx
  obtain ⟨k, _, rfl⟩ := hx
  exact Nat.mod_lt _ (by omega)

theorem outS_val (t : Nat → Nat) : ∀ i, val (outS t i) + 1000000000 ^ i * carS t i = sumS t i
  | 0 => by simp [outS, val, carS, sumS]
  | i + 1 => by
    have ih := outS_val t i
    have hd := Nat.div_add_mod (t i + carS t i) 1000000000
    have e : 1000000000 ^ (i + 1) * ((t i + carS t i) / 1000000000) + 1000000000 ^ i * digS t i = 1000000000 ^ i * t i + 1000000000 ^ i * carS t i := by
      rw [Nat.pow_succ, Nat.mul_assoc, ← Nat.mul_add, digS, hd, Nat.mul_add]
    rw [outS_succ, val_append, outS_length]
    have e1 : val [digS t i] = digS t i := by simp [val]
    rw [e1, sumS, carS]
    omega

theorem sumS_add (t u : Nat → Nat) : ∀ i, sumS (fun k => t k + u k) i = sumS t i + sumS u i
  | 0 => rfl
  | i + 1 => by simp only [sumS, sumS_add t u i, Nat.mul_add]; omega

theorem sumS_val (l : List Nat) : ∀ i, sumS (fun k => l.getD k 0) i = val (l.take i)
  | 0 => by simp [sumS, val]
  | i + 1 => by
    rw [sumS, sumS_val l i]
    rcases Nat.lt_or_ge i l.length with h | h
    · rw [List.take_succ_eq_append_getElem h, val_append, List.length_take, Nat.min_eq_left (by omega)]
      simp [val, h]
    · rw [List.take_of_length_le h, List.take_of_length_le (by omega)]
      simp [List.getElem?_eq_none h]

def plusT (a b : List Nat) (k : Nat) : Nat := a.getD k 0 + b.getD k 0
def plusL (a b : List Nat) : List Nat := outS (plusT a b) a.length ++ (if carS (plusT a b) a.length = 0 then [] else [carS (plusT a b) a.length])

theorem getD_lt {l : List Nat} (h : okL l) (k : Nat) : l.getD k 0 < 1000000000 := by
  rcases Nat.lt_or_ge k l.length with hk | hk
  · have := okL_get h hk; simp [hk]; exact this
  · simp [List.getElem?_eq_none hk]

theorem plusT_lt {a b : List Nat} (ha : okL a) (hb : okL b) (i : Nat) : plusT a b i ≤ 1999999998 := by
  have h1 := getD_lt ha i
  have h2 := getD_lt hb i
  unfold plusT
  omega

theorem plus_car {a b : List Nat} (ha : okL a) (hb : okL b) : ∀ i, carS (plusT a b) i ≤ 1
  | 0 => by simp [carS]
  | i + 1 => by
    have := plus_car ha hb i
    have h1 := getD_lt ha i
    have h2 := getD_lt hb i
    simp only [carS, plusT]
    omega

theorem plusL_ok {a b : List Nat} (ha : okL a) (hb : okL b) : okL (plusL a b) := by
  unfold plusL
  refine okL_append.2 ⟨outS_ok _ _, ?_⟩
  split
  · exact okL_nil
  · exact okL_one (by have := plus_car ha hb a.length; omega)

theorem plusL_val {a b : List Nat} (hl : b.length ≤ a.length) : val (plusL a b) = val a + val b := by
  have h := outS_val (plusT a b) a.length
  have hs : sumS (plusT a b) a.length = val a + val b := by
    rw [show plusT a b = fun k => (fun k => a.getD k 0) k + (fun k => b.getD k 0) k from rfl, sumS_add, sumS_val, sumS_val, List.take_length, List.take_of_length_le hl]
  unfold plusL
  rw [val_append, outS_length]
  split
  · rename_i h0; rw [h0] at h; simp [val]; omega
  · have e1 : val [carS (plusT a b) a.length] = carS (plusT a b) a.length := by simp [val]
    rw [e1]; omega

theorem limbsV_set (l : List Nat) (i k : Nat) : (limbsV l).set i [.int .u32 (k : Int)] = limbsV (l.set i k) := by simp [limbsV, List.map_set]
theorem limbsV_append (a b : List Nat) : limbsV (a ++ b) = limbsV a ++ limbsV b := by simp [limbsV]
theorem limbsV_ok (l : List Nat) : ∀ r ∈ limbsV l, r.length = 1 ∧ r.all okc = true := by
  intro r h
  simp [limbsV] at h
  obtain ⟨n, _, rfl⟩ := h
  exact ⟨rfl, rfl⟩
theorem limbsV_replicate (n : Nat) : List.replicate n [AV.int .u32 0] = limbsV (List.replicate n 0) := by simp [limbsV]
theorem set_at (a : List Nat) (n d : Nat) (k : Nat) (hk : a.length = k) : (a ++ List.replicate (n + 1) 0).set k d = (a ++ [d]) ++ List.replicate n 0 := by
  subst hk
  rw [List.set_append_right _ _ (Nat.le_refl _)]
  simp [List.replicate_succ]

theorem frz_limbs {h : Heap} {b i len : Nat} {c : Option Nat} {L l : List Nat} {g fz : Bool} (hb : h.blk? b = some (.rows (limbsV L) g fz)) (hi : i + len ≤ L.length) (e : (L.drop i).take len = l) : Frz h (.ms b i len c) (.vs (limbsV l) c) := by
  subst e
  have hr : ∀ (t : Nat) (ht : t < (limbsV ((L.drop i).take len)).length) (hr : i + t < (limbsV L).length), (limbsV ((L.drop i).take len))[t] = (limbsV L)[i + t] := fun t ht hr => by
    simp [limbsV]
  refine .ms b i len c (limbsV L) g fz _ hb (by rw [limbsV_length, List.length_take, List.length_drop]; omega) (by rw [limbsV_length]; exact hi) (fun t ht hr' => by rw [hr t ht hr']) fun t ht hr' j h1 h2 => ?_
  have e := hr t ht hr'
  have : (limbsV L)[i + t][j] = (limbsV ((L.drop i).take len))[t][j] := by simp only [e]
  rw [this]
  refine .pure _ ?_
  simp [limbsV] at h1 ⊢
  exact .int _ _

theorem apX_limbs_room {h : Heap} {b len c d : Nat} {L : List Nat} {ei : TI} {K : AV → Heap → Prop} (hb : h.blk? b = some (.rows (limbsV L) false false)) (hs : ei.size = 1 ∧ ei.bytes = 4)
    (hl : len + 1 ≤ c ∧ len + 1 ≤ L.length ∧ (len + 1) * 4 ≤ 140737488355328) (hk : K (.ms b 0 (len + 1) (some c)) (h.put b (.rows (limbsV (L.set len d)) false false))) : apX h (.ms b 0 len (some c)) [[.int .u32 ((d : Nat) : Int)]] ei K := by
  refine apX_room hb ⟨by omega, by omega⟩ ⟨by rw [hs.1]; rfl, rfl⟩ (fun r hr => by rw [hs.1]; exact limbsV_ok L r hr) ⟨hl.1, by rw [limbsV_length]; omega, by rw [hs.2]; exact hl.2.2⟩ ?_
  rw [Nat.zero_add, limbsV_set]; exact hk
theorem apX_limbs_nils {h : Heap} {d : Nat} {ei : TI} {K : AV → Heap → Prop} (hs : ei.size = 1 ∧ ei.bytes = 4) (hk : K (.ms h.blks.length 0 1 none) (h.push (.rows (limbsV [d]) true false))) : apX h .nils [[.int .u32 ((d : Nat) : Int)]] ei K :=
  apX_nils ⟨⟨by omega, by omega⟩, by omega⟩ ⟨by rw [hs.1]; rfl, rfl⟩ hk
theorem apX_limbs_grow {h : Heap} {b len d : Nat} {g : Bool} {L : List Nat} {ei : TI} {K : AV → Heap → Prop} (hb : h.blk? b = some (.rows (limbsV L) g false)) (hs : ei.size = 1 ∧ ei.bytes = 4) (hl : 0 < len ∧ len = L.length ∧ (len + 1) * 4 ≤ 140737488355328)
    (hk : K (.ms b 0 (len + 1) none) (h.put b (.rows (limbsV (L ++ [d])) true false))) : apX h (.ms b 0 len none) [[.int .u32 ((d : Nat) : Int)]] ei K := by
  refine apX_grow hb ⟨by omega, by omega⟩ ⟨by rw [hs.1]; rfl, rfl⟩ (fun r hr => by rw [hs.1]; exact limbsV_ok L r hr) ⟨hl.1, by rw [limbsV_length]; exact hl.2.1, by rw [hs.2]; exact hl.2.2⟩ ?_
  have e : limbsV L ++ [[AV.int .u32 ((d : Nat) : Int)]] = limbsV (L ++ [d]) := by rw [limbsV_append]; rfl
  rw [e]; exact hk

def borS (a b : Nat → Nat) : Nat → Nat
  | 0 => 0
  | i + 1 => if a i < b i + borS a b i then 1 else 0
def difS (a b : Nat → Nat) (i : Nat) : Nat := if a i < b i + borS a b i then a i + 1000000000 - (b i + borS a b i) else a i - (b i + borS a b i)
def subS (a b : Nat → Nat) (i : Nat) : List Nat := (List.range i).map (difS a b)

theorem subS_length (a b : Nat → Nat) (i : Nat) : (subS a b i).length = i := by simp [subS]
theorem subS_succ (a b : Nat → Nat) (i : Nat) : subS a b (i + 1) = subS a b i ++ [difS a b i] := by simp [subS, List.range_succ]
theorem borS_le (a b : Nat → Nat) : ∀ i, borS a b i ≤ 1
  | 0 => by simp [borS]
  | i + 1 => by unfold borS; split <;> omega
theorem difS_lt {a b : Nat → Nat} (ha : ∀ i, a i < 1000000000) (i : Nat) : difS a b i < 1000000000 := by
  have := ha i
  unfold difS
  split <;> omega
theorem subS_ok {a b : Nat → Nat} (ha : ∀ i, a i < 1000000000) (i : Nat) : okL (subS a b i) := fun x hx => by
  simp only [subS, List.mem_map] at hx
  obtain ⟨k, _, rfl⟩ := hx
  exact difS_lt ha k

theorem subS_val {a b : Nat → Nat} (hb : ∀ i, b i < 1000000000) : ∀ i, val (subS a b i) + sumS b i = sumS a i + 1000000000 ^ i * borS a b i
  | 0 => by simp [subS, val, borS, sumS]
  | i + 1 => by
    have ih := subS_val (a := a) hb i
    have hd : difS a b i + (b i + borS a b i) = a i + 1000000000 * borS a b (i + 1) := by
      have := hb i
      have := borS_le a b i
      unfold difS
      simp only [borS]
      split <;> omega
    have e : 1000000000 ^ i * difS a b i + (1000000000 ^ i * b i + 1000000000 ^ i * borS a b i) = 1000000000 ^ i * a i + 1000000000 ^ (i + 1) * borS a b (i + 1) := by
      rw [← Nat.mul_add, ← Nat.mul_add, hd, Nat.mul_add, Nat.pow_succ, Nat.mul_assoc]
    rw [subS_succ, val_append, subS_length]
    have e1 : val [difS a b i] = difS a b i := by simp [val]
    rw [e1, sumS, sumS]
    omega

def minusL (a b : List Nat) : List Nat := subS (fun k => a.getD k 0) (fun k => b.getD k 0) a.length
theorem minusL_ok {a b : List Nat} (ha : okL a) : okL (minusL a b) := subS_ok (fun i => getD_lt ha i) _
theorem minusL_length (a b : List Nat) : (minusL a b).length = a.length := subS_length _ _ _
theorem minusL_val {a b : List Nat} (ha : okL a) (hb : okL b) (hl : b.length ≤ a.length) (hv : val b ≤ val a) : val (minusL a b) = val a - val b := by
  have h := subS_val (a := fun k => a.getD k 0) (b := fun k => b.getD k 0) (fun i => getD_lt hb i) a.length
  rw [sumS_val, sumS_val, List.take_length, List.take_of_length_le hl] at h
  have h1 := val_lt (minusL_ok (b := b) ha)
  rw [minusL_length] at h1
  have h2 := borS_le (fun k => a.getD k 0) (fun k => b.getD k 0) a.length
  unfold minusL at h1 ⊢
  rcases Nat.le_one_iff_eq_zero_or_eq_one.1 h2 with h3 | h3
  · rw [h3] at h; omega
  · rw [h3] at h; omega
def cmpTop (m o : List Nat) : Nat → Int
  | 0 => 0
  | k + 1 => if m.getD k 0 < o.getD k 0 then -1 else if o.getD k 0 < m.getD k 0 then 1 else cmpTop m o k
def cmpMag (m o : List Nat) : Int := if m.length < o.length then -1 else if o.length < m.length then 1 else cmpTop m o m.length


theorem norm_ge : ∀ {l : List Nat}, Norm l → l ≠ [] → 1000000000 ^ (l.length - 1) ≤ val l
  | [], _, h => absurd rfl h
  | [x], hn, _ => by
    unfold Norm at hn
    simp only [trim] at hn
    split at hn
    · simp at hn
    · rename_i h; simp [val]; omega
  | x :: y :: r, hn, _ => by
    have ih := norm_ge hn.tail (by simp)
    simp only [List.length_cons, Nat.add_sub_cancel] at ih ⊢
    rw [val, Nat.pow_succ]
    omega

theorem val_lt_of_length {m o : List Nat} (om : okL m) (ho : Norm o) (h : m.length < o.length) : val m < val o := by
  have h1 := val_lt om
  have h2 := norm_ge ho (by intro e; rw [e] at h; simp at h)
  have h3 : 1000000000 ^ m.length ≤ 1000000000 ^ (o.length - 1) := Nat.pow_le_pow_right (by omega) (by omega)
  omega

theorem cmpTop_val {m o : List Nat} (om : okL m) (oo : okL o) : ∀ k, k ≤ m.length → k ≤ o.length →
    (cmpTop m o k < 0 ↔ val (m.take k) < val (o.take k)) ∧ (cmpTop m o k = 0 ↔ val (m.take k) = val (o.take k))
  | 0, _, _ => by simp [cmpTop, val]
  | k + 1, h1, h2 => by
    obtain ⟨i1, i2⟩ := cmpTop_val om oo k (by omega) (by omega)
    have a1 := val_lt (okL_take om k)
    have a2 := val_lt (okL_take oo k)
    rw [List.length_take, Nat.min_eq_left (by omega)] at a1 a2
    rw [List.take_succ_eq_append_getElem (by omega : k < m.length), List.take_succ_eq_append_getElem (by omega : k < o.length), val_append, val_append, List.length_take, List.length_take,
      Nat.min_eq_left (by omega), Nat.min_eq_left (by omega)]
    have e1 : m.getD k 0 = m[k] := by simp [show k < m.length by omega]
    have e2 : o.getD k 0 = o[k] := by simp [show k < o.length by omega]
    have v1 : val [m[k]] = m[k] := by simp [val]
    have v2 : val [o[k]] = o[k] := by simp [val]
    rw [v1, v2, cmpTop, e1, e2]
    have mul : ∀ x y : Nat, x < y → 1000000000 ^ k * x + 1000000000 ^ k ≤ 1000000000 ^ k * y := fun x y h => by
      have := Nat.mul_le_mul_left (1000000000 ^ k) (show x + 1 ≤ y from h)
      rw [Nat.mul_add, Nat.mul_one] at this; exact this
    split
    · rename_i h
      have := mul _ _ h
      constructor <;> constructor <;> intro <;> omega
    · split
      · rename_i h
        have := mul _ _ h
        constructor <;> constructor <;> intro <;> omega
      · have he : m[k] = o[k] := by omega
        rw [he]
        constructor
        · rw [i1]; constructor <;> intro <;> omega
        · rw [i2]; constructor <;> intro <;> omega

theorem cmpMag_val {m o : List Nat} (om : okL m) (oo : okL o) (hm : Norm m) (ho : Norm o) : (cmpMag m o < 0 ↔ val m < val o) ∧ (cmpMag m o = 0 ↔ val m = val o) := by
  unfold cmpMag
  split
  · rename_i h
    have := val_lt_of_length om ho h
    constructor <;> constructor <;> intro <;> omega
  · split
    · rename_i h
      have := val_lt_of_length oo hm h
      constructor <;> constructor <;> intro <;> omega
    · have h : m.length = o.length := by omega
      have := cmpTop_val om oo m.length (Nat.le_refl _) (by omega)
      rw [List.take_length, List.take_of_length_le (by omega : o.length ≤ m.length)] at this
      exact this

def WholeV (z : Int) (x : AV) : Prop := ∃ X, MagV (enc z.natAbs) X ∧ x = .agg [.bool (decide (z < 0)), X]
def wholeR (z : Int) (c : Option Nat) : AV := .agg [.bool (decide (z < 0)), .vs (limbsV (enc z.natAbs)) c]
theorem wholeR_V (z : Int) (c : Option Nat) : WholeV z (wholeR z c) := ⟨_, .vs c, rfl⟩
theorem WholeV.pure {z : Int} {x : AV} (h : WholeV z x) : Pure x := by
  obtain ⟨X, h, rfl⟩ := h
  exact pure_agg2 (.bool _) h.pure
theorem wholeR_eq {z : Int} {b : Bool} {l : List Nat} {c : Option Nat} (hb : b = decide (z < 0)) (hl : l = enc z.natAbs) : AV.agg [.bool b, .vs (limbsV l) c] = wholeR z c := by subst hb hl; rfl

theorem enc_length_le {n m : Nat} (h : n ≤ m) : (enc n).length ≤ (enc m).length := by
  rcases Nat.lt_or_ge (enc m).length (enc n).length with hl | hl
  · have := val_lt_of_length (enc_ok m) (enc_norm n) hl
    rw [enc_val, enc_val] at this
    omega
  · exact hl
theorem enc_length_lt {n k : Nat} (h : n < 1000000000 ^ k) : (enc n).length ≤ k := by
  by_cases h0 : enc n = []
  · rw [h0]; simp
  · have := norm_ge (enc_norm n) h0
    rw [enc_val] at this
    have hl : (enc n).length ≠ 0 := fun e => h0 (List.eq_nil_of_length_eq_zero e)
    rcases Nat.lt_or_ge k (enc n).length with hk | hk
    · have h3 : 1000000000 ^ k ≤ 1000000000 ^ ((enc n).length - 1) := Nat.pow_le_pow_right (by omega) (by omega)
      omega
    · exact hk

/-! ### Products -/
def rowT (L v : List Nat) (i x k : Nat) : Nat := x * v.getD k 0 + L.getD (i + k) 0
def rowP (L v : List Nat) (i x k : Nat) : List Nat := L.take i ++ outS (rowT L v i x) k ++ L.drop (i + k)
def mulRow (L v : List Nat) (i x : Nat) : List Nat := L.take i ++ outS (rowT L v i x) v.length ++ [carS (rowT L v i x) v.length] ++ L.drop (i + v.length + 1)
def mulS (u v : List Nat) : Nat → List Nat
  | 0 => List.replicate (u.length + v.length) 0
  | i + 1 => mulRow (mulS u v i) v i (u.getD i 0)

theorem rowT_le {L v : List Nat} (oL : okL L) (ov : okL v) {x : Nat} (hx : x < 1000000000) (i k : Nat) : rowT L v i x k ≤ 999999999 * 999999999 + 999999999 := by
  have h1 := getD_lt ov k
  have h2 := getD_lt oL (i + k)
  have : x * v.getD k 0 ≤ 999999999 * 999999999 := Nat.mul_le_mul (by omega) (by omega)
  unfold rowT
  omega
theorem row_car {L v : List Nat} (oL : okL L) (ov : okL v) {x : Nat} (hx : x < 1000000000) (i : Nat) : ∀ k, carS (rowT L v i x) k ≤ 999999999
  | 0 => by simp [carS]
  | k + 1 => by
    have h1 := rowT_le oL ov hx i k
    have h2 := row_car oL ov hx i k
    simp only [carS]
    omega

theorem rowP_length {L v : List Nat} {i x k : Nat} (h : i + k ≤ L.length) : (rowP L v i x k).length = L.length := by
  unfold rowP
  simp only [List.length_append, List.length_take, List.length_drop, outS_length]
  omega
theorem rowP_zero (L v : List Nat) (i x : Nat) : rowP L v i x 0 = L := by simp [rowP, outS]
theorem rowP_get {L v : List Nat} {i x k : Nat} (h : i + k < L.length) : (rowP L v i x k)[i + k]? = some (L[i + k]) := by
  unfold rowP
  rw [List.getElem?_append_right (by simp [outS_length]; omega)]
  simp only [List.length_append, List.length_take, outS_length, Nat.min_eq_left (by omega : i ≤ L.length), Nat.sub_self]
  simp [h]
theorem rowP_set {L v : List Nat} {i x k : Nat} (h : i + k < L.length) : (rowP L v i x k).set (i + k) (digS (rowT L v i x) k) = rowP L v i x (k + 1) := by
  unfold rowP
  have hl : (L.take i ++ outS (rowT L v i x) k).length = i + k := by simp [outS_length]; omega
  rw [List.set_append_right _ _ (by omega), hl, Nat.sub_self, List.drop_eq_getElem_cons h, List.set_cons_zero, outS_succ]
  simp [Nat.add_assoc]
theorem rowP_last {L v : List Nat} {i x : Nat} (h : i + v.length < L.length) : (rowP L v i x v.length).set (i + v.length) (carS (rowT L v i x) v.length) = mulRow L v i x := by
  unfold rowP mulRow
  have hl : (L.take i ++ outS (rowT L v i x) v.length).length = i + v.length := by simp [outS_length]; omega
  rw [List.set_append_right _ _ (by omega), hl, Nat.sub_self, List.drop_eq_getElem_cons h, List.set_cons_zero]
  simp [Nat.add_assoc]

theorem okL_drop {l : List Nat} (h : okL l) (n : Nat) : okL (l.drop n) := fun x hx => h x (List.mem_of_mem_drop hx)
theorem mulRow_ok {L v : List Nat} (oL : okL L) (ov : okL v) {i x : Nat} (hx : x < 1000000000) : okL (mulRow L v i x) := by
  unfold mulRow
  exact okL_append.2 ⟨okL_append.2 ⟨okL_append.2 ⟨okL_take oL _, outS_ok _ _⟩, okL_one (by have := row_car oL ov hx i v.length; omega)⟩, okL_drop oL _⟩
theorem mulRow_length {L v : List Nat} {i x : Nat} (h : i + v.length < L.length) : (mulRow L v i x).length = L.length := by
  rw [← rowP_last h, List.length_set, rowP_length (by omega)]

theorem mulS_ok {u v : List Nat} (ou : okL u) (ov : okL v) : ∀ i, okL (mulS u v i)
  | 0 => fun x hx => by simp only [mulS] at hx; have := List.eq_of_mem_replicate hx; omega
  | i + 1 => mulRow_ok (mulS_ok ou ov i) ov (getD_lt ou i)
theorem mulS_length {u v : List Nat} : ∀ i, i ≤ u.length → (mulS u v i).length = u.length + v.length
  | 0, _ => by simp [mulS]
  | i + 1, h => by
    have ih := mulS_length (u := u) (v := v) i (by omega)
    rw [mulS, mulRow_length (by omega), ih]

theorem sumS_shift (L : List Nat) (i : Nat) : ∀ k, sumS (fun j => L.getD (i + j) 0) k = val ((L.drop i).take k) := fun k => by
  rw [← sumS_val (L.drop i) k]
  congr 1
  funext j
  simp [List.getD_eq_getElem?_getD, List.getElem?_drop]
theorem sumS_mul (t : Nat → Nat) (x : Nat) : ∀ k, sumS (fun j => x * t j) k = x * sumS t k
  | 0 => by simp [sumS]
  | k + 1 => by
    rw [sumS, sumS, sumS_mul t x k, Nat.mul_add]
    rw [← Nat.mul_assoc, Nat.mul_comm (1000000000 ^ k) x, Nat.mul_assoc]

theorem mulRow_val {L v : List Nat} {i x : Nat} (h : i + v.length < L.length) (h0 : L[i + v.length] = 0) : val (mulRow L v i x) = val L + 1000000000 ^ i * (x * val v) := by
  have e1 : L = L.take i ++ ((L.drop i).take v.length ++ ([0] ++ L.drop (i + v.length + 1))) := by
    conv => lhs; rw [← List.take_append_drop i L]
    congr 1
    conv => lhs; rw [← List.take_append_drop v.length (L.drop i)]
    congr 1
    rw [List.drop_drop, List.drop_eq_getElem_cons (by omega), h0]
    rfl
  have hs := outS_val (rowT L v i x) v.length
  have ht : sumS (rowT L v i x) v.length = x * val v + val ((L.drop i).take v.length) := by
    rw [show rowT L v i x = fun k => (fun k => x * v.getD k 0) k + (fun k => L.getD (i + k) 0) k from rfl, sumS_add, sumS_mul, sumS_val, List.take_length, sumS_shift]
  have v0 : ∀ c : Nat, val [c] = c := fun c => by simp [val]
  have l1 : ((L.drop i).take v.length).length = v.length := by simp; omega
  have l2 : (L.take i).length = i := by simp; omega
  conv => rhs; rw [e1]
  unfold mulRow
  rw [List.append_assoc, List.append_assoc, val_append, val_append, val_append, val_append, val_append, val_append, v0, v0, outS_length, l1, l2]
  simp only [List.length_singleton]
  have hh : val (outS (rowT L v i x) v.length) + 1000000000 ^ v.length * (carS (rowT L v i x) v.length + 1000000000 ^ 1 * val (L.drop (i + v.length + 1))) = x * val v + (val ((L.drop i).take v.length) + 1000000000 ^ v.length * (0 + 1000000000 ^ 1 * val (L.drop (i + v.length + 1)))) := by
    rw [Nat.mul_add, Nat.mul_add]; omega
  rw [hh, Nat.mul_add]
  omega

theorem mulS_val {u v : List Nat} : ∀ i, i ≤ u.length → val (mulS u v i) = val (u.take i) * val v ∧ ∀ j, i + v.length ≤ j → (mulS u v i).getD j 0 = 0
  | 0, _ => by
    have z : ∀ n, val (List.replicate n 0) = 0 := fun n => by
      induction n with
      | zero => rfl
      | succ n ih => rw [List.replicate_succ, val, ih]
    refine ⟨by simp [mulS, z, val], fun j hj => ?_⟩
    simp only [mulS, List.getD_eq_getElem?_getD, List.getElem?_replicate]
    split <;> rfl
  | i + 1, hi => by
    obtain ⟨h1, h2⟩ := mulS_val (u := u) (v := v) i (by omega)
    have hl := mulS_length (u := u) (v := v) i (by omega)
    have hlt : i + v.length < (mulS u v i).length := by omega
    have h0 : (mulS u v i)[i + v.length] = 0 := by
      have := h2 (i + v.length) (Nat.le_refl _)
      simpa [hlt] using this
    refine ⟨?_, fun j hj => ?_⟩
    · rw [mulS, mulRow_val hlt h0, h1, List.take_succ_eq_append_getElem (by omega : i < u.length), val_append, List.length_take, Nat.min_eq_left (by omega)]
      have e1 : u.getD i 0 = u[i] := by simp [show i < u.length by omega]
      have e2 : val [u[i]] = u[i] := by simp [val]
      rw [e1, e2, Nat.add_mul, Nat.mul_assoc]
    · have : (mulS u v (i + 1)).getD j 0 = (mulS u v i).getD j 0 := by
        rw [mulS, ← rowP_last hlt]
        simp only [List.getD_eq_getElem?_getD]
        rw [List.getElem?_set_ne (by omega)]
        unfold rowP
        rw [List.getElem?_append_right (by simp [outS_length]; omega)]
        simp only [List.length_append, List.length_take, outS_length, Nat.min_eq_left (by omega : i ≤ (mulS u v i).length), List.getElem?_drop]
        congr 2
        omega
      rw [this]
      exact h2 j (by omega)

theorem idm_limbs {L : List Nat} {s len : Nat} {i : Int} {K : Nat → Prop} (k : Nat) (hi : i = k) (hk : k < len) (hL : s + k < L.length) (h : K (s + k)) : idmX (limbsV L) s len 1 i K :=
  idmX_eq k hi hk (by omega) (limbsV_get hL) rfl h
theorem ld_limbs {L : List Nat} {i x : Nat} {ti : TI} {K : AV → Prop} (e : L[i]? = some x) (hd : isAggD ti.desc = false) (h : K (.int .u32 (x : Int))) : ldX (limbsV L) i 0 ti K := by
  refine ldX_eq (r := .int .u32 (x : Int)) ?_ h
  have : (limbsV L)[i]? = some [AV.int .u32 (x : Int)] := by simp [limbsV, e]
  rw [this]
  simp [partA, hd]
theorem st_limbs {L : List Nat} {i d : Nat} {ti : TI} {K : List (List AV) → Prop} (hi : i < L.length) (ht : ti.size = 1) (h : K (limbsV (L.set i d))) : stX (limbsV L) i 0 ti (.int .u32 (d : Int)) K := by
  refine stX_eq (row := [.int .u32 ((L[i] : Nat) : Int)]) (limbsV_get hi) ?_ ?_ h
  · rw [ht]; rfl
  · rw [ht, ← limbsV_set]; rfl

theorem frzT_limbs {h : Heap} {b i len : Nat} {c : Option Nat} {L l : List Nat} {g : Bool} (hb : h.blk? b = some (.rows (limbsV L) g true)) (hi : i + len ≤ L.length) (e : (L.drop i).take len = l) : FrzT h (.ms b i len c) (.vs (limbsV l) c) := by
  subst e
  have hr : ∀ (t : Nat) (ht : t < (limbsV ((L.drop i).take len)).length) (hr : i + t < (limbsV L).length), (limbsV ((L.drop i).take len))[t] = (limbsV L)[i + t] := fun t ht hr => by
    simp [limbsV]
  refine .ms b i len c (limbsV L) g _ hb (by rw [limbsV_length, List.length_take, List.length_drop]; omega) (by rw [limbsV_length]; exact hi) (fun t ht hr' => by rw [hr t ht hr']) fun t ht hr' j h1 h2 => ?_
  have e := hr t ht hr'
  have : (limbsV L)[i + t][j] = (limbsV ((L.drop i).take len))[t][j] := by simp only [e]
  rw [this]
  refine .pure _ ?_
  simp [limbsV] at h1 ⊢
  exact .int _ _

/-! ### Division by one limb -/
def shortD (l : List Nat) (d i : Nat) : Nat := ((val (l.drop (i + 1)) % d) * 1000000000 + l.getD i 0) / d
def shortT (l : List Nat) (d : Nat) : Nat → List Nat
  | 0 => []
  | n + 1 => shortD l d (l.length - (n + 1)) :: shortT l d n
def shortP (l : List Nat) (d k : Nat) : List Nat := List.replicate k 0 ++ shortT l d (l.length - k)

theorem shortT_length (l : List Nat) (d : Nat) : ∀ n, (shortT l d n).length = n
  | 0 => rfl
  | n + 1 => by simp [shortT, shortT_length l d n]
theorem shortP_length {l : List Nat} {d k : Nat} (h : k ≤ l.length) : (shortP l d k).length = l.length := by
  simp only [shortP, List.length_append, List.length_replicate, shortT_length]; omega
theorem shortP_set {l : List Nat} {d k : Nat} (h : k < l.length) : (shortP l d (k + 1)).set k (shortD l d k) = shortP l d k := by
  unfold shortP
  rw [List.replicate_succ', show l.length - k = (l.length - (k + 1)) + 1 by omega, shortT, show l.length - (l.length - (k + 1) + 1) = k by omega, List.append_assoc, List.set_append_right _ _ (by simp)]
  simp

theorem short_step {a d x : Nat} (hd : 0 < d) : (x + 1000000000 * a) / d = ((a % d) * 1000000000 + x) / d + 1000000000 * (a / d) ∧ (x + 1000000000 * a) % d = ((a % d) * 1000000000 + x) % d := by
  have h := Nat.div_add_mod a d
  have e : x + 1000000000 * a = ((a % d) * 1000000000 + x) + d * (1000000000 * (a / d)) := by
    conv => lhs; rw [← h]
    rw [Nat.mul_add, ← Nat.mul_assoc, ← Nat.mul_assoc, Nat.mul_comm d 1000000000]
    omega
  rw [e, Nat.add_mul_div_left _ _ hd, Nat.add_mul_mod_self_left]
  exact ⟨rfl, rfl⟩

theorem drop_val {l : List Nat} {j : Nat} (hj : j < l.length) : val (l.drop j) = l[j] + 1000000000 * val (l.drop (j + 1)) := by
  rw [List.drop_eq_getElem_cons hj, val]

theorem shortT_val {l : List Nat} {d : Nat} (hd : 0 < d) : ∀ n, n ≤ l.length → val (shortT l d n) = val (l.drop (l.length - n)) / d
  | 0, _ => by simp [shortT, val]
  | n + 1, h => by
    have ih := shortT_val (l := l) hd n (by omega)
    have hj : l.length - (n + 1) < l.length := by omega
    have e : l.length - (n + 1) + 1 = l.length - n := by omega
    rw [shortT, val, ih, drop_val hj, e]
    have eg : l.getD (l.length - (n + 1)) 0 = l[l.length - (n + 1)] := by simp [hj]
    rw [(short_step hd).1, shortD, e, eg]

theorem shortD_lt {l : List Nat} (ol : okL l) {d : Nat} (hd : 0 < d) (i : Nat) : shortD l d i < 1000000000 := by
  have h1 := getD_lt ol i
  have h2 := Nat.mod_lt (val (l.drop (i + 1))) hd
  unfold shortD
  rw [Nat.div_lt_iff_lt_mul hd]
  have : (val (l.drop (i + 1)) % d + 1) * 1000000000 ≤ d * 1000000000 := Nat.mul_le_mul_right _ h2
  omega
theorem shortT_ok {l : List Nat} (ol : okL l) {d : Nat} (hd : 0 < d) : ∀ n, okL (shortT l d n)
  | 0 => okL_nil
  | n + 1 => fun x hx => by
    rcases List.mem_cons.1 hx with rfl | hx
    · exact shortD_lt ol hd _
    · exact shortT_ok ol hd n x hx
theorem short_mod {l : List Nat} {d j : Nat} (hd : 0 < d) (hj : j < l.length) : val (l.drop j) % d = ((val (l.drop (j + 1)) % d) * 1000000000 + l.getD j 0) % d := by
  have eg : l.getD j 0 = l[j] := by simp [hj]
  rw [drop_val hj, (short_step hd).2, eg]

/-! ### Products with one limb -/
def scaleT (l : List Nat) (d k : Nat) : Nat := l.getD k 0 * d
def scaledL (l : List Nat) (d : Nat) : List Nat := outS (scaleT l d) l.length ++ [carS (scaleT l d) l.length]
theorem scaleT_le {l : List Nat} (ol : okL l) {d : Nat} (hd : d < 1000000000) (k : Nat) : scaleT l d k ≤ 999999999 * 999999999 := by
  have h := getD_lt ol k
  exact Nat.mul_le_mul (by omega) (by omega)
theorem scale_car {l : List Nat} (ol : okL l) {d : Nat} (hd : d < 1000000000) : ∀ k, carS (scaleT l d) k ≤ 999999998
  | 0 => by simp [carS]
  | k + 1 => by
    have h1 := scaleT_le ol hd k
    have h2 := scale_car ol hd k
    simp only [carS]
    omega
theorem scaledL_ok {l : List Nat} (ol : okL l) {d : Nat} (hd : d < 1000000000) : okL (scaledL l d) :=
  okL_append.2 ⟨outS_ok _ _, okL_one (by have := scale_car ol hd l.length; omega)⟩
theorem scaledL_length (l : List Nat) (d : Nat) : (scaledL l d).length = l.length + 1 := by simp [scaledL, outS_length]
theorem scaledL_val (l : List Nat) (d : Nat) : val (scaledL l d) = val l * d := by
  have h := outS_val (scaleT l d) l.length
  have hs : sumS (scaleT l d) l.length = d * val l := by
    rw [show scaleT l d = fun k => d * (fun k => l.getD k 0) k from funext fun k => Nat.mul_comm _ _, sumS_mul, sumS_val, List.take_length]
  unfold scaledL
  rw [val_append, outS_length]
  have e1 : val [carS (scaleT l d) l.length] = carS (scaleT l d) l.length := by simp [val]
  rw [e1, h, hs, Nat.mul_comm]

/-! ### A multiple is taken away, in place -/
def segP (L : List Nat) (s k : Nat) (f : Nat → List Nat) : List Nat := L.take s ++ f k ++ L.drop (s + k)
def loseP (L : List Nat) (s : Nat) (o : List Nat) (x k : Nat) : List Nat := L.take s ++ subS (fun j => L.getD (s + j) 0) (digS (fun j => x * o.getD j 0)) k ++ L.drop (s + k)
def loseB (L : List Nat) (s : Nat) (o : List Nat) (x k : Nat) : Nat := borS (fun j => L.getD (s + j) 0) (digS (fun j => x * o.getD j 0)) k

theorem loseP_length {L o : List Nat} {s x k : Nat} (h : s + k ≤ L.length) : (loseP L s o x k).length = L.length := by
  unfold loseP
  simp only [List.length_append, List.length_take, List.length_drop, subS_length]
  omega
theorem loseP_zero (L : List Nat) (s : Nat) (o : List Nat) (x : Nat) : loseP L s o x 0 = L := by simp [loseP, subS]
theorem loseP_get {L o : List Nat} {s x k : Nat} (h : s + k < L.length) : (loseP L s o x k)[s + k]? = some (L[s + k]) := by
  unfold loseP
  rw [List.getElem?_append_right (by simp [subS_length]; omega)]
  simp only [List.length_append, List.length_take, subS_length, Nat.min_eq_left (by omega : s ≤ L.length), Nat.sub_self]
  simp [h]
theorem loseP_set {L o : List Nat} {s x k : Nat} (h : s + k < L.length) : (loseP L s o x k).set (s + k) (difS (fun j => L.getD (s + j) 0) (digS (fun j => x * o.getD j 0)) k) = loseP L s o x (k + 1) := by
  unfold loseP
  have hl : (L.take s ++ subS (fun j => L.getD (s + j) 0) (digS (fun j => x * o.getD j 0)) k).length = s + k := by simp [subS_length]; omega
  rw [List.set_append_right _ _ (by omega), hl, Nat.sub_self, List.drop_eq_getElem_cons h, List.set_cons_zero, subS_succ]
  simp [Nat.add_assoc]
theorem times_car {o : List Nat} (oo : okL o) {x : Nat} (hx : x < 1000000000) : ∀ k, carS (fun j => x * o.getD j 0) k ≤ 999999998
  | 0 => by simp [carS]
  | k + 1 => by
    have h1 := getD_lt oo k
    have h2 := times_car oo hx k
    have h3 : x * o.getD k 0 ≤ 999999999 * 999999999 := Nat.mul_le_mul (by omega) (by omega)
    simp only [carS]
    omega

/-! ### A magnitude is added, in place -/
def gainT (L : List Nat) (s : Nat) (o : List Nat) (j : Nat) : Nat := L.getD (s + j) 0 + o.getD j 0
def gainP (L : List Nat) (s : Nat) (o : List Nat) (k : Nat) : List Nat := L.take s ++ outS (gainT L s o) k ++ L.drop (s + k)
theorem gainP_length {L o : List Nat} {s k : Nat} (h : s + k ≤ L.length) : (gainP L s o k).length = L.length := by
  unfold gainP
  simp only [List.length_append, List.length_take, List.length_drop, outS_length]
  omega
theorem gainP_zero (L : List Nat) (s : Nat) (o : List Nat) : gainP L s o 0 = L := by simp [gainP, outS]
theorem gainP_get {L o : List Nat} {s k : Nat} (h : s + k < L.length) : (gainP L s o k)[s + k]? = some (L[s + k]) := by
  unfold gainP
  rw [List.getElem?_append_right (by simp [outS_length]; omega)]
  simp only [List.length_append, List.length_take, outS_length, Nat.min_eq_left (by omega : s ≤ L.length), Nat.sub_self]
  simp [h]
theorem gainP_set {L o : List Nat} {s k : Nat} (h : s + k < L.length) : (gainP L s o k).set (s + k) (digS (gainT L s o) k) = gainP L s o (k + 1) := by
  unfold gainP
  have hl : (L.take s ++ outS (gainT L s o) k).length = s + k := by simp [outS_length]; omega
  rw [List.set_append_right _ _ (by omega), hl, Nat.sub_self, List.drop_eq_getElem_cons h, List.set_cons_zero, outS_succ]
  simp [Nat.add_assoc]
theorem gain_car {L o : List Nat} (oL : okL L) (oo : okL o) (s : Nat) : ∀ k, carS (gainT L s o) k ≤ 1
  | 0 => by simp [carS]
  | k + 1 => by
    have h1 := getD_lt oo k
    have h2 := getD_lt oL (s + k)
    have h3 := gain_car oL oo s k
    have e : gainT L s o k = L.getD (s + k) 0 + o.getD k 0 := rfl
    simp only [carS, e]
    omega
end
end Go.Abs

namespace Go.Abs
noncomputable section
variable [Gl]

section iter
variable {P : Program}

theorem callV_mono {h : Heap} {l : Nat} {args : List AV} {K K' : AV → Heap → Prop} (hk : ∀ r h', K r h' → K' r h') (hc : callV P h (.yld l) args K) : callV P h (.yld l) args K' := by
  simp only [callV] at hc ⊢
  exact ⟨hc.1, hc.2.mono hk⟩

def Rounds (P : Program) (l : Nat) : List (List AV) → Heap → (Heap → Prop) → Prop
  | [], h, K => K h
  | v :: vs, h, K => callV P h (.yld l) v fun r h' => (r = .bool true ∧ Rounds P l vs h' K) ∨ (r = .bool false ∧ K h')

structure IterSem (P : Program) (g : FuncId) (cap : List AV) (vals : List (List AV)) : Prop where
  run : ∀ (h : Heap) (l : Nat) (K : AV → Heap → Prop), Rounds P l vals h (K (.tup [])) → CallSem P g ([.yld l] ++ cap) h K

theorem loop?_last (L : List (Option ALoop)) (b : List (Option Blk)) (r : Option ALoop) : (Heap.mk b (L ++ [r])).loop? L.length = r := by
  simp [Heap.loop?]
theorem setLoop_last (L : List (Option ALoop)) (b : List (Option Blk)) (r r' : Option ALoop) : (Heap.mk b (L ++ [r])).setLoop L.length r' = Heap.mk b (L ++ [r']) := by
  simp [Heap.setLoop]

theorem range_iter {n m : Nat} {rnd : Option Nat} {f : Operand} {ps : Array Tmp} {as body : Code} {g : FuncId} {cap : List AV} {vals : List (List AV)} {st : St} {Q : AExit → St → Prop} (it : IterSem P g cap vals)
    (hf : st.ev f = .fn (.func g) [] cap) (hrd : ∀ l0, rnd = some l0 → (st.h.loop? l0).isSome = true) (J : List (List AV) → List (Option Blk) → Prop) (h0 : J vals st.h.blks)
    (step : ∀ v vs blks, J (v :: vs) blks → v.length = ps.size ∧ ∀ (r : ALoop) (n m : Nat), TodoSem P n m (some st.h.loops.length) [.code as] ⟨setParams st.tmps ps.toList v, ⟨blks, st.h.loops ++ [some r]⟩⟩ fun e s => e = .normal ∧ s.h = ⟨blks, st.h.loops ++ [some r]⟩ ∧
      ∀ (r' : ALoop), TodoSem P n m (some st.h.loops.length) [.code body] ⟨s.tmps, ⟨blks, st.h.loops ++ [some r']⟩⟩ fun e s => ∃ blks', s.h = ⟨blks', st.h.loops ++ [some r']⟩ ∧
        (match e with | .normal => J vs blks' | .jump j => isJump j = true ∧ Q (.jump j) ⟨st.tmps, ⟨blks', st.h.loops ++ [none]⟩⟩))
    (hend : ∀ blks, J [] blks → Q .normal ⟨st.tmps, ⟨blks, st.h.loops ++ [none]⟩⟩) : TodoSem P n m rnd [.code (.rangeFunc f ps as body)] st Q := by
  refine t_rangeFunc hf hrd (it.run _ _ _ ?_)
  have key : ∀ (vs : List (List AV)) (blks : List (Option Blk)), J vs blks →
      Rounds P st.h.loops.length vs ⟨blks, st.h.loops ++ [some { state := .ready, pending := none, tmps := st.tmps, params := ps, assign := as, body := body }]⟩ (rangeQ st.tmps st.h.loops.length Q (.tup [])) := by
    intro vs
    induction vs with
    | nil =>
      intro blks hJ
      show rangeQ _ _ _ _ _
      unfold rangeQ
      rw [loop?_last]
      refine ⟨by simp, ?_⟩
      show Q .normal _
      rw [setLoop_last]
      exact hend blks hJ
    | cons v vs ih =>
      intro blks hJ
      obtain ⟨hn, hs⟩ := step v vs blks hJ
      have hl := loop?_last st.h.loops blks (some { state := .ready, pending := none, tmps := st.tmps, params := ps, assign := as, body := body })
      show callV P _ _ _ _
      simp only [callV, hl]
      refine ⟨trivial, yield_sem hl hn ?_⟩
      refine todo_append (xs := [.code as]) rfl ((hs _ _ _).mono fun e s hq => ?_)
      obtain ⟨rfl, e1, hb⟩ := hq
      obtain ⟨ts, hh⟩ := s
      simp only at e1 hb
      subst e1
      refine todo_append (xs := [.beginRound]) rfl (todo_beginRound (loop?_last _ _ _) rfl ?_)
      show TodoSem P _ _ _ [.code body] _ _
      simp only [setLoop_last]
      refine (hb _).mono fun e s hq => ?_
      obtain ⟨blks', e2, hq⟩ := hq
      unfold roundQ
      rw [e2, loop?_last]
      cases e with
      | normal =>
        simp only [setLoop_last]
        refine .inl ⟨?_, ih blks' hq⟩
        trivial
      | jump j =>
        refine ⟨hq.1, .inr ⟨by trivial, ?_⟩⟩
        simp only [setLoop_last]
        unfold rangeQ
        rw [loop?_last]
        refine ⟨by simp, ?_⟩
        simp only [setLoop_last]
        exact ⟨hq.1, hq.2⟩
  exact key vals st.h.blks h0
end iter
end
end Go.Abs

namespace Go.Abs
noncomputable section

theorem guess_over {A b T b2 P x y g : Nat} (hA : A = T * P + x) (hx : x < P) (hb : b = b2 * P + y) (h0 : 0 < b) (h : T < g * b2) : A / b < g := by
  rw [Nat.div_lt_iff_lt_mul h0]
  have h1 : (T + 1) * P ≤ g * b2 * P := Nat.mul_le_mul_right P h
  have h2 : g * (b2 * P) ≤ g * b := Nat.mul_le_mul_left g (by omega)
  rw [Nat.mul_assoc] at h1
  rw [Nat.add_mul, Nat.one_mul] at h1
  omega

theorem guess_near {A b T b2 P x y g B : Nat} (hA : A = T * P + x) (hb : b = b2 * P + y) (hy : y < P) (h0 : 0 < b) (hg : g < B) (hB : B * P ≤ b) (h : g * b2 ≤ T) : g ≤ A / b + 1 := by
  have h1 : g * b2 * P ≤ T * P := Nat.mul_le_mul_right P h
  have h2 : g * y ≤ B * P := Nat.mul_le_mul (by omega) (by omega)
  have h3 : g * b = g * b2 * P + g * y := by rw [hb, Nat.mul_add, Nat.mul_assoc]
  rcases (show g = 0 ∨ 0 < g by omega) with hz | hz
  · subst hz; exact Nat.zero_le _
  · have h4 : g - 1 ≤ A / b := by
      rw [Nat.le_div_iff_mul_le h0]
      have e : g * b = (g - 1) * b + b := by
        have : (g - 1 + 1) * b = (g - 1) * b + b := by rw [Nat.add_mul, Nat.one_mul]
        rwa [Nat.sub_add_cancel hz] at this
      generalize (g - 1) * b = u at *
      generalize g * b = v at *
      generalize g * b2 * P = w at *
      generalize g * y = z at *
      generalize T * P = t at *
      generalize B * P = s at *
      omega
    exact Nat.le_add_of_sub_le h4

theorem guess_first {A b T bt Q x y : Nat} (hA : A = T * Q + x) (hx : x < Q) (hb : b = bt * Q + y) (ht : 0 < bt) : A / b ≤ T / bt := by
  rw [Nat.le_div_iff_mul_le ht]
  have h1 : A / b * b ≤ A := Nat.div_mul_le_self A b
  have h2 : A / b * (bt * Q) ≤ A / b * b := Nat.mul_le_mul_left _ (by omega)
  have h3 : A / b * bt * Q < (T + 1) * Q := by
    rw [Nat.mul_assoc, Nat.add_mul, Nat.one_mul]; omega
  have := Nat.lt_of_mul_lt_mul_right h3
  omega

theorem digit_lt {A b B : Nat} (h : A < b * B) (h0 : 0 < b) : A / b < B := by
  rw [Nat.div_lt_iff_lt_mul h0, Nat.mul_comm]; exact h

theorem top_le {A b T bt Q x y B : Nat} (hA : A = T * Q + x) (hb : b = bt * Q + y) (hy : y < Q) (h : A < b * B) : T < (bt + 1) * B := by
  have h1 : b * B ≤ (bt + 1) * Q * B := Nat.mul_le_mul_right B (by rw [Nat.add_mul, Nat.one_mul]; omega)
  have h2 : T * Q < (bt + 1) * B * Q := by
    have : (bt + 1) * B * Q = (bt + 1) * Q * B := by rw [Nat.mul_assoc, Nat.mul_comm B Q, ← Nat.mul_assoc]
    omega
  exact Nat.lt_of_mul_lt_mul_right h2

structure Guess (A b T bt g : Nat) : Prop where
  ge : A / b ≤ g
  lt : g < 1000000000
  le : g * bt ≤ T
  rest : T - g * bt < 2000000000

theorem Guess.first {A b T bt Q x y : Nat} (hA : A = T * Q + x) (hx : x < Q) (hb : b = bt * Q + y) (hy : y < Q) (ht : 0 < bt) (hbt : bt < 1000000000) (hQ : 0 < Q) (h : A < b * 1000000000) :
    Guess A b T bt (min (T / bt) 999999999) := by
  have h0 : 0 < b := by
    have := Nat.mul_pos ht hQ
    omega
  have h1 := guess_first hA hx hb ht
  have h2 := digit_lt h h0
  have h3 := top_le hA hb hy h
  have h4 : T / bt * bt ≤ T := Nat.div_mul_le_self T bt
  have h5 := Nat.div_add_mod T bt
  have h6 := Nat.mod_lt T ht
  have h7 : bt * (T / bt) = T / bt * bt := Nat.mul_comm _ _
  rcases (show T / bt ≤ 999999999 ∨ 999999999 < T / bt by omega) with hc | hc
  · rw [Nat.min_eq_left hc]
    exact ⟨h1, by omega, h4, by omega⟩
  · rw [Nat.min_eq_right (by omega)]
    have h8 : 999999999 * bt ≤ T / bt * bt := Nat.mul_le_mul_right bt (by omega)
    exact ⟨by omega, by omega, by omega, by omega⟩

theorem guess_arith {T v u a1 : Nat} (hl : v ≤ T) (h1 : (T - v) * 1000000000 + a1 < u) : T * 1000000000 + a1 < v * 1000000000 + u := by
  have e : T * 1000000000 = (T - v) * 1000000000 + v * 1000000000 := by rw [← Nat.add_mul, Nat.sub_add_cancel hl]
  rw [e, Nat.add_right_comm, Nat.add_comm (v * 1000000000)]
  exact Nat.add_lt_add_right h1 _
theorem Guess.lower {A b T bt P x y g a1 b1 : Nat} (h : Guess A b T bt g) (hA : A = (T * 1000000000 + a1) * P + x) (hx : x < P) (hb : b = (bt * 1000000000 + b1) * P + y) (h0 : 0 < b) (hbt : bt < 1000000000)
    (h1 : (T - g * bt) * 1000000000 + a1 < g * b1) (h2 : T - g * bt < 1000000000) : 0 < g ∧ Guess A b T bt (g - 1) := by
  have hl := h.le
  have h3 : A / b < g := by
    refine guess_over hA hx hb h0 ?_
    have e : g * (bt * 1000000000 + b1) = g * bt * 1000000000 + g * b1 := by rw [Nat.mul_add, Nat.mul_assoc]
    rw [e]
    exact guess_arith hl h1
  have hlt := h.lt
  clear hA hb
  obtain ⟨k, rfl⟩ : ∃ k, g = k + 1 := ⟨g - 1, (Nat.sub_add_cancel (Nat.lt_of_le_of_lt (Nat.zero_le _) h3)).symm⟩
  have e : (k + 1) * bt = k * bt + bt := by rw [Nat.add_mul, Nat.one_mul]
  rw [e] at hl h2
  rw [Nat.add_sub_cancel]
  exact ⟨Nat.succ_pos k, Nat.le_of_lt_succ h3, Nat.lt_of_succ_lt hlt, by generalize k * bt = u at *; omega, by generalize k * bt = u at *; omega⟩

theorem Guess.stays {A b T bt P x y g a1 b1 : Nat} (h : Guess A b T bt g) (hA : A = (T * 1000000000 + a1) * P + x) (hb : b = (bt * 1000000000 + b1) * P + y) (hy : y < P) (ht : 0 < bt) (hb1 : b1 < 1000000000)
    (h1 : ¬ ((T - g * bt) * 1000000000 + a1 < g * b1 ∧ T - g * bt < 1000000000)) : g ≤ A / b + 1 := by
  have hl := h.le
  have hlt := h.lt
  have hw : 1000000000 ≤ bt * 1000000000 + b1 := by clear hA hb h1; omega
  have h2 : 1000000000 * P ≤ (bt * 1000000000 + b1) * P := Nat.mul_le_mul_right P hw
  refine guess_near hA hb hy (by rw [hb]; clear hA hb h1; generalize (bt * 1000000000 + b1) * P = u at *; omega) hlt (by rw [hb]; clear hA hb h1; generalize (bt * 1000000000 + b1) * P = u at *; omega) ?_
  have e : g * (bt * 1000000000 + b1) = g * bt * 1000000000 + g * b1 := by rw [Nat.mul_add, Nat.mul_assoc]
  have h4 : g * b1 ≤ 1000000000 * b1 := Nat.mul_le_mul_right b1 (by omega)
  rw [e]
  clear hA hb e h2
  generalize g * b1 = u at *
  generalize g * bt = v at *
  omega
end
end Go.Abs

namespace Go.Abs
noncomputable section

theorem sumS_dig (t : Nat → Nat) : ∀ i, sumS (digS t) i = val (outS t i)
  | 0 => by simp [sumS, outS, val]
  | i + 1 => by
    rw [sumS, sumS_dig t i, outS_succ, val_append, outS_length]
    simp [val]

theorem lose_val {L o : List Nat} {s x : Nat} (oo : okL o) (hx : x < 1000000000) :
    val (subS (fun j => L.getD (s + j) 0) (digS (fun j => x * o.getD j 0)) (o.length + 1)) + x * val o = val ((L.drop s).take (o.length + 1)) + 1000000000 ^ (o.length + 1) * loseB L s o x (o.length + 1) := by
  have h1 := subS_val (a := fun j => L.getD (s + j) 0) (b := digS (fun j => x * o.getD j 0)) (fun i => Nat.mod_lt _ (by omega)) (o.length + 1)
  rw [sumS_shift, sumS_dig] at h1
  have h2 := outS_val (fun j => x * o.getD j 0) (o.length + 1)
  rw [sumS_mul, sumS_val, List.take_of_length_le (by omega)] at h2
  have h3 : x * val o < 1000000000 ^ (o.length + 1) := by
    have hv := val_lt oo
    have a1 : x * val o ≤ 1000000000 * val o := Nat.mul_le_mul_right _ (Nat.le_of_lt hx)
    have a2 : 1000000000 * val o < 1000000000 * 1000000000 ^ o.length := Nat.mul_lt_mul_of_pos_left hv (by omega)
    rw [Nat.pow_succ, Nat.mul_comm (1000000000 ^ o.length)]
    exact Nat.lt_of_le_of_lt a1 a2
  have h4 : carS (fun j => x * o.getD j 0) (o.length + 1) = 0 := by
    rcases Nat.eq_zero_or_pos (carS (fun j => x * o.getD j 0) (o.length + 1)) with h | h
    · exact h
    · have : 1000000000 ^ (o.length + 1) * 1 ≤ 1000000000 ^ (o.length + 1) * carS (fun j => x * o.getD j 0) (o.length + 1) := Nat.mul_le_mul_left _ h
      generalize 1000000000 ^ (o.length + 1) * carS (fun j => x * o.getD j 0) (o.length + 1) = u at *
      generalize 1000000000 ^ (o.length + 1) = v at *
      generalize x * val o = w at *
      omega
  rw [h4, Nat.mul_zero, Nat.add_zero] at h2
  rw [h2] at h1
  exact h1

theorem gain_val {L o : List Nat} {s : Nat} :
    val (outS (gainT L s o) (o.length + 1)) + 1000000000 ^ (o.length + 1) * carS (gainT L s o) (o.length + 1) = val ((L.drop s).take (o.length + 1)) + val o := by
  have h2 := outS_val (gainT L s o) (o.length + 1)
  have e : sumS (gainT L s o) (o.length + 1) = sumS (fun j => L.getD (s + j) 0) (o.length + 1) + sumS (fun j => o.getD j 0) (o.length + 1) := sumS_add _ _ _
  rw [e, sumS_shift, sumS_val, List.take_of_length_le (show o.length ≤ o.length + 1 by omega)] at h2
  exact h2

theorem round_arith {W b x C r k : Nat} (h0 : 0 < b) (hr : r < C) (hk : k ≤ 1) (h : r + x * b = W + C * k) (h1 : W / b ≤ x) (h2 : x ≤ W / b + 1) :
    (k = 0 ∧ x = W / b ∧ r = W % b) ∨ (k = 1 ∧ x = W / b + 1 ∧ r + b = W % b + C) := by
  have hd := Nat.div_add_mod W b
  have hm := Nat.mod_lt W h0
  rw [Nat.mul_comm] at hd
  rcases (show x = W / b ∨ x = W / b + 1 by generalize W / b = q at *; omega) with e | e
  · rw [e] at h
    have hk0 : k = 0 := by
      rcases (show k = 0 ∨ k = 1 by omega) with e' | e'
      · exact e'
      · subst e'
        generalize W / b * b = u at *
        omega
    subst hk0
    exact .inl ⟨rfl, e, by generalize W / b * b = u at *; omega⟩
  · rw [e, Nat.add_mul, Nat.one_mul] at h
    have hk1 : k = 1 := by
      rcases (show k = 0 ∨ k = 1 by omega) with e' | e'
      · subst e'
        generalize W / b * b = u at *
        omega
      · exact e'
    subst hk1
    exact .inr ⟨rfl, e, by generalize W / b * b = u at *; omega⟩

theorem back_arith {m b C r r2 k : Nat} (h : r + b = m + C) (h2 : r2 + C * k = r + b) (hr2 : r2 < C) (hk : k ≤ 1) : r2 = m := by
  rcases (show k = 0 ∨ k = 1 by omega) with e | e <;> subst e <;> omega

def divL (L : List Nat) (s : Nat) (o : List Nat) (x : Nat) : List Nat :=
  if loseB L s o x (o.length + 1) = 0 then loseP L s o x (o.length + 1) else gainP (loseP L s o x (o.length + 1)) s o (o.length + 1)
def divQ (L : List Nat) (s : Nat) (o : List Nat) (x : Nat) : Nat := if loseB L s o x (o.length + 1) = 0 then x else x - 1

theorem window_lose {L o : List Nat} {s x : Nat} (h : s + (o.length + 1) ≤ L.length) : ((loseP L s o x (o.length + 1)).drop s).take (o.length + 1) = subS (fun j => L.getD (s + j) 0) (digS (fun j => x * o.getD j 0)) (o.length + 1) := by
  unfold loseP
  rw [List.append_assoc, List.drop_append_of_le_length (by simp; omega), List.drop_take_self, List.nil_append, List.take_append_of_le_length (by rw [subS_length]; exact Nat.le_refl _), List.take_of_length_le (by rw [subS_length]; exact Nat.le_refl _)]
theorem window_gain {L o : List Nat} {s : Nat} (h : s + (o.length + 1) ≤ L.length) : ((gainP L s o (o.length + 1)).drop s).take (o.length + 1) = outS (gainT L s o) (o.length + 1) := by
  unfold gainP
  rw [List.append_assoc, List.drop_append_of_le_length (by simp; omega), List.drop_take_self, List.nil_append, List.take_append_of_le_length (by rw [outS_length]; exact Nat.le_refl _), List.take_of_length_le (by rw [outS_length]; exact Nat.le_refl _)]

theorem loseP_ok {L o : List Nat} {s x k : Nat} (oL : okL L) : okL (loseP L s o x k) :=
  okL_append.2 ⟨okL_append.2 ⟨okL_take oL _, subS_ok (fun i => getD_lt oL _) _⟩, okL_drop oL _⟩
theorem gainP_ok {L o : List Nat} {s k : Nat} (oL : okL L) : okL (gainP L s o k) :=
  okL_append.2 ⟨okL_append.2 ⟨okL_take oL _, outS_ok _ _⟩, okL_drop oL _⟩

theorem round_ok {L o : List Nat} {s x : Nat} (oL : okL L) (oo : okL o) (hx : x < 1000000000) (h0 : 0 < val o) (hL : s + (o.length + 1) ≤ L.length)
    (h1 : val ((L.drop s).take (o.length + 1)) / val o ≤ x) (h2 : x ≤ val ((L.drop s).take (o.length + 1)) / val o + 1) :
    divQ L s o x = val ((L.drop s).take (o.length + 1)) / val o ∧ val (((divL L s o x).drop s).take (o.length + 1)) = val ((L.drop s).take (o.length + 1)) % val o ∧
      (divL L s o x).length = L.length ∧ okL (divL L s o x) := by
  have hl := lose_val (L := L) (s := s) oo hx
  have ok1 : okL (subS (fun j => L.getD (s + j) 0) (digS (fun j => x * o.getD j 0)) (o.length + 1)) := subS_ok (fun i => getD_lt oL _) _
  have hr := val_lt ok1
  rw [subS_length] at hr
  have hlen1 := loseP_length (L := L) (s := s) (x := x) (o := o) hL
  rcases round_arith h0 hr (borS_le _ _ _) hl h1 h2 with ⟨hk, hq, hm⟩ | ⟨hk, hq, hm⟩
  · have e1 : loseB L s o x (o.length + 1) = 0 := hk
    unfold divQ divL
    rw [if_pos e1, if_pos e1, window_lose hL]
    exact ⟨hq, hm, hlen1, loseP_ok oL⟩
  · have e1 : ¬ loseB L s o x (o.length + 1) = 0 := by
      have : loseB L s o x (o.length + 1) = 1 := hk
      omega
    unfold divQ divL
    have hL' : s + (o.length + 1) ≤ (loseP L s o x (o.length + 1)).length := by rw [hlen1]; exact hL
    rw [if_neg e1, if_neg e1, window_gain hL']
    have hg := gain_val (L := loseP L s o x (o.length + 1)) (o := o) (s := s)
    rw [window_lose hL] at hg
    have hr2 := val_lt (outS_ok (gainT (loseP L s o x (o.length + 1)) s o) (o.length + 1))
    rw [outS_length] at hr2
    refine ⟨by rw [hq]; rfl, ?_, by rw [gainP_length hL', hlen1], gainP_ok (loseP_ok oL)⟩
    exact back_arith hm hg hr2 (gain_car (loseP_ok oL) oo s _)
end
end Go.Abs
