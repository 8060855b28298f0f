/-
  Steps to a law of this program: AbsTables, AbsKnown.
  Conditions: none.
-/
import Derived.Test.YtigpcilohipjhaaGreatDoorB12
set_option linter.unusedVariables false
set_option linter.unusedSimpArgs false
set_option linter.unusedSectionVars false
namespace Go.Abs
noncomputable section

def isAggV : Value → Bool
  | .agg _ => true
  | _ => false

/-- A type's row in a program's list. -/
def infoL (P : Program) (t : TypeId) : Option TypeInfo := nthL P.types.toList t
theorem infoL_some {P : Program} {t : TypeId} {i : TypeInfo} (h : infoL P t = some i) : P.info? t = some i := by
  unfold infoL at h
  rw [nthL_eq, Array.getElem?_toList] at h
  obtain ⟨ht, _⟩ := Array.getElem?_eq_some_iff.1 h
  unfold Tables.info?
  rw [if_pos ht]
  exact h
def undL (P : Program) (t : TypeId) : Option TypeDesc :=
  match infoL P t with
  | none => none
  | some i => match i.desc with
    | .named _ u => (match infoL P u with | some j => some j.desc | none => none)
    | d => some d
theorem undL_some {P : Program} {t : TypeId} {d : TypeDesc} (h : undL P t = some d) : P.underlying t = some d := by
  unfold undL at h
  split at h
  · cases h
  · rename_i i hi
    have h1 := infoL_some hi
    unfold Program.underlying
    rw [h1]
    obtain ⟨dd⟩ := i
    split at h
    · rename_i u hu
      split at h
      · rename_i j hj
        have h2 := infoL_some hj
        simp only at hu; subst hu
        simp only [h2]
        exact h
      · cases h
    · rename_i hne
      simp only at hne
      cases dd <;> first | exact h | exact (hne _ _ rfl).elim

/-- A type's row. -/
def tiOf (P : Program) (t : TypeId) : Option TI :=
  match undL P t with
  | none => none
  | some d => match infoL P t with
    | none => none
    | some info => match info.zero with
      | none => none
      | some z => match z.cells.size == info.size && z.cells.toList.all one && (isAggV z == isAggD d) with
        | true => some { desc := d, size := info.size, bytes := info.bytes, zero := z.cells.toList.map ofV, cmp := !(P.stoodInHeld t) && !(P.eqGuardType P.depth t) }
        | false => none

theorem tiOf_ok (P : Program) : TabOK P (tiOf P) where
  ok t i h := by
    unfold tiOf at h
    split at h
    · cases h
    · rename_i d hd
      split at h
      · cases h
      · rename_i info hinfo
        split at h
        · cases h
        · rename_i z hz
          split at h
          · rename_i hc
            injection h with h; subst h
            simp only [Bool.and_eq_true, beq_iff_eq, List.all_eq_true] at hc
            obtain ⟨⟨h1, h2⟩, h3⟩ := hc
            refine ⟨undL_some hd, info, infoL_some hinfo, rfl, rfl, z, hz, rfl, h1, h2, fun ha => ?_, fun ha => ?_⟩
            · simp only at ha
              rw [ha] at h3
              cases z <;> simp [isAggV] at h3
              rfl
            · simp only at ha
              rw [ha] at h3
              cases z <;> simp [isAggV] at h3 <;> rfl
          · cases h
  cmp t i h hc := by
    unfold tiOf at h
    split at h
    · cases h
    · split at h
      · cases h
      · split at h
        · cases h
        · split at h
          · injection h with h; subst h
            simpa using hc
          · cases h

/-- A function's row. -/
def funOf (P : Program) (f : FuncId) : Option Fun :=
  match nthL P.funcs.toList f with
  | none => none
  | some fn => match fn.body with
    | none => none
    | some c => match fn.name == "runtime.NumGoroutine" with
      | true => none
      | false => some { body := c, ntmps := fn.ntmps, results := fn.results.toList }

theorem funOf_ok (P : Program) : FunOK P (funOf P) where
  ok f x h := by
    unfold funOf at h
    rw [nthL_eq, Array.getElem?_toList] at h
    split at h
    · cases h
    · rename_i fn hf
      split at h
      · cases h
      · rename_i c hc
        split at h
        · cases h
        · rename_i hn
          injection h with h; subst h
          exact ⟨fn, hf, hc, hn, rfl, rfl⟩

end
end Go.Abs

namespace Go.Abs
noncomputable section
variable [Gl]

/-- A table: of each function, the arguments and what it returns. -/
def tabM : List (FuncId × List (List AV × AV)) → FuncId → Option (List AV → Option AV)
  | [], _ => none
  | x :: l, f => match Nat.beq x.1 f with
    | true => some fun args => findM args x.2
    | false => tabM l f

def TabHolds (P : Program) (l : List (FuncId × List (List AV × AV))) : Prop := ∀ x ∈ l, ∀ y ∈ x.2, PureSem P x.1 y.1 y.2

theorem tabM_ok {P : Program} : ∀ {l : List (FuncId × List (List AV × AV))}, TabHolds P l → MemOK P (tabM l)
  | [], _ => ⟨fun _ _ _ _ h => by cases h⟩
  | x :: l, h => ⟨fun f g args r hf hp hr => by
    unfold tabM at hf
    split at hf
    · rename_i e
      obtain rfl := Nat.eq_of_beq_eq_true e
      injection hf with hf; subst hf
      exact h x List.mem_cons_self _ (findM_ok hr)
    · exact (tabM_ok fun y hy => h y (List.mem_cons_of_mem _ hy)).ok f g args r hf hp hr⟩

def allTrue {α : Type} (p : α → Bool) : List α → Bool
  | [] => true
  | a :: l => match p a with | true => allTrue p l | false => false
omit [Gl] in
theorem allTrue_ok {α : Type} {p : α → Bool} : ∀ {l : List α}, allTrue p l = true → ∀ x ∈ l, p x = true
  | [], _, _, h => by cases h
  | a :: l, h, x, hx => by
    unfold allTrue at h
    split at h
    · rename_i ha
      rcases List.mem_cons.1 hx with rfl | hx
      · exact ha
      · exact allTrue_ok h x hx
    · cases h
end
end Go.Abs
