/-
  Tables of calls that are known.
  Conditions: none.
-/
import Derived.Test.YthbpdiolceabhaaGreatDoorAbsEval6
set_option linter.unusedVariables false
set_option linter.unusedSimpArgs false
set_option linter.unusedSectionVars false
namespace Go.Abs
noncomputable section
variable [Gl]

/-- A table: of each function, the arguments and what it returns. -/
def tabM : List (FuncId × List (List AV × AV)) → FuncId → Option (List AV → Option AV)
  | [], _ => none
  | x :: l, f => match Nat.beq x.1 f with
    | true => some fun args => findM args x.2
    | false => tabM l f

def TabHolds (P : Program) (l : List (FuncId × List (List AV × AV))) : Prop := ∀ x ∈ l, ∀ y ∈ x.2, PureSem P x.1 y.1 y.2

theorem tabM_ok {P : Program} : ∀ {l : List (FuncId × List (List AV × AV))}, TabHolds P l → MemOK P (tabM l)
  | [], _ => ⟨fun _ _ _ _ h => by cases h⟩
  | x :: l, h => ⟨fun f g args r hf hp hr => by
    unfold tabM at hf
    split at hf
    · rename_i e
      obtain rfl := Nat.eq_of_beq_eq_true e
      injection hf with hf; subst hf
      exact h x List.mem_cons_self _ (findM_ok hr)
    · exact (tabM_ok fun y hy => h y (List.mem_cons_of_mem _ hy)).ok f g args r hf hp hr⟩

def allTrue {α : Type} (p : α → Bool) : List α → Bool
  | [] => true
  | a :: l => match p a with | true => allTrue p l | false => false
omit [Gl] in
theorem allTrue_ok {α : Type} {p : α → Bool} : ∀ {l : List α}, allTrue p l = true → ∀ x ∈ l, p x = true
  | [], _, _, h => by cases h
  | a :: l, h, x, hx => by
    unfold allTrue at h
    split at h
    · rename_i ha
      rcases List.mem_cons.1 hx with rfl | hx
      · exact ha
      · exact allTrue_ok h x hx
    · cases h
end
end Go.Abs
