/-
  ForceKnown returns true: the kernel's run.
  Conditions: none.
-/
import Derived.Test.YthbpdiolceabhaaGreatDoorC14Known1
import Derived.ProofKit
import Derived.Test.YthbpdiolceabhaaGreatDoorTie
set_option linter.unusedVariables false
set_option linter.unusedSimpArgs false
set_option linter.unusedSectionVars false
namespace Go.Abs
open Go.Proofs
set_option maxRecDepth 1000000

theorem c14Works_ok : c14Is (tabM c14Tab1) 5000 12 ([], .bool true) = true := by decide +kernel
def c14Tab2 : List (FuncId × List (List AV × AV)) := (12, [([], .bool true)]) :: c14Tab1
theorem c14Tab2_ok : TabHolds Tryz.prog c14Tab2 := fun x hx => by
  rcases List.mem_cons.1 hx with rfl | hx
  · intro y hy
    rcases List.mem_cons.1 hy with rfl | hy
    · exact c14_ok (tabM_ok c14Tab1_ok) c14Works_ok
    · cases hy
  · exact c14Tab1_ok x hx
theorem c14Force_ok : c14Is (tabM c14Tab2) 5000 3 ([], .bool true) = true := by decide +kernel
theorem forceKnown_pure : PureSem Tryz.prog 3 [] (.bool true) := c14_ok (tabM_ok c14Tab2_ok) c14Force_ok

theorem forceKnown_calls (W : World) (hg : GlobOK (penv fun _ => False) W) : Calls Tryz.prog 3 #[] W fun e W' => e = .returned (.bool true) ∧ RowKit.Below W.heap.size W W' := fun cs => by
  obtain ⟨v, w', fr, h1, h2, h3, h4, h5⟩ := forceKnown_pure.run (fun _ => False) W #[] (fun _ h => h.elim) hg ⟨rfl, fun i hi => by simp at hi⟩ cs
  cases h1
  exact ⟨_, w', fr, ⟨rfl, ⟨h2.os, h2.tape, h2.output, h2.size, h2.same⟩⟩, h3, h4, h5⟩
end Go.Abs
