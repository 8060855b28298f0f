/-
  Calls of chapter 14 that are known: numbers, sure choices.
  Conditions: none.
-/
import Derived.Test.YthbpdiolceabhaaGreatDoorC14Base
import Derived.Test.YthbpdiolceabhaaGreatDoorAbsKnown
set_option linter.unusedVariables false
set_option linter.unusedSimpArgs false
set_option linter.unusedSectionVars false
namespace Go.Abs
open Go.Proofs

noncomputable def c14Is (more : FuncId → Option (List AV → Option AV)) (n : Nat) (f : FuncId) (x : List AV × AV) : Bool :=
  callIs (tiOf Tryz.prog) (drawE (tiOf Tryz.prog) (c14M more)) (funOf Tryz.prog) (c14M more) n f x.1 x.2

theorem c14Is_all {more : FuncId → Option (List AV → Option AV)} (h : MemOK Tryz.prog more) {n : Nat} {f : FuncId} {l : List (List AV × AV)} (hl : allTrue (c14Is more n f) l = true) : ∀ y ∈ l, PureSem Tryz.prog f y.1 y.2 :=
  fun y hy => c14_ok h (allTrue_ok hl y hy)

def num (s : List UInt8) (n d : Int) : List AV × AV := ([.str s], .tup [.int .i64 n, .int .i64 d, .bool true])
def c14Nums : List (List AV × AV) := [num [49] 1 1, num [48] 0 1, num [49, 47, 50] 1 2, num [57, 57, 47, 49, 48, 48] 99 100, num [49, 47, 49, 48, 48] 1 100]
def sureV (n : Int) : AV := .agg [.str [], .str [48], .vs [[.int .i64 n, .str [49]]] (some 1)]
def c14Sures : List (List AV × AV) := [0, 1, 2, 3, 4, 5, 6, 7, 8, 9, 10, 11].map fun n => ([.int .i64 n], sureV n)

set_option maxRecDepth 1000000
theorem c14Nums_ok : allTrue (c14Is (fun _ => none) 1000 95) c14Nums = true := by decide +kernel
theorem c14Sures_ok : allTrue (c14Is (fun _ => none) 1000 7) c14Sures = true := by decide +kernel

def c14Tab0 : List (FuncId × List (List AV × AV)) := [(95, c14Nums), (7, c14Sures)]
theorem c14Tab0_ok : TabHolds Tryz.prog c14Tab0 := fun x hx => by
  rcases List.mem_cons.1 hx with rfl | hx
  · exact c14Is_all c14M0_ok c14Nums_ok
  · rcases List.mem_cons.1 hx with rfl | hx
    · exact c14Is_all c14M0_ok c14Sures_ok
    · cases hx
end Go.Abs
