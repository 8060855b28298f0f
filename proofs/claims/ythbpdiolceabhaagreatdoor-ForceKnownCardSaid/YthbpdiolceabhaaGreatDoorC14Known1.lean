/-
  Calls of chapter 14 that are known: model.Check on the models of ForceKnown; the example.
  Conditions: none.
-/
import Derived.Test.YthbpdiolceabhaaGreatDoorC14Known
set_option linter.unusedVariables false
set_option linter.unusedSimpArgs false
set_option linter.unusedSectionVars false
namespace Go.Abs
open Go.Proofs
set_option maxRecDepth 1000000

def c14Chk0 : List AV × AV := ([(.agg [(.vs [[(.int .i64 (0))], [(.int .i64 (1))], [(.int .i64 (0))], [(.int .i64 (1))], [(.int .i64 (0))], [(.int .i64 (1))], [(.int .i64 (0))], [(.int .i64 (1))], [(.int .i64 (0))], [(.int .i64 (1))], [(.int .i64 (0))], [(.int .i64 (1))]] none), (.vs [[(.vs [[(.str []), (.str [48]), (.vs [[(.int .i64 (1)), (.str [49])]] (some 1))], [(.str []), (.str [48]), (.vs [[(.int .i64 (0)), (.str [49])]] (some 1))]] (some 2))], [(.vs [[(.str []), (.str [48]), (.vs [[(.int .i64 (2)), (.str [49])]] (some 1))], [(.str []), (.str [48]), (.vs [[(.int .i64 (1)), (.str [49])]] (some 1))]] (some 2))], [(.vs [[(.str []), (.str [48]), (.vs [[(.int .i64 (3)), (.str [49])]] (some 1))], [(.str []), (.str [48]), (.vs [[(.int .i64 (2)), (.str [49])]] (some 1))]] (some 2))], [(.vs [[(.str []), (.str [48]), (.vs [[(.int .i64 (4)), (.str [49])]] (some 1))], [(.str []), (.str [48]), (.vs [[(.int .i64 (3)), (.str [49])]] (some 1))]] (some 2))], [(.vs [[(.str []), (.str [48]), (.vs [[(.int .i64 (5)), (.str [49])]] (some 1))], [(.str []), (.str [48]), (.vs [[(.int .i64 (4)), (.str [49])]] (some 1))]] (some 2))], [(.vs [[(.str []), (.str [48]), (.vs [[(.int .i64 (6)), (.str [49])]] (some 1))], [(.str []), (.str [48]), (.vs [[(.int .i64 (5)), (.str [49])]] (some 1))]] (some 2))], [(.vs [[(.str []), (.str [48]), (.vs [[(.int .i64 (7)), (.str [49])]] (some 1))], [(.str []), (.str [48]), (.vs [[(.int .i64 (6)), (.str [49])]] (some 1))]] (some 2))], [(.vs [[(.str []), (.str [48]), (.vs [[(.int .i64 (8)), (.str [49])]] (some 1))], [(.str []), (.str [48]), (.vs [[(.int .i64 (7)), (.str [49])]] (some 1))]] (some 2))], [(.vs [[(.str []), (.str [48]), (.vs [[(.int .i64 (9)), (.str [49])]] (some 1))], [(.str []), (.str [48]), (.vs [[(.int .i64 (8)), (.str [49])]] (some 1))]] (some 2))], [(.vs [[(.str []), (.str [48]), (.vs [[(.int .i64 (10)), (.str [49])]] (some 1))], [(.str []), (.str [48]), (.vs [[(.int .i64 (9)), (.str [49])]] (some 1))]] (some 2))], [(.vs [[(.str []), (.str [48]), (.vs [[(.int .i64 (11)), (.str [49])]] (some 1))], [(.str []), (.str [48]), (.vs [[(.int .i64 (10)), (.str [49])]] (some 1))]] (some 2))], [(.vs [[(.str []), (.str [48]), (.vs [[(.int .i64 (0)), (.str [49])]] (some 1))], [(.str []), (.str [48]), (.vs [[(.int .i64 (11)), (.str [49])]] (some 1))]] (some 2))]] none)])], (.int .i64 (0)))
def c14Chk1 : List AV × AV := ([(.agg [(.vs [[(.int .i64 (0))], [(.int .i64 (1))], [(.int .i64 (0))], [(.int .i64 (1))], [(.int .i64 (0))], [(.int .i64 (1))], [(.int .i64 (0))], [(.int .i64 (1))], [(.int .i64 (0))], [(.int .i64 (1))], [(.int .i64 (0))], [(.int .i64 (1))]] none), (.vs [[(.vs [[(.str []), (.str [48]), (.vs [[(.int .i64 (1)), (.str [49])]] (some 1))]] (some 2))], [(.vs [[(.str []), (.str [48]), (.vs [[(.int .i64 (2)), (.str [49])]] (some 1))]] (some 2))], [(.vs [[(.str []), (.str [48]), (.vs [[(.int .i64 (3)), (.str [49])]] (some 1))]] (some 2))], [(.vs [[(.str []), (.str [48]), (.vs [[(.int .i64 (4)), (.str [49])]] (some 1))]] (some 2))], [(.vs [[(.str []), (.str [48]), (.vs [[(.int .i64 (5)), (.str [49])]] (some 1))]] (some 2))], [(.vs [[(.str []), (.str [48]), (.vs [[(.int .i64 (6)), (.str [49])]] (some 1))]] (some 2))], [(.vs [[(.str []), (.str [48]), (.vs [[(.int .i64 (7)), (.str [49])]] (some 1))]] (some 2))], [(.vs [[(.str []), (.str [48]), (.vs [[(.int .i64 (8)), (.str [49])]] (some 1))]] (some 2))], [(.vs [[(.str []), (.str [48]), (.vs [[(.int .i64 (9)), (.str [49])]] (some 1))]] (some 2))], [(.vs [[(.str []), (.str [48]), (.vs [[(.int .i64 (10)), (.str [49])]] (some 1))]] (some 2))], [(.vs [[(.str []), (.str [48]), (.vs [[(.int .i64 (11)), (.str [49])]] (some 1))]] (some 2))], [(.vs [[(.str []), (.str [48]), (.vs [[(.int .i64 (0)), (.str [49])]] (some 1))]] (some 2))]] none)])], (.int .i64 (0)))
def c14Chk2 : List AV × AV := ([(.agg [(.vs [[(.int .i64 (1))], [(.int .i64 (1))]] (some 2)), (.vs [[(.vs [[(.str []), (.str [48]), (.vs [[(.int .i64 (0)), (.str [57, 57, 47, 49, 48, 48])], [(.int .i64 (1)), (.str [49, 47, 49, 48, 48])]] (some 2))]] (some 1))], [(.vs [[(.str []), (.str [48]), (.vs [[(.int .i64 (1)), (.str [49])]] (some 1))]] (some 1))]] (some 2))])], (.int .i64 (0)))
def c14Chk3 : List AV × AV := ([(.agg [.nils, .nils])], (.int .i64 (110)))
def c14Chk4 : List AV × AV := ([(.agg [(.vs [[(.int .i64 (0))], [(.int .i64 (1))], [(.int .i64 (0))], [(.int .i64 (0))]] (some 4)), (.vs [[(.vs [[(.str []), (.str [48]), (.vs [[(.int .i64 (1)), (.str [49])]] (some 1))], [(.str []), (.str [48]), (.vs [[(.int .i64 (0)), (.str [49, 47, 50])], [(.int .i64 (2)), (.str [49, 47, 50])]] (some 2))]] (some 2))], [(.vs [[(.str []), (.str [48]), (.vs [[(.int .i64 (0)), (.str [49])]] (some 1))], [(.str []), (.str [48]), (.vs [[(.int .i64 (3)), (.str [49])]] (some 1))]] (some 2))], [(.vs [[(.str []), (.str [48]), (.vs [[(.int .i64 (2)), (.str [49])]] (some 1))]] (some 1))], [(.vs [[(.str []), (.str [48]), (.vs [[(.int .i64 (3)), (.str [49])]] (some 1))]] (some 1))]] (some 4))])], (.int .i64 (0)))
def c14Ex : List AV × AV := ([], (.agg [(.vs [[(.int .i64 (0))], [(.int .i64 (1))], [(.int .i64 (0))], [(.int .i64 (0))]] (some 4)), (.vs [[(.vs [[(.str []), (.str [48]), (.vs [[(.int .i64 (1)), (.str [49])]] (some 1))], [(.str []), (.str [48]), (.vs [[(.int .i64 (0)), (.str [49, 47, 50])], [(.int .i64 (2)), (.str [49, 47, 50])]] (some 2))]] (some 2))], [(.vs [[(.str []), (.str [48]), (.vs [[(.int .i64 (0)), (.str [49])]] (some 1))], [(.str []), (.str [48]), (.vs [[(.int .i64 (3)), (.str [49])]] (some 1))]] (some 2))], [(.vs [[(.str []), (.str [48]), (.vs [[(.int .i64 (2)), (.str [49])]] (some 1))]] (some 1))], [(.vs [[(.str []), (.str [48]), (.vs [[(.int .i64 (3)), (.str [49])]] (some 1))]] (some 1))]] (some 4))]))

theorem c14Chk0_ok : c14Is (tabM c14Tab0) 1000 40 c14Chk0 = true := by decide +kernel
theorem c14Chk1_ok : c14Is (tabM c14Tab0) 1000 40 c14Chk1 = true := by decide +kernel
theorem c14Chk2_ok : c14Is (tabM c14Tab0) 1000 40 c14Chk2 = true := by decide +kernel
theorem c14Chk3_ok : c14Is (tabM c14Tab0) 1000 40 c14Chk3 = true := by decide +kernel
theorem c14Chk4_ok : c14Is (tabM c14Tab0) 1000 40 c14Chk4 = true := by decide +kernel
theorem c14Ex_ok : c14Is (tabM c14Tab0) 1000 11 c14Ex = true := by decide +kernel

def c14Tab1 : List (FuncId × List (List AV × AV)) := (40, [c14Chk0, c14Chk1, c14Chk2, c14Chk3, c14Chk4]) :: (11, [c14Ex]) :: c14Tab0
theorem c14Tab1_ok : TabHolds Tryz.prog c14Tab1 := fun x hx => by
  have m0 := tabM_ok c14Tab0_ok
  rcases List.mem_cons.1 hx with rfl | hx
  · intro y hy
    rcases List.mem_cons.1 hy with rfl | hy
    · exact c14_ok m0 c14Chk0_ok
    rcases List.mem_cons.1 hy with rfl | hy
    · exact c14_ok m0 c14Chk1_ok
    rcases List.mem_cons.1 hy with rfl | hy
    · exact c14_ok m0 c14Chk2_ok
    rcases List.mem_cons.1 hy with rfl | hy
    · exact c14_ok m0 c14Chk3_ok
    rcases List.mem_cons.1 hy with rfl | hy
    · exact c14_ok m0 c14Chk4_ok
    cases hy
  · rcases List.mem_cons.1 hx with rfl | hx
    · intro y hy
      rcases List.mem_cons.1 hy with rfl | hy
      · exact c14_ok m0 c14Ex_ok
      cases hy
    · exact c14Tab0_ok x hx
end Go.Abs
