/-
  Steps to a law of this program: SK20X226x124564, SK20J3, SK20L4P1.
  Conditions: none.
-/
import Derived.Test.YtddbfdneienioaaGreatDoorB43
import Derived.Test.YtddbfdneienioaaGreatDoorB44
import Derived.Test.YtddbfdneienioaaGreatDoorB38
import Derived.Test.YtddbfdneienioaaGreatDoorB41
import Derived.Test.YtddbfdneienioaaGreatDoorB39
import Derived.Test.YtddbfdneienioaaGreatDoorB40
set_option linter.unusedVariables false
set_option linter.unusedSimpArgs false
set_option linter.unusedSectionVars false
namespace Go.Abs
noncomputable section
open Go.Proofs
abbrev kp45 (n : Int) : AV := .int .i64 n
abbrev ke45 : AV := .str []
abbrev kz45 : AV := .str [48]
abbrev ko45 : AV := .str [49]
abbrev kh45 : AV := .str [49, 47, 50]
abbrev kq45x0 : AV := .vs [[ke45,.str [49,48,48],.vs [[kp45 (0),.str [49,47,49,48]],[kp45 (4),.str [57,47,49,48]]] none]] none
set_option maxRecDepth 1000000

def k20X226x124564F : List (FuncId × List CFact) := [(360, [⟨k20X226x124564a, k20X226x124564h, k20X226x124564r, k20X226x124564e⟩])]
theorem k20X226x124564F_ok : FactsOK Tryz.prog k20X226x124564F := facts_cons (fun x hx => by
  rw [List.mem_singleton] at hx; subst hx
  obtain ⟨h1, hle, hk⟩ := cLast_ok k20T2_ok facts_nil k20X226x124564_l
  exact cut_holds ⟨h1, hle, fun _ hq => cHead_ok k20T2_ok facts_nil k20X226x124564_h (cMid_ok k20T2_ok facts_nil k20X226x124564_m0 (cMid_ok k20T2_ok facts_nil k20X226x124564_m1 (hk _ hq)))⟩) facts_nil
theorem k20X226x124564_row : cRow k20T2 [] k20X226x124564F 226 k20X226x124564A k20X226x124564R = true := by decide +kernel
theorem k20X226x124564 : KnownSem Tryz.prog 226 k20X226x124564A k20X226x124564R := cRow_ok k20T2_ok k20X226x124564F_ok k20X226x124564_row
end
end Go.Abs

namespace Go.Abs
noncomputable section
open Go.Proofs

def k20T3 : List (FuncId × List (List AV × AV)) := (54, k20R54p0 ++ k20R54p1) :: (226, k20R226p0 ++ k20R226p1 ++ k20R226p2 ++ k20R226p3 ++ k20R226p4 ++ [(k20X226x124564A, k20X226x124564R)]) :: k20T2
theorem k20T3_ok : TabHolds Tryz.prog k20T3 := (tab_cons k20T2_ok (allTrue_app k20R54p0_ok k20R54p1_ok) (tab_cons_sem (sem_app (sem_all k20T2_ok (allTrue_app (allTrue_app (allTrue_app (allTrue_app k20R226p0_ok k20R226p1_ok) k20R226p2_ok) k20R226p3_ok) k20R226p4_ok)) (sem_one k20X226x124564)) k20T2_ok))
end
end Go.Abs

namespace Go.Abs
noncomputable section
open Go.Proofs
set_option maxRecDepth 1000000

def k20R161p1 : List (List AV × AV) := [
([.agg [.vs [[kp45 (0)],[kp45 (0)],[kp45 (0)],[kp45 (0)],[kp45 (0)]] none,.vs [[.vs [[ke45,.str [55],.vs [[kp45 (1),kh45],[kp45 (3),kh45]] none]] none],[.vs [[ke45,ko45,.vs [[kp45 (2),ko45]] none]] none],[.vs [[ke45,.str [50],.vs [[kp45 (1),.str [49,47,51]],[kp45 (2),.str [50,47,51]]] none]] none],[.vs [[ke45,kh45,.vs [[kp45 (3),ko45]] none]] none],[kq45x0]] (some 5)]],(.ifc 999999 (.tup [.vs [[.int .u64 (6),.vs [[.int .u64 (1)],[.int .u64 (1)]] none],[.int .u64 (8),.vs [[.int .u64 (1)]] none]] none,kp45 (0)]))),
([.agg [.vs [[kp45 (0)],[kp45 (0)],[kp45 (0)],[kp45 (0)],[kp45 (0)]] none,.vs [[.vs [[ke45,.str [55],.vs [[kp45 (1),kh45],[kp45 (3),kh45]] none]] none],[.vs [[ke45,ko45,.vs [[kp45 (2),ko45]] none]] none],[.vs [[ke45,.str [57],.vs [[kp45 (3),ko45]] none]] none],[.vs [[ke45,kh45,.vs [[kp45 (3),ko45]] none]] none],[kq45x0]] (some 5)]],(.ifc 999999 (.tup [.vs [[.int .u64 (8),.vs [[.int .u64 (1)]] none]] none,kp45 (0)])))]
theorem k20R161p1_ok : allTrue (kIs k20T3 [] 100000 161) k20R161p1 = true := by decide +kernel
end
end Go.Abs
