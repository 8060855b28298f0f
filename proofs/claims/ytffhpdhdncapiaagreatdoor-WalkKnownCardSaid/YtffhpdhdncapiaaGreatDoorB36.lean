/-
  Steps to a law of this program: SK13L5P1.
  Conditions: none.
-/
import Derived.Test.YtffhpdhdncapiaaGreatDoorB34
import Derived.Test.YtffhpdhdncapiaaGreatDoorB22
set_option linter.unusedVariables false
set_option linter.unusedSimpArgs false
set_option linter.unusedSectionVars false
namespace Go.Abs
noncomputable section
open Go.Proofs
abbrev kp36 (n : Int) : AV := .int .i64 n
abbrev ke36 : AV := .str []
abbrev kz36 : AV := .str [48]
abbrev ko36 : AV := .str [49]
abbrev kh36 : AV := .str [49, 47, 50]
abbrev kq36x0 : AV := .agg [.vs (zl [z0,z1]) (some 2),.vs [[.vs [[.str [97],ko36,.vs [[kp36 (1),ko36]] (some 1)],[.str [98],kz36,.vs [[kp36 (0),kh36],[kp36 (1),kh36]] (some 2)]] (some 2)],[.vs [[ke36,.str [49,47,51],.vs [[kp36 (1),ko36]] (some 1)]] (some 1)]] (some 2)]
abbrev kq36x1 : AV := .tup [ke36,kp36 (130)]
set_option maxRecDepth 1000000

def k13R5p0 : List (List AV × AV) := [
([kq36x0,.agg [.vs (zl [z0,z0,z0,z0,z0,z0,z0,z0,z0,z0,z0,z0,z0,z0,z0,z0,z0,z0,z0,z0,z0,z0,z0,z0,z0,z0,z0,z0,z0,z0,z0,z0,z0,z0,z0,z0,z0,z0,z0,z0,z0,z0,z0,z0,z0,z0,z0,z0,z0,z0,z0,z0,z0,z0,z0,z0,z0,z0,z0,z0,z0]) (some 62),.vs (zl [z1,z1,z1,z1,z1,z1,z1,z1,z1,z1,z1,z1,z1,z1,z1,z1,z1,z1,z1,z1,z1,z1,z1,z1,z1,z1,z1,z1,z1,z1,z1,z1,z1,z1,z1,z1,z1,z1,z1,z1,z1,z1,z1,z1,z1,z1,z1,z1,z1,z1,z1,z1,z1,z1,z1,z1,z1,z1,z1,z1]) (some 61)]],(.tup [.str [49,47,49,49,53,50,57,50,49,53,48,52,54,48,54,56,52,54,57,55,54],kp36 (0)])),
([kq36x0,.agg [.vs (zl [z0,z0,z0,z0,z0,z0,z0,z0,z0,z0,z0,z0,z0,z0,z0,z0,z0,z0,z0,z0,z0,z0,z0,z0,z0,z0,z0,z0,z0,z0,z0,z0,z0,z0,z0,z0,z0,z0,z0,z0,z0,z0,z0,z0,z0,z0,z0,z0,z0,z0,z0,z0,z0,z0,z0,z0,z0,z0,z0,z0,z0,z0]) (some 62),.vs (zl [z1,z1,z1,z1,z1,z1,z1,z1,z1,z1,z1,z1,z1,z1,z1,z1,z1,z1,z1,z1,z1,z1,z1,z1,z1,z1,z1,z1,z1,z1,z1,z1,z1,z1,z1,z1,z1,z1,z1,z1,z1,z1,z1,z1,z1,z1,z1,z1,z1,z1,z1,z1,z1,z1,z1,z1,z1,z1,z1,z1,z1]) (some 61)]],(kq36x1)),
([kq36x0,.agg [.vs (zl [z0,z0]) none,.vs [[kp36 (2)]] none]],(kq36x1)),
([kq36x0,.agg [.vs (zl [z0,z0]) none,.vs [[kp36 (-1)]] none]],(kq36x1)),
([kq36x0,.agg [.vs [[kp36 (-1)]] none,.nils]],(kq36x1)),
([kq36x0,.agg [.vs [[kp36 (2)]] none,.nils]],(kq36x1)),
([kq36x0,.agg [.vs (zl [z1,z0]) none,.vs (zl [z0]) none]],(kq36x1)),
([kq36x0,.agg [.vs (zl [z0,z0]) (some 2),.nils]],(kq36x1)),
([kq36x0,.agg [.nils,.vs (zl [z0]) (some 1)]],(kq36x1)),
([kq36x0,.agg [.vs (zl [z0]) (some 1),.vs (zl [z1]) (some 1)]],(kq36x1)),
([kq36x0,.agg [.vs (zl [z0,z0,z1]) none,.vs (zl [z1,z1]) none]],(.tup [.str [49,47,52],kp36 (0)])),
([kq36x0,.agg [.vs (zl [z0,z1]) none,.vs (zl [z0]) none]],(.tup [ko36,kp36 (0)])),
([kq36x0,.agg [.vs (zl [z0]) none,.nils]],(.tup [ko36,kp36 (0)])),
([kq36x0,.agg [.vs (zl [z1]) none,.nils]],(.tup [ko36,kp36 (0)])),
([kq36x0,.agg [.vs (zl [z0,z1,z1]) none,.vs (zl [z1,z0]) none]],(.tup [kh36,kp36 (0)]))]
theorem k13R5p0_ok : allTrue (kIs k13T4 [] 100000 5) k13R5p0 = true := by decide +kernel
def k13R9p1 : List (List AV × AV) := [
([kq36x0,.vs (zl [z0,z0]) (some 2),kp36 (0),kp36 (60)],(.ifc 999999 (.tup [.vs [[.vs (zl [z0,z1,z1,z1,z1,z1,z1,z1,z1,z1,z1,z1,z1,z1,z1,z1,z1,z1,z1,z1,z1,z1,z1,z1,z1,z1,z1,z1,z1,z1,z1,z1,z1,z1,z1,z1,z1,z1,z1,z1,z1,z1,z1,z1,z1,z1,z1,z1,z1,z1,z1,z1,z1,z1,z1,z1,z1,z1,z1,z1,z1]) none,.vs (zl [z0,z0,z0,z0,z0,z0,z0,z0,z0,z0,z0,z0,z0,z0,z0,z0,z0,z0,z0,z0,z0,z0,z0,z0,z0,z0,z0,z0,z0,z0,z0,z0,z0,z0,z0,z0,z0,z0,z0,z0,z0,z0,z0,z0,z0,z0,z0,z0,z0,z0,z0,z0,z0,z0,z0,z0,z0,z0,z0,z0]) none]] none,kp36 (0)]))),
([kq36x0,.vs (zl [z1,z0]) (some 2),kp36 (2),kp36 (1)],(.tup [.nils,kp36 (2)]))]
theorem k13R9p1_ok : allTrue (kIs k13T4 [] 100000 9) k13R9p1 = true := by decide +kernel
end
end Go.Abs
