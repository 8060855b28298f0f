/-
  Steps to a law of this program: SK13L0P0, SK13J0, SK13L1P0, SK13J1, SK13L2P0, SK13J2, SK13L3P0, SK13J3, SK13L4P0, SK13J4.
  Conditions: none.
-/
import Derived.Test.YtffhpdhdncapiaaGreatDoorB33
import Derived.Test.YtffhpdhdncapiaaGreatDoorB22
set_option linter.unusedVariables false
set_option linter.unusedSimpArgs false
set_option linter.unusedSectionVars false
namespace Go.Abs
noncomputable section
open Go.Proofs
abbrev kp34 (n : Int) : AV := .int .i64 n
abbrev ke34 : AV := .str []
abbrev kz34 : AV := .str [48]
abbrev ko34 : AV := .str [49]
abbrev kh34 : AV := .str [49, 47, 50]
abbrev kq34x0 : AV := .agg [.vs (zl [z0,z1]) (some 2),.vs [[.vs [[.str [97],ko34,.vs [[kp34 (1),ko34]] (some 1)],[.str [98],kz34,.vs [[kp34 (0),kh34],[kp34 (1),kh34]] (some 2)]] (some 2)],[.vs [[ke34,.str [49,47,51],.vs [[kp34 (1),ko34]] (some 1)]] (some 1)]] (some 2)]
abbrev kq34x1 : AV := .vs [[.int .u32 (1)]] none
abbrev kq34x2 : AV := .vs [[ke34,kz34,.vs [[kp34 (0),kh34],[kp34 (1),kh34]] (some 2)]] (some 1)
abbrev kq34x3 : AV := .agg [.bool false,kq34x1,.bool false,.vs [[.int .u32 (3)]] none]
abbrev kq34x4 : AV := .agg [.bool false,kq34x1,.bool false,.vs [[.int .u32 (2)]] none]
abbrev kq34x5 : AV := .agg [.bool false,kq34x1,.bool false,kq34x1]
abbrev kq34x6 : AV := .agg [.bool false,.vs [] none,.bool false,kq34x1]
set_option maxRecDepth 1000000

def k13R14p0 : List (List AV × AV) := [
([ko34],(kq34x5)),
([kz34],(kq34x6)),
([.str [49,47,51]],(kq34x3)),
([kh34],(kq34x4))]
theorem k13R14p0_ok : allTrue (kIs [] [] 100000 14) k13R14p0 = true := by decide +kernel
def k13R11p0 : List (List AV × AV) := [
([kp34 (1),kp34 (1)],(kq34x5)),
([kp34 (0),kp34 (1)],(.agg [.bool false,.nils,.bool false,kq34x1]))]
theorem k13R11p0_ok : allTrue (kIs [] [] 100000 11) k13R11p0 = true := by decide +kernel
def k13R115p0 : List (List AV × AV) := [
([kq34x5,kp34 (2000)],(.bool true)),
([kq34x5,kp34 (4)],(.bool true)),
([kq34x6,kp34 (2000)],(.bool true)),
([kq34x6,kp34 (4)],(.bool true)),
([kq34x3,kp34 (2000)],(.bool true)),
([kq34x3,kp34 (4)],(.bool true)),
([kq34x4,kp34 (2000)],(.bool true)),
([kq34x4,kp34 (4)],(.bool true))]
theorem k13R115p0_ok : allTrue (kIs [] [] 100000 115) k13R115p0 = true := by decide +kernel
def k13R122p0 : List (List AV × AV) := [
([ko34],(kp34 (0))),
([kz34],(kp34 (0))),
([.str [51]],(kp34 (0))),
([.str [50]],(kp34 (0)))]
theorem k13R122p0_ok : allTrue (kIs [] [] 100000 122) k13R122p0 = true := by decide +kernel
def k13R15p0 : List (List AV × AV) := [
([.agg [.bool false,kq34x1,.bool false,.vs [[.int .u32 (606846976)],[.int .u32 (152921504)],[.int .u32 (1)]] none]],(.str [49,47,49,49,53,50,57,50,49,53,48,52,54,48,54,56,52,54,57,55,54])),
([.agg [.bool false,kq34x1,.bool false,.vs [[.int .u32 (4)]] none]],(.str [49,47,52])),
([kq34x6],kz34),
([kq34x5],ko34),
([.agg [.bool false,.nils,.bool false,kq34x1]],kz34),
([kq34x4],kh34),
([kq34x3],(.str [49,47,51]))]
theorem k13R15p0_ok : allTrue (kIs [] [] 100000 15) k13R15p0 = true := by decide +kernel
def k13R103p0 : List (List AV × AV) := [
([ko34],(kp34 (1))),
([kz34],(kp34 (0))),
([.str [51]],(kp34 (3))),
([.str [50]],(kp34 (2)))]
theorem k13R103p0_ok : allTrue (kIs [] [] 100000 103) k13R103p0 = true := by decide +kernel
end
end Go.Abs

namespace Go.Abs
noncomputable section
open Go.Proofs

def k13T0 : List (FuncId × List (List AV × AV)) := (11, k13R11p0) :: (14, k13R14p0) :: (15, k13R15p0) :: (103, k13R103p0) :: (115, k13R115p0) :: (122, k13R122p0) :: []
theorem k13T0_ok : TabHolds Tryz.prog k13T0 := (tab_cons tab_nil k13R11p0_ok (tab_cons tab_nil k13R14p0_ok (tab_cons tab_nil k13R15p0_ok (tab_cons tab_nil k13R103p0_ok (tab_cons tab_nil k13R115p0_ok (tab_cons tab_nil k13R122p0_ok tab_nil))))))
end
end Go.Abs

namespace Go.Abs
noncomputable section
open Go.Proofs
set_option maxRecDepth 1000000

def k13R102p0 : List (List AV × AV) := [
([ko34],(.tup [ko34,ko34,kp34 (0)])),
([kz34],(.tup [kz34,ko34,kp34 (0)])),
([.str [49,47,51]],(.tup [ko34,.str [51],kp34 (0)])),
([kh34],(.tup [ko34,.str [50],kp34 (0)]))]
theorem k13R102p0_ok : allTrue (kIs k13T0 [] 100000 102) k13R102p0 = true := by decide +kernel
def k13R101p0 : List (List AV × AV) := [
([ko34],(.bool true)),
([kz34],(.bool true)),
([.str [49,47,51]],(.bool true)),
([kh34],(.bool true))]
theorem k13R101p0_ok : allTrue (kIs k13T0 [] 100000 101) k13R101p0 = true := by decide +kernel
end
end Go.Abs

namespace Go.Abs
noncomputable section
open Go.Proofs

def k13T1 : List (FuncId × List (List AV × AV)) := (101, k13R101p0) :: (102, k13R102p0) :: k13T0
theorem k13T1_ok : TabHolds Tryz.prog k13T1 := (tab_cons k13T0_ok k13R101p0_ok (tab_cons k13T0_ok k13R102p0_ok k13T0_ok))
end
end Go.Abs

namespace Go.Abs
noncomputable section
open Go.Proofs
set_option maxRecDepth 1000000

def k13R75p0 : List (List AV × AV) := [
([ko34],(.tup [kp34 (1),kp34 (1),.bool true])),
([kz34],(.tup [kp34 (0),kp34 (1),.bool true])),
([.str [49,47,51]],(.tup [kp34 (1),kp34 (3),.bool true])),
([kh34],(.tup [kp34 (1),kp34 (2),.bool true]))]
theorem k13R75p0_ok : allTrue (kIs k13T1 [] 100000 75) k13R75p0 = true := by decide +kernel
end
end Go.Abs

namespace Go.Abs
noncomputable section
open Go.Proofs

def k13T2 : List (FuncId × List (List AV × AV)) := (75, k13R75p0) :: k13T1
theorem k13T2_ok : TabHolds Tryz.prog k13T2 := (tab_cons k13T1_ok k13R75p0_ok k13T1_ok)
end
end Go.Abs

namespace Go.Abs
noncomputable section
open Go.Proofs
set_option maxRecDepth 1000000

def k13R17p0 : List (List AV × AV) := [
([.agg [.vs [[kp34 (0)],[kp34 (1)]] (some 2),.vs [[.vs [[.str [97],ko34,.vs [[kp34 (1),ko34]] (some 1)],[.str [98],kz34,.vs [[kp34 (0),kh34],[kp34 (1),kh34]] (some 2)]] (some 2)],[.vs [[ke34,.str [49,47,51],.vs [[kp34 (1),ko34]] (some 1)]] (some 1)]] (some 2)]],(kp34 (0))),
([.agg [.vs [[kp34 (0)],[kp34 (0)]] (some 2),.vs [[kq34x2],[kq34x2]] (some 2)]],(kp34 (0))),
([.agg [.nils,.nils]],(kp34 (110)))]
theorem k13R17p0_ok : allTrue (kIs k13T2 [] 100000 17) k13R17p0 = true := by decide +kernel
end
end Go.Abs

namespace Go.Abs
noncomputable section
open Go.Proofs

def k13T3 : List (FuncId × List (List AV × AV)) := (17, k13R17p0) :: k13T2
theorem k13T3_ok : TabHolds Tryz.prog k13T3 := (tab_cons k13T2_ok k13R17p0_ok k13T2_ok)
end
end Go.Abs

namespace Go.Abs
noncomputable section
open Go.Proofs
set_option maxRecDepth 1000000

def k13R8p0 : List (List AV × AV) := [
([kq34x0,.agg [.vs (zl [z0,z0,z0,z0,z0,z0,z0,z0,z0,z0,z0,z0,z0,z0,z0,z0,z0,z0,z0,z0,z0,z0,z0,z0,z0,z0,z0,z0,z0,z0,z0,z0,z0,z0,z0,z0,z0,z0,z0,z0,z0,z0,z0,z0,z0,z0,z0,z0,z0,z0,z0,z0,z0,z0,z0,z0,z0,z0,z0,z0,z0]) (some 62),.vs (zl [z1,z1,z1,z1,z1,z1,z1,z1,z1,z1,z1,z1,z1,z1,z1,z1,z1,z1,z1,z1,z1,z1,z1,z1,z1,z1,z1,z1,z1,z1,z1,z1,z1,z1,z1,z1,z1,z1,z1,z1,z1,z1,z1,z1,z1,z1,z1,z1,z1,z1,z1,z1,z1,z1,z1,z1,z1,z1,z1,z1]) (some 61)]],(kp34 (0))),
([kq34x0,.agg [.vs (zl [z0,z0,z0,z0,z0,z0,z0,z0,z0,z0,z0,z0,z0,z0,z0,z0,z0,z0,z0,z0,z0,z0,z0,z0,z0,z0,z0,z0,z0,z0,z0,z0,z0,z0,z0,z0,z0,z0,z0,z0,z0,z0,z0,z0,z0,z0,z0,z0,z0,z0,z0,z0,z0,z0,z0,z0,z0,z0,z0,z0,z0,z0]) (some 62),.vs (zl [z1,z1,z1,z1,z1,z1,z1,z1,z1,z1,z1,z1,z1,z1,z1,z1,z1,z1,z1,z1,z1,z1,z1,z1,z1,z1,z1,z1,z1,z1,z1,z1,z1,z1,z1,z1,z1,z1,z1,z1,z1,z1,z1,z1,z1,z1,z1,z1,z1,z1,z1,z1,z1,z1,z1,z1,z1,z1,z1,z1,z1]) (some 61)]],(kp34 (130))),
([kq34x0,.agg [.vs (zl [z0,z0]) none,.vs [[kp34 (2)]] none]],(kp34 (130))),
([kq34x0,.agg [.vs (zl [z0,z0]) none,.vs [[kp34 (-1)]] none]],(kp34 (130))),
([kq34x0,.agg [.vs [[kp34 (-1)]] none,.nils]],(kp34 (130))),
([kq34x0,.agg [.vs [[kp34 (2)]] none,.nils]],(kp34 (130))),
([kq34x0,.agg [.vs (zl [z1,z0]) none,.vs (zl [z0]) none]],(kp34 (130))),
([kq34x0,.agg [.vs (zl [z0,z0]) (some 2),.nils]],(kp34 (130))),
([kq34x0,.agg [.nils,.vs (zl [z0]) (some 1)]],(kp34 (130))),
([kq34x0,.agg [.vs (zl [z0]) (some 1),.vs (zl [z1]) (some 1)]],(kp34 (130))),
([kq34x0,.agg [.vs (zl [z0,z0,z1]) none,.vs (zl [z1,z1]) none]],(kp34 (0))),
([kq34x0,.agg [.vs (zl [z0,z1]) none,.vs (zl [z0]) none]],(kp34 (0))),
([kq34x0,.agg [.vs (zl [z0]) none,.nils]],(kp34 (0))),
([kq34x0,.agg [.vs (zl [z1]) none,.nils]],(kp34 (0))),
([kq34x0,.agg [.vs (zl [z0,z1,z1]) none,.vs (zl [z1,z0]) none]],(kp34 (0))),
([kq34x0,.agg [.vs (zl [z0,z0]) none,.vs (zl [z0]) none]],(kp34 (130))),
([kq34x0,.agg [.nils,.nils]],(kp34 (130))),
([.agg [.nils,.nils],.agg [.nils,.nils]],(kp34 (110)))]
theorem k13R8p0_ok : allTrue (kIs k13T3 [] 100000 8) k13R8p0 = true := by decide +kernel
def k13R20p0 : List (List AV × AV) := [
([.agg [.vs (zl [z0,z0]) (some 2),.vs [[kq34x2],[kq34x2]] (some 2)],.vs (zl [z0,z0]) (some 2)],(kp34 (0))),
([.agg [.vs (zl [z0,z0]) (some 2),.vs [[kq34x2],[kq34x2]] (some 2)],.nils],(kp34 (2))),
([.agg [.nils,.nils],.nils],(kp34 (110))),
([kq34x0,.vs (zl [z1,z0]) (some 2)],(kp34 (0))),
([kq34x0,.vs (zl [z0,z0]) (some 2)],(kp34 (0)))]
theorem k13R20p0_ok : allTrue (kIs k13T3 [] 100000 20) k13R20p0 = true := by decide +kernel
end
end Go.Abs

namespace Go.Abs
noncomputable section
open Go.Proofs

def k13T4 : List (FuncId × List (List AV × AV)) := (8, k13R8p0) :: (20, k13R20p0) :: k13T3
theorem k13T4_ok : TabHolds Tryz.prog k13T4 := (tab_cons k13T3_ok k13R8p0_ok (tab_cons k13T3_ok k13R20p0_ok k13T3_ok))
end
end Go.Abs
