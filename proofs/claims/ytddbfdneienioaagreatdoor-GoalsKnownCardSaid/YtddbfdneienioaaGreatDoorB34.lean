/-
  Steps to a law of this program: SK23L1P0.
  Conditions: none.
-/
import Derived.Test.YtddbfdneienioaaGreatDoorB33
set_option linter.unusedVariables false
set_option linter.unusedSimpArgs false
set_option linter.unusedSectionVars false
namespace Go.Abs
noncomputable section
open Go.Proofs
abbrev kp34 (n : Int) : AV := .int .i64 n
abbrev ke34 : AV := .str []
abbrev kz34 : AV := .str [48]
abbrev ko34 : AV := .str [49]
abbrev kh34 : AV := .str [49, 47, 50]
abbrev kq34x0 : AV := .agg [.vs [[kp34 (0)],[kp34 (0)],[kp34 (0)],[kp34 (0)]] (some 4),.vs [[.vs [[ke34,kz34,.vs [[kp34 (1),ko34]] (some 1)],[ke34,kz34,.vs [[kp34 (2),kh34],[kp34 (3),kh34]] (some 2)]] (some 2)],[.vs [[ke34,kz34,.vs [[kp34 (1),ko34]] (some 1)]] (some 1)],[.vs [[ke34,kz34,.vs [[kp34 (2),ko34]] (some 1)]] (some 1)],[.vs [[ke34,kz34,.vs [[kp34 (3),ko34]] (some 1)]] (some 1)]] (some 4),kp34 (0),.vs [[.int .u64 (2)],[.int .u64 (4)]] (some 2),.int .u64 (14)]
abbrev kq34x1 : AV := .vs [[.vs [[ko34],[ko34]] none],[.vs [[.str [45,49]],[kz34]] none],[.vs [[kz34],[.str [45,49,47,50]]] none]] none
abbrev kq34x2 : AV := .vs [[.vs [[ke34,kz34,.vs [[kp34 (3),ko34]] (some 1)],[ke34,kz34,.vs [[kp34 (1),ko34]] (some 1)]] (some 2)],[.vs [[ke34,kz34,.vs [[kp34 (1),ko34]] (some 1)]] (some 1)],[.vs [[ke34,kz34,.vs [[kp34 (2),ko34]] (some 1)]] (some 1)],[.vs [[ke34,kz34,.vs [[kp34 (0),ko34]] (some 1)],[ke34,kz34,.vs [[kp34 (2),ko34]] (some 1)]] (some 2)]] (some 4)
abbrev kq34x3 : AV := .vs [[.vs [[ko34],[ko34],[.str [45,49]],[kz34]] none],[.vs [[.str [45,49]],[kz34],[ko34],[ko34]] none],[.vs [[kz34],[.str [45,49]],[kz34],[kz34]] none],[.vs [[kz34],[kz34],[kz34],[.str [45,49]]] none]] none
set_option maxRecDepth 1000000

def k23R44p0 : List (List AV × AV) := [
([ko34],(kp34 (0))),
([.str [51]],(kp34 (0))),
([kh34],(kp34 (0))),
([.str [49,47,52]],(kp34 (0))),
([.str [45,49,47,50]],(kp34 (0))),
([.str [45,49,47,52]],(kp34 (0))),
([kz34],(kp34 (0))),
([.str [45,49]],(kp34 (0))),
([.str [49,47,51]],(kp34 (0))),
([.str [45,49,47,51]],(kp34 (0))),
([.str [50]],(kp34 (0))),
([.str [120]],(kp34 (5))),
([.str [49,47,49,48,48,48,48]],(kp34 (0))),
([ke34],(kp34 (5))),
([.str [50,47,51]],(kp34 (0))),
([.str [45,50,47,51]],(kp34 (0))),
([.str [51,47,52]],(kp34 (0))),
([.str [45,51,47,52]],(kp34 (0))),
([.str [57,57,57,57]],(kp34 (0))),
([.str [49,47,49,48,48]],(kp34 (0))),
([.str [45,49,47,49,48,48]],(kp34 (0)))]
theorem k23R44p0_ok : allTrue (kIs k23T0 [40] 100000 44) k23R44p0 = true := by decide +kernel
def k23R115p0 : List (List AV × AV) := [
([kq34x0,.vs [[kh34],[.str [49,47,52]]] (some 2)],(.ifc 999999 (.agg [kq34x1,.vs [[ko34],[.str [45,49,47,50]],[.str [45,49,47,52]]] none,.vs [[kz34],[kz34]] none]))),
([kq34x0,.vs [[kh34],[.str [49,47,51]]] (some 2)],(.ifc 999999 (.agg [kq34x1,.vs [[ko34],[.str [45,49,47,50]],[.str [45,49,47,51]]] none,.vs [[kz34],[kz34]] none]))),
([.agg [.vs [[kp34 (0)],[kp34 (0)],[kp34 (0)],[kp34 (0)]] (some 4),kq34x2,kp34 (0),.vs [[.int .u64 (2)],[.int .u64 (4)]] (some 2),.int .u64 (6)],.vs [[.str [49,47,51]],[.str [50,47,51]]] (some 2)],(.ifc 999999 (.agg [kq34x3,.vs [[ko34],[kz34],[.str [45,49,47,51]],[.str [45,50,47,51]]] none,.vs [[kz34],[kz34],[kz34],[kz34]] none]))),
([.agg [.vs [[kp34 (0)],[kp34 (0)],[kp34 (0)],[kp34 (0)]] (some 4),kq34x2,kp34 (3),.vs [[.int .u64 (2)],[.int .u64 (4)]] (some 2),.int .u64 (6)],.vs [[.str [49,47,51]],[.str [51,47,52]]] (some 2)],(.ifc 999999 (.agg [kq34x3,.vs [[kz34],[ko34],[.str [45,49,47,51]],[.str [45,51,47,52]]] none,.vs [[kz34],[kz34],[kz34],[kz34]] none]))),
([kq34x0,.vs [[ko34],[kz34]] (some 2)],(.ifc 999999 (.agg [kq34x1,.vs [[ko34],[.str [45,49]],[kz34]] none,.vs [[kz34],[kz34]] none]))),
([kq34x0,.vs [[kz34],[kz34]] (some 2)],(.ifc 999999 (.agg [kq34x1,.vs [[ko34],[kz34],[kz34]] none,.vs [[kz34],[kz34]] none]))),
([kq34x0,.vs [[kz34],[kh34]] (some 2)],(.ifc 999999 (.agg [kq34x1,.vs [[ko34],[kz34],[.str [45,49,47,50]]] none,.vs [[kz34],[kz34]] none]))),
([kq34x0,.vs [[.str [49,47,49,48,48]],[kh34]] (some 2)],(.ifc 999999 (.agg [kq34x1,.vs [[ko34],[.str [45,49,47,49,48,48]],[.str [45,49,47,50]]] none,.vs [[kz34],[kz34]] none])))]
theorem k23R115p0_ok : allTrue (kIs k23T0 [40] 100000 115) k23R115p0 = true := by decide +kernel
def k23R353p0 : List (List AV × AV) := [
([kz34],(.tup [kz34,ko34,kp34 (0)])),
([ko34],(.tup [ko34,ko34,kp34 (0)])),
([kh34],(.tup [ko34,.str [50],kp34 (0)])),
([.str [49,47,52]],(.tup [ko34,.str [52],kp34 (0)])),
([.str [49,47,51]],(.tup [ko34,.str [51],kp34 (0)])),
([.str [49,47,54]],(.tup [ko34,.str [54],kp34 (0)]))]
theorem k23R353p0_ok : allTrue (kIs k23T0 [40] 100000 353) k23R353p0 = true := by decide +kernel
def k23R127p0 : List (List AV × AV) := [
([],(.agg [.bool false,.nils,.bool false,.vs [[.int .u32 (1)]] none]))]
theorem k23R127p0_ok : allTrue (kIs k23T0 [40] 100000 127) k23R127p0 = true := by decide +kernel
def k23R134p0 : List (List AV × AV) := [
([],(.agg [.bool false,.vs [[.int .u32 (1)]] none,.bool false,.vs [[.int .u32 (1)]] none]))]
theorem k23R134p0_ok : allTrue (kIs k23T0 [40] 100000 134) k23R134p0 = true := by decide +kernel
end
end Go.Abs
