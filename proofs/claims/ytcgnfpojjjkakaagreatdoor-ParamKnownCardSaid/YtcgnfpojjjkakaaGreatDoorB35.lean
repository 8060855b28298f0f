/-
  Steps to a law of this program: SK41L2P0.
  Conditions: none.
-/
import Derived.Test.YtcgnfpojjjkakaaGreatDoorB34
set_option linter.unusedVariables false
set_option linter.unusedSimpArgs false
set_option linter.unusedSectionVars false
namespace Go.Abs
noncomputable section
open Go.Proofs
abbrev kp35 (n : Int) : AV := .int .i64 n
abbrev ke35 : AV := .str []
abbrev kz35 : AV := .str [48]
abbrev ko35 : AV := .str [49]
abbrev kh35 : AV := .str [49, 47, 50]
abbrev kq35x0 : AV := .vs [[.int .u32 (1)]] none
abbrev kq35x1 : AV := .vs [[.bool false,kq35x0,.bool false,kq35x0],[.bool true,kq35x0,.bool false,kq35x0],[.bool false,kq35x0,.bool false,kq35x0]] (some 3)
abbrev kq35x2 : AV := .vs [[.bool false,kq35x0,.bool false,kq35x0]] (some 1)
abbrev kq35x3 : AV := .vs [[.bool false,kq35x0,.bool false,kq35x0]] none
abbrev kq35x4 : AV := .vs [[.bool false,.nils,.bool false,kq35x0],[.bool false,kq35x0,.bool false,kq35x0]] (some 2)
abbrev kq35x5 : AV := .vs [[.bool true,kq35x0,.bool false,kq35x0],[.bool false,kq35x0,.bool false,kq35x0]] (some 2)
abbrev kq35x6 : AV := .vs [[.bool false,.nils,.bool false,kq35x0],[.bool true,kq35x0,.bool false,kq35x0]] (some 2)
abbrev kq35x7 : AV := .vs [[.int .u32 (2)]] none
abbrev kq35x8 : AV := .vs [[.bool true,kq35x0,.bool false,kq35x0]] (some 1)
abbrev kq35x9 : AV := .vs [[.bool false,.nils,.bool false,kq35x0],[.bool false,.nils,.bool false,kq35x0],[.bool false,kq35x0,.bool false,kq35x0]] (some 3)
abbrev kq35x10 : AV := .vs [[.bool false,.vs [] (some 1),.bool false,.vs [[.int .u32 (1)]] (some 2)],[.bool false,kq35x0,.bool false,kq35x0]] none
abbrev kq35x11 : AV := .vs [[.bool false,kq35x0,.bool false,kq35x0],[.bool false,kq35x0,.bool false,kq35x0]] (some 2)
abbrev kq35x12 : AV := .vs [[.bool false,kq35x0,.bool false,kq35x0],[.bool false,kq35x0,.bool false,kq35x0]] none
abbrev kq35x13 : AV := .vs [[.bool false,.nils,.bool false,kq35x0],[.bool false,kq35x0,.bool false,kq35x0],[.bool true,kq35x0,.bool false,kq35x0]] (some 3)
abbrev kq35x14 : AV := .vs [[.bool true,kq35x0,.bool false,kq35x0],[.bool false,kq35x7,.bool false,kq35x0],[.bool true,kq35x0,.bool false,kq35x0]] (some 3)
abbrev kq35x15 : AV := .vs [[.bool false,.nils,.bool false,kq35x0],[.bool false,.nils,.bool false,kq35x0],[.bool true,kq35x0,.bool false,kq35x0]] (some 3)
abbrev kq35x16 : AV := .vs [[.bool false,kq35x0,.bool false,kq35x0],[.bool true,kq35x0,.bool false,kq35x0],[.bool false,kq35x0,.bool false,kq35x0]] none
abbrev kq35x17 : AV := .vs [[.bool false,.vs [] none,.bool false,kq35x0],[.bool false,kq35x0,.bool false,kq35x0]] (some 2)
abbrev kq35x18 : AV := .vs [[.bool false,.vs [] none,.bool false,kq35x0],[.bool false,kq35x0,.bool false,kq35x0]] none
abbrev kq35x19 : AV := .vs [[.bool false,.nils,.bool false,kq35x0],[.bool false,.nils,.bool false,kq35x0],[.bool true,kq35x0,.bool false,kq35x0],[.bool false,kq35x0,.bool false,kq35x0]] (some 4)
abbrev kq35x20 : AV := .vs [[.bool false,.vs [] none,.bool false,kq35x0],[.bool false,.vs [] none,.bool false,kq35x0],[.bool false,kq35x0,.bool false,kq35x0]] none
abbrev kq35x21 : AV := .vs [[.bool false,kq35x0,.bool false,kq35x0],[.bool true,kq35x0,.bool false,kq35x0]] (some 2)
abbrev kq35x22 : AV := .vs [[.bool false,kq35x7,.bool false,kq35x0],[.bool true,kq35x0,.bool false,kq35x0]] (some 2)
abbrev kq35x23 : AV := .vs [[.bool false,kq35x0,.bool false,kq35x0],[.bool true,kq35x7,.bool false,kq35x0],[.bool false,kq35x0,.bool false,kq35x0]] (some 3)
abbrev kq35x24 : AV := .vs [[.bool true,kq35x0,.bool false,kq35x0],[.bool false,kq35x0,.bool false,kq35x0]] none
abbrev kq35x25 : AV := .vs [[.bool false,kq35x7,.bool false,kq35x0],[.bool true,kq35x0,.bool false,kq35x0]] none
abbrev kq35x26 : AV := .vs [[.bool false,kq35x0,.bool false,kq35x0],[.bool true,kq35x7,.bool false,kq35x0],[.bool false,.vs [[.int .u32 (3)]] none,.bool false,kq35x0],[.bool true,kq35x7,.bool false,kq35x0],[.bool false,kq35x0,.bool false,kq35x0]] (some 5)
abbrev kq35x27 : AV := .vs [[.bool false,kq35x0,.bool false,kq35x0],[.bool true,kq35x7,.bool false,kq35x0],[.bool false,.vs [[.int .u32 (3)]] none,.bool false,kq35x0],[.bool true,kq35x7,.bool false,kq35x0],[.bool false,kq35x0,.bool false,kq35x0]] none
abbrev kq35x28 : AV := .tup [kq35x2,.vs [] (some 0)]
abbrev kq35x29 : AV := .vs [[.bool true,kq35x7,.bool false,kq35x0],[.bool false,kq35x0,.bool false,kq35x0]] (some 2)
abbrev kq35x30 : AV := .tup [.vs [[.bool false,kq35x7,.bool false,kq35x0]] (some 1),.vs [] (some 0)]
abbrev kq35x31 : AV := .tup [kq35x4,.vs [] (some 0)]
abbrev kq35x32 : AV := .vs [[.bool true,kq35x0,.bool false,kq35x0],[.bool false,.vs [] none,.bool false,kq35x0],[.bool false,kq35x0,.bool false,kq35x0]] (some 3)
abbrev kq35x33 : AV := .vs [[.bool true,kq35x0,.bool false,kq35x0],[.bool false,kq35x7,.bool false,kq35x0],[.bool true,kq35x0,.bool false,kq35x0]] none
abbrev kq35x34 : AV := .tup [kq35x8,.vs [] (some 0)]
abbrev kq35x35 : AV := .vs [[.bool false,.nils,.bool false,.vs [[.int .u32 (1)]] (some 1)],[.bool false,kq35x0,.bool false,kq35x0]] none
set_option maxRecDepth 1000000

def k41R128p0 : List (List AV × AV) := [
([kq35x2,kq35x2],(kq35x28)),
([kq35x3,kq35x2],(kq35x28)),
([kq35x3,kq35x3],(kq35x28)),
([kq35x2,kq35x3],(kq35x28)),
([.vs [] (some 0),kq35x2],(.tup [.vs [] (some 0),.vs [] (some 0)])),
([.vs [] (some 0),kq35x3],(.tup [.vs [] (some 0),.vs [] (some 0)])),
([kq35x17,kq35x2],(kq35x31)),
([kq35x18,kq35x2],(kq35x31)),
([kq35x18,kq35x3],(kq35x31)),
([kq35x21,kq35x2],(.tup [kq35x21,.vs [] (some 0)])),
([.vs [[.bool false,.vs [] none,.bool false,kq35x0],[.bool true,kq35x0,.bool false,kq35x0]] none,kq35x2],(.tup [kq35x6,.vs [] (some 0)])),
([.vs [[.bool false,.vs [] none,.bool false,kq35x0],[.bool true,kq35x0,.bool false,kq35x0]] none,kq35x3],(.tup [kq35x6,.vs [] (some 0)])),
([kq35x24,kq35x2],(.tup [kq35x5,.vs [] (some 0)])),
([kq35x24,kq35x3],(.tup [kq35x5,.vs [] (some 0)])),
([.nils,kq35x2],(.tup [.vs [] (some 0),.nils])),
([.nils,kq35x3],(.tup [.vs [] (some 0),.nils])),
([kq35x6,kq35x2],(.tup [kq35x6,.vs [] (some 0)])),
([kq35x6,kq35x3],(.tup [kq35x6,.vs [] (some 0)])),
([kq35x5,kq35x2],(.tup [kq35x5,.vs [] (some 0)])),
([kq35x5,kq35x3],(.tup [kq35x5,.vs [] (some 0)])),
([kq35x4,kq35x2],(kq35x31)),
([kq35x4,kq35x3],(kq35x31)),
([kq35x13,kq35x2],(.tup [kq35x13,.vs [] (some 0)])),
([kq35x13,kq35x3],(.tup [kq35x13,.vs [] (some 0)])),
([kq35x16,kq35x2],(.tup [kq35x1,.vs [] (some 0)])),
([kq35x16,kq35x3],(.tup [kq35x1,.vs [] (some 0)])),
([kq35x15,kq35x2],(.tup [kq35x15,.vs [] (some 0)])),
([kq35x15,kq35x3],(.tup [kq35x15,.vs [] (some 0)])),
([kq35x20,kq35x2],(.tup [kq35x9,.vs [] (some 0)])),
([kq35x20,kq35x3],(.tup [kq35x9,.vs [] (some 0)])),
([.nils,kq35x1],(.tup [.vs [] (some 0),.nils])),
([.nils,kq35x16],(.tup [.vs [] (some 0),.nils])),
([kq35x1,kq35x16],(kq35x28)),
([kq35x1,kq35x1],(kq35x28)),
([kq35x5,kq35x1],(.tup [.vs [] (some 0),kq35x24])),
([kq35x1,kq35x24],(.tup [kq35x4,kq35x2])),
([kq35x1,kq35x3],(.tup [kq35x1,.vs [] (some 0)])),
([kq35x9,kq35x1],(.tup [kq35x2,kq35x5])),
([kq35x9,kq35x3],(.tup [kq35x9,.vs [] (some 0)])),
([kq35x23,kq35x1],(.tup [kq35x2,.vs [[.bool false,.vs [] none,.bool false,kq35x0],[.bool true,kq35x0,.bool false,kq35x0]] (some 2)])),
([kq35x1,kq35x35],(.tup [kq35x5,kq35x2])),
([kq35x35,kq35x3],(kq35x31)),
([kq35x23,kq35x3],(.tup [kq35x23,.vs [] (some 0)])),
([kq35x33,kq35x1],(.tup [kq35x8,kq35x17])),
([kq35x1,kq35x10],(.tup [kq35x5,kq35x2])),
([kq35x10,kq35x3],(kq35x31)),
([kq35x33,kq35x3],(.tup [kq35x14,.vs [] (some 0)])),
([kq35x19,kq35x1],(.tup [kq35x4,kq35x6])),
([kq35x19,kq35x3],(.tup [kq35x19,.vs [] (some 0)])),
([kq35x17,kq35x1],(.tup [.vs [] (some 0),kq35x18])),
([kq35x17,kq35x3],(kq35x31)),
([kq35x14,kq35x1],(.tup [kq35x8,kq35x17])),
([kq35x14,kq35x3],(.tup [kq35x14,.vs [] (some 0)])),
([.vs [] (some 0),kq35x26],(.tup [.vs [] (some 0),.vs [] (some 0)])),
([.vs [] (some 0),kq35x27],(.tup [.vs [] (some 0),.vs [] (some 0)])),
([kq35x26,kq35x27],(kq35x28)),
([kq35x18,kq35x1],(.tup [.vs [] (some 0),kq35x18])),
([kq35x20,kq35x1],(.tup [kq35x2,kq35x5])),
([kq35x12,kq35x2],(.tup [kq35x11,.vs [] (some 0)])),
([kq35x12,kq35x3],(.tup [kq35x11,.vs [] (some 0)])),
([kq35x11,kq35x1],(.tup [.vs [] (some 0),kq35x12])),
([kq35x1,kq35x12],(.tup [kq35x29,.vs [[.bool false,.vs [[.int .u32 (3)]] none,.bool false,kq35x0]] (some 1)])),
([kq35x11,kq35x3],(.tup [kq35x11,.vs [] (some 0)])),
([kq35x32,kq35x1],(.tup [kq35x2,kq35x29])),
([kq35x1,.vs [[.bool true,kq35x7,.bool false,kq35x0],[.bool false,kq35x0,.bool false,kq35x0]] none],(.tup [kq35x11,.vs [[.bool false,.vs [[.int .u32 (3)]] none,.bool false,kq35x0]] (some 1)])),
([.vs [[.bool true,kq35x7,.bool false,kq35x0],[.bool false,kq35x0,.bool false,kq35x0]] none,kq35x3],(.tup [kq35x29,.vs [] (some 0)])),
([kq35x32,kq35x3],(.tup [.vs [[.bool true,kq35x0,.bool false,kq35x0],[.bool false,.nils,.bool false,kq35x0],[.bool false,kq35x0,.bool false,kq35x0]] (some 3),.vs [] (some 0)])),
([kq35x22,kq35x1],(.tup [.vs [] (some 0),kq35x25])),
([kq35x22,kq35x3],(.tup [kq35x22,.vs [] (some 0)])),
([kq35x25,kq35x1],(.tup [.vs [] (some 0),kq35x25])),
([kq35x25,kq35x3],(.tup [kq35x22,.vs [] (some 0)])),
([kq35x12,kq35x1],(.tup [.vs [] (some 0),kq35x12])),
([.vs [[.bool false,kq35x0,.bool false,kq35x0],[.bool true,kq35x0,.bool false,kq35x0]] none,kq35x2],(.tup [kq35x21,.vs [] (some 0)])),
([.vs [[.bool false,kq35x0,.bool false,kq35x0],[.bool true,kq35x0,.bool false,kq35x0]] none,kq35x3],(.tup [kq35x21,.vs [] (some 0)])),
([kq35x4,kq35x4],(kq35x28)),
([kq35x4,kq35x10],(kq35x28)),
([kq35x6,kq35x4],(kq35x34)),
([kq35x6,kq35x10],(kq35x34)),
([.nils,kq35x4],(.tup [.vs [] (some 0),.nils])),
([.nils,kq35x10],(.tup [.vs [] (some 0),.nils])),
([kq35x8,kq35x2],(kq35x34)),
([kq35x8,kq35x3],(kq35x34)),
([.vs [[.bool false,kq35x7,.bool false,kq35x0]] (some 1),kq35x2],(kq35x30)),
([.vs [[.bool false,kq35x7,.bool false,kq35x0]] none,kq35x2],(kq35x30)),
([.vs [[.bool false,kq35x7,.bool false,kq35x0]] none,kq35x3],(kq35x30)),
([.vs [[.bool true,kq35x0,.bool false,kq35x0]] none,kq35x2],(kq35x34)),
([.vs [[.bool true,kq35x0,.bool false,kq35x0]] none,kq35x3],(kq35x34)),
([kq35x8,kq35x8],(kq35x28)),
([kq35x2,kq35x8],(kq35x34))]
theorem k41R128p0_ok : allTrue (kIs k41T1 [] 100000 128) k41R128p0 = true := by decide +kernel
def k41R79p0 : List (List AV × AV) := [
([.agg [.bool false,.nils,.bool false,kq35x0]],(.agg [.vs [] (some 0),kq35x2])),
([.agg [.bool false,kq35x0,.bool false,kq35x0]],(.agg [kq35x2,kq35x2]))]
theorem k41R79p0_ok : allTrue (kIs k41T1 [] 100000 79) k41R79p0 = true := by decide +kernel
end
end Go.Abs
