/-
  Steps to a law of this program: SK20L0P0, SK20L0P4.
  Conditions: none.
-/
import Derived.Test.YtddbfdneienioaaGreatDoorB33
set_option linter.unusedVariables false
set_option linter.unusedSimpArgs false
set_option linter.unusedSectionVars false
namespace Go.Abs
noncomputable section
open Go.Proofs
abbrev kp36 (n : Int) : AV := .int .i64 n
abbrev ke36 : AV := .str []
abbrev kz36 : AV := .str [48]
abbrev ko36 : AV := .str [49]
abbrev kh36 : AV := .str [49, 47, 50]
abbrev kq36x0 : AV := .vs [[.vs [[ke36,.str [51],.vs [[kp36 (1),ko36]] none]] none],[.vs [[ke36,ko36,.vs [[kp36 (1),ko36]] none]] none],[.vs [[ke36,.str [50],.vs [[kp36 (3),ko36]] none]] none],[.vs [[ke36,kz36,.vs [[kp36 (2),ko36]] none]] none]] (some 4)
abbrev kq36x1 : AV := .vp [.vs [[kp36 (0)],[kp36 (0)],[kp36 (0)],[kp36 (0)],[kp36 (0)],[kp36 (0)],[kp36 (0)],[kp36 (0)],[kp36 (0)],[kp36 (0)],[kp36 (0)],[kp36 (0)]] none,.vs [[.vs [[ke36,kz36,.vs [[kp36 (1),ko36]] none]] none],[.vs [[ke36,ko36,.vs [[kp36 (2),ko36]] none]] none],[.vs [[ke36,.str [50],.vs [[kp36 (3),ko36]] none]] none],[.vs [[ke36,.str [51],.vs [[kp36 (4),ko36]] none]] none],[.vs [[ke36,.str [52],.vs [[kp36 (5),ko36]] none]] none],[.vs [[ke36,.str [53],.vs [[kp36 (6),ko36]] none]] none],[.vs [[ke36,.str [54],.vs [[kp36 (7),ko36]] none]] none],[.vs [[ke36,.str [55],.vs [[kp36 (8),ko36]] none]] none],[.vs [[ke36,.str [56],.vs [[kp36 (9),ko36]] none]] none],[.vs [[ke36,.str [57],.vs [[kp36 (10),ko36]] none]] none],[.vs [[ke36,.str [49,48],.vs [[kp36 (11),ko36]] none]] none],[.vs [[ke36,.str [49,49],.vs [[kp36 (0),ko36]] none]] none]] (some 12),.int .u64 (1),.int .u64 (1),.int .u64 (1),.int .u64 (1),.int .u64 (1),.int .u64 (1),.int .u64 (1),.int .u64 (1),.int .u64 (1),.int .u64 (1),.int .u64 (1),.int .u64 (1)] 0
abbrev kq36x2 : AV := .vs [[kp36 (0)],[kp36 (0)],[kp36 (0)],[kp36 (0)]] none
abbrev kq36x3 : AV := .vp [kq36x2,kq36x0,.int .u64 (1),.int .u64 (1),.int .u64 (1),.int .u64 (1),.int .u64 (0),.int .u64 (0),.int .u64 (0),.int .u64 (0),.int .u64 (0),.int .u64 (0),.int .u64 (0),.int .u64 (0)] 0
abbrev kq36x4 : AV := .vp [kq36x2,kq36x0,.int .u64 (0),.int .u64 (0),.int .u64 (0),.int .u64 (0),.int .u64 (0),.int .u64 (0),.int .u64 (0),.int .u64 (0),.int .u64 (0),.int .u64 (0),.int .u64 (0),.int .u64 (0)] 0
abbrev kq36x5 : AV := .vp [kq36x2,kq36x0,.int .u64 (0),.int .u64 (1),.int .u64 (0),.int .u64 (0),.int .u64 (0),.int .u64 (0),.int .u64 (0),.int .u64 (0),.int .u64 (0),.int .u64 (0),.int .u64 (0),.int .u64 (0)] 0
abbrev kq36x6 : AV := .vp [kq36x2,kq36x0,.int .u64 (0),.int .u64 (0),.int .u64 (1),.int .u64 (1),.int .u64 (0),.int .u64 (0),.int .u64 (0),.int .u64 (0),.int .u64 (0),.int .u64 (0),.int .u64 (0),.int .u64 (0)] 0
abbrev kq36x7 : AV := .vp [kq36x2,.vs [[.vs [[ke36,.str [51],.vs [[kp36 (1),ko36]] none]] none],[.vs [[ke36,ko36,.vs [[kp36 (1),ko36]] none]] none],[.vs [[ke36,.str [50],.vs [[kp36 (3),ko36]] none]] none],[.vs [[ke36,.str [53],.vs [[kp36 (0),kh36],[kp36 (1),kh36]] none]] none]] (some 4),.int .u64 (1),.int .u64 (1),.int .u64 (1),.int .u64 (1),.int .u64 (0),.int .u64 (0),.int .u64 (0),.int .u64 (0),.int .u64 (0),.int .u64 (0),.int .u64 (0),.int .u64 (0)] 0
abbrev kq36x8 : AV := .vs [[.int .u32 (1)]] none
abbrev kq36x9 : AV := .vs [[.int .u32 (2)]] none
abbrev kq36x10 : AV := .vs [[kp36 (1),ko36]] (some 1)
abbrev kq36x11 : AV := .vs [[kp36 (3),ko36]] (some 1)
set_option maxRecDepth 1000000

def k20R373p2 : List (List AV × AV) := [
([kq36x1,kp36 (8)],(.int .u64 (4095))),
([kq36x1,kp36 (9)],(.int .u64 (4095))),
([kq36x1,kp36 (10)],(.int .u64 (4095))),
([kq36x1,kp36 (11)],(.int .u64 (4095))),
([kq36x3,kp36 (0)],(.int .u64 (3))),
([kq36x3,kp36 (1)],(.int .u64 (2))),
([kq36x3,kp36 (2)],(.int .u64 (12))),
([kq36x3,kp36 (3)],(.int .u64 (12))),
([kq36x4,kp36 (0)],(.int .u64 (1))),
([kq36x4,kp36 (1)],(.int .u64 (2))),
([kq36x4,kp36 (2)],(.int .u64 (4))),
([kq36x4,kp36 (3)],(.int .u64 (8))),
([kq36x5,kp36 (0)],(.int .u64 (1))),
([kq36x5,kp36 (1)],(.int .u64 (2))),
([kq36x5,kp36 (2)],(.int .u64 (4))),
([kq36x5,kp36 (3)],(.int .u64 (8))),
([kq36x6,kp36 (0)],(.int .u64 (1))),
([kq36x6,kp36 (1)],(.int .u64 (2))),
([kq36x6,kp36 (2)],(.int .u64 (12))),
([kq36x6,kp36 (3)],(.int .u64 (12))),
([kq36x7,kp36 (0)],(.int .u64 (3))),
([kq36x7,kp36 (1)],(.int .u64 (2)))]
theorem k20R373p2_ok : allTrue (kIs [] [] 100000 373) k20R373p2 = true := by decide +kernel
def k20R354p0 : List (List AV × AV) := [
([kz36],(kp36 (0))),
([ko36],(kp36 (1))),
([.str [50]],(kp36 (2))),
([.str [51]],(kp36 (3))),
([.str [52]],(kp36 (4))),
([.str [53]],(kp36 (5))),
([.str [54]],(kp36 (6))),
([.str [55]],(kp36 (7))),
([.str [56]],(kp36 (8))),
([.str [57]],(kp36 (9))),
([.str [49,48]],(kp36 (10))),
([.str [49,49]],(kp36 (11))),
([.str [49,48,48]],(kp36 (100)))]
theorem k20R354p0_ok : allTrue (kIs [] [] 100000 354) k20R354p0 = true := by decide +kernel
def k20R25p0 : List (List AV × AV) := [
([kz36,kq36x10],(.agg [ke36,kz36,kq36x10])),
([ko36,.vs [[kp36 (2),ko36]] (some 1)],(.agg [ke36,ko36,.vs [[kp36 (2),ko36]] (some 1)])),
([.str [50],kq36x11],(.agg [ke36,.str [50],kq36x11])),
([.str [51],.vs [[kp36 (4),ko36]] (some 1)],(.agg [ke36,.str [51],.vs [[kp36 (4),ko36]] (some 1)])),
([.str [52],.vs [[kp36 (5),ko36]] (some 1)],(.agg [ke36,.str [52],.vs [[kp36 (5),ko36]] (some 1)])),
([.str [53],.vs [[kp36 (6),ko36]] (some 1)],(.agg [ke36,.str [53],.vs [[kp36 (6),ko36]] (some 1)])),
([.str [54],.vs [[kp36 (7),ko36]] (some 1)],(.agg [ke36,.str [54],.vs [[kp36 (7),ko36]] (some 1)])),
([.str [55],.vs [[kp36 (8),ko36]] (some 1)],(.agg [ke36,.str [55],.vs [[kp36 (8),ko36]] (some 1)])),
([.str [56],.vs [[kp36 (9),ko36]] (some 1)],(.agg [ke36,.str [56],.vs [[kp36 (9),ko36]] (some 1)])),
([.str [57],.vs [[kp36 (10),ko36]] (some 1)],(.agg [ke36,.str [57],.vs [[kp36 (10),ko36]] (some 1)])),
([.str [49,48],.vs [[kp36 (11),ko36]] (some 1)],(.agg [ke36,.str [49,48],.vs [[kp36 (11),ko36]] (some 1)])),
([.str [49,49],.vs [[kp36 (0),ko36]] (some 1)],(.agg [ke36,.str [49,49],.vs [[kp36 (0),ko36]] (some 1)])),
([.str [51],kq36x10],(.agg [ke36,.str [51],kq36x10])),
([kz36,.vs [[kp36 (2),ko36]] (some 1)],(.agg [ke36,kz36,.vs [[kp36 (2),ko36]] (some 1)])),
([ko36,.vs [[kp36 (0),ko36]] (some 1)],(.agg [ke36,ko36,.vs [[kp36 (0),ko36]] (some 1)])),
([ko36,kq36x10],(.agg [ke36,ko36,kq36x10])),
([.str [53],.vs [[kp36 (0),kh36],[kp36 (1),kh36]] (some 2)],(.agg [ke36,.str [53],.vs [[kp36 (0),kh36],[kp36 (1),kh36]] (some 2)])),
([.str [55],.vs [[kp36 (1),kh36],[kp36 (3),kh36]] (some 2)],(.agg [ke36,.str [55],.vs [[kp36 (1),kh36],[kp36 (3),kh36]] (some 2)])),
([.str [50],.vs [[kp36 (1),.str [49,47,51]],[kp36 (2),.str [50,47,51]]] (some 2)],(.agg [ke36,.str [50],.vs [[kp36 (1),.str [49,47,51]],[kp36 (2),.str [50,47,51]]] (some 2)])),
([.str [57],kq36x11],(.agg [ke36,.str [57],kq36x11])),
([kh36,kq36x11],(.agg [ke36,kh36,kq36x11])),
([.str [49,48,48],.vs [[kp36 (0),.str [49,47,49,48]],[kp36 (4),.str [57,47,49,48]]] (some 2)],(.agg [ke36,.str [49,48,48],.vs [[kp36 (0),.str [49,47,49,48]],[kp36 (4),.str [57,47,49,48]]] (some 2)]))]
theorem k20R25p0_ok : allTrue (kIs [] [] 100000 25) k20R25p0 = true := by decide +kernel
end
end Go.Abs

namespace Go.Abs
noncomputable section
open Go.Proofs
set_option maxRecDepth 1000000

def k20R48p0 : List (List AV × AV) := [
([kz36],(.agg [.bool false,.vs [] none,.bool false,kq36x8])),
([ko36],(.agg [.bool false,kq36x8,.bool false,kq36x8])),
([.str [50]],(.agg [.bool false,kq36x9,.bool false,kq36x8])),
([.str [51]],(.agg [.bool false,.vs [[.int .u32 (3)]] none,.bool false,kq36x8])),
([.str [52]],(.agg [.bool false,.vs [[.int .u32 (4)]] none,.bool false,kq36x8])),
([.str [53]],(.agg [.bool false,.vs [[.int .u32 (5)]] none,.bool false,kq36x8])),
([.str [54]],(.agg [.bool false,.vs [[.int .u32 (6)]] none,.bool false,kq36x8])),
([.str [55]],(.agg [.bool false,.vs [[.int .u32 (7)]] none,.bool false,kq36x8])),
([.str [56]],(.agg [.bool false,.vs [[.int .u32 (8)]] none,.bool false,kq36x8])),
([.str [57]],(.agg [.bool false,.vs [[.int .u32 (9)]] none,.bool false,kq36x8])),
([.str [49,48]],(.agg [.bool false,.vs [[.int .u32 (10)]] none,.bool false,kq36x8])),
([.str [49,49]],(.agg [.bool false,.vs [[.int .u32 (11)]] none,.bool false,kq36x8])),
([.str [45,49]],(.agg [.bool true,kq36x8,.bool false,kq36x8])),
([.str [49,47,49,50]],(.agg [.bool false,kq36x8,.bool false,.vs [[.int .u32 (12)]] none])),
([.str [49,49,47,50]],(.agg [.bool false,.vs [[.int .u32 (11)]] none,.bool false,kq36x9])),
([kh36],(.agg [.bool false,kq36x8,.bool false,kq36x9])),
([.str [45,49,47,50]],(.agg [.bool true,kq36x8,.bool false,kq36x9])),
([.str [49,48,48]],(.agg [.bool false,.vs [[.int .u32 (100)]] none,.bool false,kq36x8])),
([.str [49,47,51]],(.agg [.bool false,kq36x8,.bool false,.vs [[.int .u32 (3)]] none])),
([.str [50,47,51]],(.agg [.bool false,kq36x9,.bool false,.vs [[.int .u32 (3)]] none])),
([.str [49,47,49,48]],(.agg [.bool false,kq36x8,.bool false,.vs [[.int .u32 (10)]] none])),
([.str [57,47,49,48]],(.agg [.bool false,.vs [[.int .u32 (9)]] none,.bool false,.vs [[.int .u32 (10)]] none])),
([.str [49,47,52]],(.agg [.bool false,kq36x8,.bool false,.vs [[.int .u32 (4)]] none])),
([.str [51,47,52]],(.agg [.bool false,.vs [[.int .u32 (3)]] none,.bool false,.vs [[.int .u32 (4)]] none])),
([.str [45,49,47,49,48]],(.agg [.bool true,kq36x8,.bool false,.vs [[.int .u32 (10)]] none])),
([.str [55,47,52]],(.agg [.bool false,.vs [[.int .u32 (7)]] none,.bool false,.vs [[.int .u32 (4)]] none])),
([.str [57,47,56]],(.agg [.bool false,.vs [[.int .u32 (9)]] none,.bool false,.vs [[.int .u32 (8)]] none])),
([.str [45,49,47,51]],(.agg [.bool true,kq36x8,.bool false,.vs [[.int .u32 (3)]] none])),
([.str [52,55,47,56]],(.agg [.bool false,.vs [[.int .u32 (47)]] none,.bool false,.vs [[.int .u32 (8)]] none])),
([.str [55,57,49,47,56]],(.agg [.bool false,.vs [[.int .u32 (791)]] none,.bool false,.vs [[.int .u32 (8)]] none])),
([.str [55,57,53,55,47,56]],(.agg [.bool false,.vs [[.int .u32 (7957)]] none,.bool false,.vs [[.int .u32 (8)]] none])),
([.str [57,47,49,54]],(.agg [.bool false,.vs [[.int .u32 (9)]] none,.bool false,.vs [[.int .u32 (16)]] none])),
([.str [57,47,51,50]],(.agg [.bool false,.vs [[.int .u32 (9)]] none,.bool false,.vs [[.int .u32 (32)]] none])),
([.str [49,51,47,50]],(.agg [.bool false,.vs [[.int .u32 (13)]] none,.bool false,kq36x9])),
([.str [49,55,47,50]],(.agg [.bool false,.vs [[.int .u32 (17)]] none,.bool false,kq36x9])),
([.str [49,57,57,47,50]],(.agg [.bool false,.vs [[.int .u32 (199)]] none,.bool false,kq36x9])),
([.str [49,48,48,54]],(.agg [.bool false,.vs [[.int .u32 (1006)]] none,.bool false,kq36x8]))]
theorem k20R48p0_ok : allTrue (kIs [] [] 100000 48) k20R48p0 = true := by decide +kernel
end
end Go.Abs
