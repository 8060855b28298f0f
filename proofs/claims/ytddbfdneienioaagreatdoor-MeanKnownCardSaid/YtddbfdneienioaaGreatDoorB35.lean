/-
  Steps to a law of this program: SK20L0P2, SK20L0P3.
  Conditions: none.
-/
import Derived.Test.YtddbfdneienioaaGreatDoorB33
set_option linter.unusedVariables false
set_option linter.unusedSimpArgs false
set_option linter.unusedSectionVars false
namespace Go.Abs
noncomputable section
open Go.Proofs
abbrev kp35 (n : Int) : AV := .int .i64 n
abbrev ke35 : AV := .str []
abbrev kz35 : AV := .str [48]
abbrev ko35 : AV := .str [49]
abbrev kh35 : AV := .str [49, 47, 50]
abbrev kq35x0 : AV := .vs [[.vs [[ke35,.str [55],.vs [[kp35 (1),kh35],[kp35 (3),kh35]] none]] none],[.vs [[ke35,ko35,.vs [[kp35 (2),ko35]] none]] none],[.vs [[ke35,.str [50],.vs [[kp35 (1),.str [49,47,51]],[kp35 (2),.str [50,47,51]]] none]] none],[.vs [[ke35,kh35,.vs [[kp35 (3),ko35]] none]] none],[.vs [[ke35,.str [49,48,48],.vs [[kp35 (0),.str [49,47,49,48]],[kp35 (4),.str [57,47,49,48]]] none]] none]] (some 5)
abbrev kq35x1 : AV := .vs [[.vs [[ke35,.str [55],.vs [[kp35 (1),kh35],[kp35 (3),kh35]] none]] none],[.vs [[ke35,ko35,.vs [[kp35 (2),ko35]] none]] none],[.vs [[ke35,.str [57],.vs [[kp35 (3),ko35]] none]] none],[.vs [[ke35,kh35,.vs [[kp35 (3),ko35]] none]] none],[.vs [[ke35,.str [49,48,48],.vs [[kp35 (0),.str [49,47,49,48]],[kp35 (4),.str [57,47,49,48]]] none]] none]] (some 5)
abbrev kq35x2 : AV := .vs [[.vs [[ke35,kz35,.vs [[kp35 (2),ko35]] none]] none],[.vs [[ke35,ko35,.vs [[kp35 (1),ko35]] none]] none],[.vs [[ke35,.str [50],.vs [[kp35 (3),ko35]] none]] none],[.vs [[ke35,kz35,.vs [[kp35 (2),ko35]] none]] none]] (some 4)
abbrev kq35x3 : AV := .vp [.vs [[kp35 (0)],[kp35 (0)],[kp35 (0)],[kp35 (0)],[kp35 (0)],[kp35 (0)],[kp35 (0)],[kp35 (0)],[kp35 (0)],[kp35 (0)],[kp35 (0)],[kp35 (0)]] none,.vs [[.vs [[ke35,kz35,.vs [[kp35 (1),ko35]] none]] none],[.vs [[ke35,ko35,.vs [[kp35 (2),ko35]] none]] none],[.vs [[ke35,.str [50],.vs [[kp35 (3),ko35]] none]] none],[.vs [[ke35,.str [51],.vs [[kp35 (4),ko35]] none]] none],[.vs [[ke35,.str [52],.vs [[kp35 (5),ko35]] none]] none],[.vs [[ke35,.str [53],.vs [[kp35 (6),ko35]] none]] none],[.vs [[ke35,.str [54],.vs [[kp35 (7),ko35]] none]] none],[.vs [[ke35,.str [55],.vs [[kp35 (8),ko35]] none]] none],[.vs [[ke35,.str [56],.vs [[kp35 (9),ko35]] none]] none],[.vs [[ke35,.str [57],.vs [[kp35 (10),ko35]] none]] none],[.vs [[ke35,.str [49,48],.vs [[kp35 (11),ko35]] none]] none],[.vs [[ke35,.str [49,49],.vs [[kp35 (0),ko35]] none]] none]] (some 12),.int .u64 (1),.int .u64 (1),.int .u64 (1),.int .u64 (1),.int .u64 (1),.int .u64 (1),.int .u64 (1),.int .u64 (1),.int .u64 (1),.int .u64 (1),.int .u64 (1),.int .u64 (1)] 0
abbrev kq35x4 : AV := .vs [[.vs [[ke35,kz35,.vs [[kp35 (2),ko35]] none]] none],[.vs [[ke35,ko35,.vs [[kp35 (1),ko35]] none]] none],[.vs [[ke35,.str [50],.vs [[kp35 (3),ko35]] none]] none],[.vs [[ke35,.str [53],.vs [[kp35 (0),kh35],[kp35 (1),kh35]] none]] none]] (some 4)
abbrev kq35x5 : AV := .vs [[.vs [[ke35,.str [51],.vs [[kp35 (1),ko35]] none]] none],[.vs [[ke35,ko35,.vs [[kp35 (1),ko35]] none]] none],[.vs [[ke35,.str [50],.vs [[kp35 (3),ko35]] none]] none],[.vs [[ke35,.str [53],.vs [[kp35 (0),kh35],[kp35 (1),kh35]] none]] none]] (some 4)
abbrev kq35x6 : AV := .vs [[kp35 (0)],[kp35 (0)],[kp35 (0)],[kp35 (0)],[kp35 (0)]] none
abbrev kq35x7 : AV := .vs [[kp35 (0)],[kp35 (0)],[kp35 (0)],[kp35 (0)]] none
abbrev kq35x8 : AV := .vp [kq35x6,kq35x0,.int .u64 (1),.int .u64 (1),.int .u64 (1),.int .u64 (1),.int .u64 (1),.int .u64 (0),.int .u64 (0),.int .u64 (0),.int .u64 (0),.int .u64 (0),.int .u64 (0),.int .u64 (0)] 0
abbrev kq35x9 : AV := .vp [kq35x6,kq35x0,.int .u64 (0),.int .u64 (0),.int .u64 (0),.int .u64 (0),.int .u64 (0),.int .u64 (0),.int .u64 (0),.int .u64 (0),.int .u64 (0),.int .u64 (0),.int .u64 (0),.int .u64 (0)] 0
abbrev kq35x10 : AV := .vp [kq35x6,kq35x0,.int .u64 (0),.int .u64 (1),.int .u64 (1),.int .u64 (0),.int .u64 (0),.int .u64 (0),.int .u64 (0),.int .u64 (0),.int .u64 (0),.int .u64 (0),.int .u64 (0),.int .u64 (0)] 0
abbrev kq35x11 : AV := .vp [kq35x6,kq35x0,.int .u64 (0),.int .u64 (0),.int .u64 (0),.int .u64 (1),.int .u64 (0),.int .u64 (0),.int .u64 (0),.int .u64 (0),.int .u64 (0),.int .u64 (0),.int .u64 (0),.int .u64 (0)] 0
abbrev kq35x12 : AV := .vp [kq35x6,kq35x1,.int .u64 (1),.int .u64 (1),.int .u64 (1),.int .u64 (1),.int .u64 (1),.int .u64 (0),.int .u64 (0),.int .u64 (0),.int .u64 (0),.int .u64 (0),.int .u64 (0),.int .u64 (0)] 0
abbrev kq35x13 : AV := .vp [kq35x6,kq35x1,.int .u64 (0),.int .u64 (0),.int .u64 (0),.int .u64 (0),.int .u64 (0),.int .u64 (0),.int .u64 (0),.int .u64 (0),.int .u64 (0),.int .u64 (0),.int .u64 (0),.int .u64 (0)] 0
abbrev kq35x14 : AV := .vp [kq35x6,kq35x1,.int .u64 (0),.int .u64 (0),.int .u64 (0),.int .u64 (1),.int .u64 (0),.int .u64 (0),.int .u64 (0),.int .u64 (0),.int .u64 (0),.int .u64 (0),.int .u64 (0),.int .u64 (0)] 0
abbrev kq35x15 : AV := .vp [kq35x7,kq35x5,.int .u64 (0),.int .u64 (0),.int .u64 (0),.int .u64 (0),.int .u64 (0),.int .u64 (0),.int .u64 (0),.int .u64 (0),.int .u64 (0),.int .u64 (0),.int .u64 (0),.int .u64 (0)] 0
abbrev kq35x16 : AV := .vp [kq35x7,kq35x5,.int .u64 (0),.int .u64 (1),.int .u64 (0),.int .u64 (0),.int .u64 (0),.int .u64 (0),.int .u64 (0),.int .u64 (0),.int .u64 (0),.int .u64 (0),.int .u64 (0),.int .u64 (0)] 0
abbrev kq35x17 : AV := .vp [kq35x7,kq35x4,.int .u64 (1),.int .u64 (1),.int .u64 (1),.int .u64 (1),.int .u64 (0),.int .u64 (0),.int .u64 (0),.int .u64 (0),.int .u64 (0),.int .u64 (0),.int .u64 (0),.int .u64 (0)] 0
abbrev kq35x18 : AV := .vp [kq35x7,kq35x4,.int .u64 (0),.int .u64 (0),.int .u64 (0),.int .u64 (0),.int .u64 (0),.int .u64 (0),.int .u64 (0),.int .u64 (0),.int .u64 (0),.int .u64 (0),.int .u64 (0),.int .u64 (0)] 0
abbrev kq35x19 : AV := .vp [kq35x7,kq35x4,.int .u64 (0),.int .u64 (1),.int .u64 (0),.int .u64 (0),.int .u64 (0),.int .u64 (0),.int .u64 (0),.int .u64 (0),.int .u64 (0),.int .u64 (0),.int .u64 (0),.int .u64 (0)] 0
abbrev kq35x20 : AV := .vp [kq35x7,kq35x2,.int .u64 (1),.int .u64 (1),.int .u64 (1),.int .u64 (1),.int .u64 (0),.int .u64 (0),.int .u64 (0),.int .u64 (0),.int .u64 (0),.int .u64 (0),.int .u64 (0),.int .u64 (0)] 0
abbrev kq35x21 : AV := .vp [kq35x7,kq35x2,.int .u64 (0),.int .u64 (0),.int .u64 (0),.int .u64 (0),.int .u64 (0),.int .u64 (0),.int .u64 (0),.int .u64 (0),.int .u64 (0),.int .u64 (0),.int .u64 (0),.int .u64 (0)] 0
abbrev kq35x22 : AV := .vp [kq35x7,kq35x2,.int .u64 (0),.int .u64 (1),.int .u64 (0),.int .u64 (0),.int .u64 (0),.int .u64 (0),.int .u64 (0),.int .u64 (0),.int .u64 (0),.int .u64 (0),.int .u64 (0),.int .u64 (0)] 0
abbrev kq35x23 : AV := .vp [kq35x7,kq35x2,.int .u64 (0),.int .u64 (0),.int .u64 (1),.int .u64 (1),.int .u64 (0),.int .u64 (0),.int .u64 (0),.int .u64 (0),.int .u64 (0),.int .u64 (0),.int .u64 (0),.int .u64 (0)] 0
abbrev kq35x24 : AV := .agg [ke35,.str [50],.vs [[kp35 (3),ko35]] none]
abbrev kq35x25 : AV := .vp [kq35x7,kq35x5,.int .u64 (1),.int .u64 (1),.int .u64 (1),.int .u64 (1),.int .u64 (0),.int .u64 (0),.int .u64 (0),.int .u64 (0),.int .u64 (0),.int .u64 (0),.int .u64 (0),.int .u64 (0)] 0
abbrev kq35x26 : AV := .agg [ke35,kz35,.vs [[kp35 (2),ko35]] none]
abbrev kq35x27 : AV := .agg [ke35,.str [53],.vs [[kp35 (0),kh35],[kp35 (1),kh35]] none]
abbrev kq35x28 : AV := .agg [ke35,ko35,.vs [[kp35 (2),ko35]] none]
set_option maxRecDepth 1000000

def k20R373p1 : List (List AV × AV) := [
([kq35x3,kp35 (4)],(.int .u64 (4095))),
([kq35x3,kp35 (5)],(.int .u64 (4095))),
([kq35x3,kp35 (6)],(.int .u64 (4095))),
([kq35x3,kp35 (7)],(.int .u64 (4095)))]
theorem k20R373p1_ok : allTrue (kIs [] [] 100000 373) k20R373p1 = true := by decide +kernel
def k20R395p0 : List (List AV × AV) := [
([.agg [ke35,kz35,.vs [[kp35 (1),ko35]] none],.int .u64 (4095)],(.bool true)),
([kq35x28,.int .u64 (4095)],(.bool true)),
([kq35x24,.int .u64 (4095)],(.bool true)),
([.agg [ke35,.str [51],.vs [[kp35 (4),ko35]] none],.int .u64 (4095)],(.bool true)),
([.agg [ke35,.str [52],.vs [[kp35 (5),ko35]] none],.int .u64 (4095)],(.bool true)),
([.agg [ke35,.str [53],.vs [[kp35 (6),ko35]] none],.int .u64 (4095)],(.bool true)),
([.agg [ke35,.str [54],.vs [[kp35 (7),ko35]] none],.int .u64 (4095)],(.bool true)),
([.agg [ke35,.str [55],.vs [[kp35 (8),ko35]] none],.int .u64 (4095)],(.bool true)),
([.agg [ke35,.str [56],.vs [[kp35 (9),ko35]] none],.int .u64 (4095)],(.bool true)),
([.agg [ke35,.str [57],.vs [[kp35 (10),ko35]] none],.int .u64 (4095)],(.bool true)),
([.agg [ke35,.str [49,48],.vs [[kp35 (11),ko35]] none],.int .u64 (4095)],(.bool true)),
([.agg [ke35,.str [49,49],.vs [[kp35 (0),ko35]] none],.int .u64 (4095)],(.bool true)),
([.agg [ke35,.str [51],.vs [[kp35 (1),ko35]] none],.int .u64 (15)],(.bool true)),
([.agg [ke35,ko35,.vs [[kp35 (1),ko35]] none],.int .u64 (15)],(.bool true)),
([kq35x24,.int .u64 (15)],(.bool true)),
([kq35x26,.int .u64 (15)],(.bool true)),
([.agg [ke35,.str [51],.vs [[kp35 (1),ko35]] none],.int .u64 (1)],(.bool false)),
([.agg [ke35,ko35,.vs [[kp35 (1),ko35]] none],.int .u64 (2)],(.bool true)),
([kq35x24,.int .u64 (12)],(.bool true)),
([kq35x26,.int .u64 (12)],(.bool true)),
([kq35x27,.int .u64 (15)],(.bool true)),
([kq35x24,.int .u64 (4)],(.bool false)),
([kq35x27,.int .u64 (8)],(.bool false)),
([kq35x26,.int .u64 (13)],(.bool true)),
([kq35x24,.int .u64 (13)],(.bool true)),
([kq35x27,.int .u64 (13)],(.bool false)),
([kq35x26,.int .u64 (5)],(.bool true)),
([kq35x24,.int .u64 (5)],(.bool false)),
([kq35x26,.int .u64 (1)],(.bool false)),
([.agg [ke35,.str [55],.vs [[kp35 (1),kh35],[kp35 (3),kh35]] none],.int .u64 (31)],(.bool true)),
([kq35x28,.int .u64 (31)],(.bool true)),
([.agg [ke35,.str [50],.vs [[kp35 (1),.str [49,47,51]],[kp35 (2),.str [50,47,51]]] none],.int .u64 (31)],(.bool true)),
([.agg [ke35,kh35,.vs [[kp35 (3),ko35]] none],.int .u64 (31)],(.bool true)),
([.agg [ke35,.str [49,48,48],.vs [[kp35 (0),.str [49,47,49,48]],[kp35 (4),.str [57,47,49,48]]] none],.int .u64 (31)],(.bool true)),
([.agg [ke35,.str [55],.vs [[kp35 (1),kh35],[kp35 (3),kh35]] none],.int .u64 (1)],(.bool false)),
([kq35x28,.int .u64 (6)],(.bool true)),
([.agg [ke35,.str [50],.vs [[kp35 (1),.str [49,47,51]],[kp35 (2),.str [50,47,51]]] none],.int .u64 (6)],(.bool true)),
([.agg [ke35,kh35,.vs [[kp35 (3),ko35]] none],.int .u64 (8)],(.bool true)),
([.agg [ke35,.str [49,48,48],.vs [[kp35 (0),.str [49,47,49,48]],[kp35 (4),.str [57,47,49,48]]] none],.int .u64 (16)],(.bool false)),
([.agg [ke35,.str [57],.vs [[kp35 (3),ko35]] none],.int .u64 (31)],(.bool true)),
([kq35x28,.int .u64 (2)],(.bool false)),
([.agg [ke35,.str [57],.vs [[kp35 (3),ko35]] none],.int .u64 (4)],(.bool false))]
theorem k20R395p0_ok : allTrue (kIs [] [] 100000 395) k20R395p0 = true := by decide +kernel
def k20R191p0 : List (List AV × AV) := [
([kz35],(kp35 (0))),
([ko35],(kp35 (0))),
([.str [50]],(kp35 (0))),
([.str [51]],(kp35 (0))),
([.str [52]],(kp35 (0))),
([.str [53]],(kp35 (0))),
([.str [54]],(kp35 (0))),
([.str [55]],(kp35 (0))),
([.str [56]],(kp35 (0))),
([.str [57]],(kp35 (0))),
([.str [49,48]],(kp35 (0))),
([.str [49,49]],(kp35 (0))),
([.str [45,49]],(kp35 (0))),
([.str [49,48,48]],(kp35 (0))),
([.str [52,55]],(kp35 (0))),
([.str [55,57,49]],(kp35 (0))),
([.str [49,54]],(kp35 (0))),
([.str [49,51]],(kp35 (0))),
([.str [49,55]],(kp35 (0))),
([.str [49,57,57]],(kp35 (0)))]
theorem k20R191p0_ok : allTrue (kIs [] [] 100000 191) k20R191p0 = true := by decide +kernel
def k20R79p0 : List (List AV × AV) := [
([kp35 (0),kp35 (1)],(.agg [.bool false,.nils,.bool false,.vs [[.int .u32 (1)]] none])),
([kp35 (1),kp35 (1)],(.agg [.bool false,.vs [[.int .u32 (1)]] none,.bool false,.vs [[.int .u32 (1)]] none]))]
theorem k20R79p0_ok : allTrue (kIs [] [] 100000 79) k20R79p0 = true := by decide +kernel
end
end Go.Abs

namespace Go.Abs
noncomputable section
open Go.Proofs
set_option maxRecDepth 1000000

def k20R373p3 : List (List AV × AV) := [
([kq35x25,kp35 (2)],(.int .u64 (15))),
([kq35x25,kp35 (3)],(.int .u64 (11))),
([kq35x15,kp35 (0)],(.int .u64 (1))),
([kq35x15,kp35 (1)],(.int .u64 (2))),
([kq35x15,kp35 (2)],(.int .u64 (4))),
([kq35x15,kp35 (3)],(.int .u64 (8))),
([kq35x16,kp35 (0)],(.int .u64 (1))),
([kq35x16,kp35 (1)],(.int .u64 (2))),
([kq35x16,kp35 (2)],(.int .u64 (4))),
([kq35x16,kp35 (3)],(.int .u64 (8))),
([kq35x17,kp35 (0)],(.int .u64 (15))),
([kq35x17,kp35 (1)],(.int .u64 (2))),
([kq35x17,kp35 (2)],(.int .u64 (15))),
([kq35x17,kp35 (3)],(.int .u64 (15))),
([kq35x18,kp35 (0)],(.int .u64 (1))),
([kq35x18,kp35 (1)],(.int .u64 (2))),
([kq35x18,kp35 (2)],(.int .u64 (4))),
([kq35x18,kp35 (3)],(.int .u64 (8))),
([kq35x19,kp35 (0)],(.int .u64 (1))),
([kq35x19,kp35 (1)],(.int .u64 (2))),
([kq35x19,kp35 (2)],(.int .u64 (4))),
([kq35x19,kp35 (3)],(.int .u64 (8))),
([kq35x20,kp35 (0)],(.int .u64 (13))),
([kq35x20,kp35 (1)],(.int .u64 (2))),
([kq35x20,kp35 (2)],(.int .u64 (12))),
([kq35x20,kp35 (3)],(.int .u64 (12))),
([kq35x21,kp35 (0)],(.int .u64 (1))),
([kq35x21,kp35 (1)],(.int .u64 (2))),
([kq35x21,kp35 (2)],(.int .u64 (4))),
([kq35x21,kp35 (3)],(.int .u64 (8))),
([kq35x22,kp35 (0)],(.int .u64 (1))),
([kq35x22,kp35 (1)],(.int .u64 (2))),
([kq35x22,kp35 (2)],(.int .u64 (4))),
([kq35x22,kp35 (3)],(.int .u64 (8))),
([kq35x23,kp35 (0)],(.int .u64 (1))),
([kq35x23,kp35 (1)],(.int .u64 (2))),
([kq35x23,kp35 (2)],(.int .u64 (12))),
([kq35x23,kp35 (3)],(.int .u64 (12))),
([kq35x8,kp35 (0)],(.int .u64 (15))),
([kq35x8,kp35 (1)],(.int .u64 (6))),
([kq35x8,kp35 (2)],(.int .u64 (6))),
([kq35x8,kp35 (3)],(.int .u64 (8))),
([kq35x8,kp35 (4)],(.int .u64 (31))),
([kq35x9,kp35 (0)],(.int .u64 (1))),
([kq35x9,kp35 (1)],(.int .u64 (2))),
([kq35x9,kp35 (2)],(.int .u64 (4))),
([kq35x9,kp35 (3)],(.int .u64 (8))),
([kq35x9,kp35 (4)],(.int .u64 (16))),
([kq35x10,kp35 (0)],(.int .u64 (1))),
([kq35x10,kp35 (1)],(.int .u64 (6))),
([kq35x10,kp35 (2)],(.int .u64 (6))),
([kq35x10,kp35 (3)],(.int .u64 (8))),
([kq35x10,kp35 (4)],(.int .u64 (16))),
([kq35x11,kp35 (0)],(.int .u64 (1))),
([kq35x11,kp35 (1)],(.int .u64 (2))),
([kq35x11,kp35 (2)],(.int .u64 (4))),
([kq35x11,kp35 (3)],(.int .u64 (8))),
([kq35x11,kp35 (4)],(.int .u64 (16))),
([kq35x12,kp35 (0)],(.int .u64 (15))),
([kq35x12,kp35 (1)],(.int .u64 (14))),
([kq35x12,kp35 (2)],(.int .u64 (12))),
([kq35x12,kp35 (3)],(.int .u64 (8))),
([kq35x12,kp35 (4)],(.int .u64 (31))),
([kq35x13,kp35 (0)],(.int .u64 (1))),
([kq35x13,kp35 (1)],(.int .u64 (2))),
([kq35x13,kp35 (2)],(.int .u64 (4))),
([kq35x13,kp35 (3)],(.int .u64 (8))),
([kq35x13,kp35 (4)],(.int .u64 (16))),
([kq35x14,kp35 (0)],(.int .u64 (1))),
([kq35x14,kp35 (1)],(.int .u64 (2))),
([kq35x14,kp35 (2)],(.int .u64 (4))),
([kq35x14,kp35 (3)],(.int .u64 (8))),
([kq35x14,kp35 (4)],(.int .u64 (16)))]
theorem k20R373p3_ok : allTrue (kIs [] [] 100000 373) k20R373p3 = true := by decide +kernel
def k20R26p0 : List (List AV × AV) := [
([kp35 (0),kp35 (1)],kz35),
([kp35 (1),kp35 (1)],ko35),
([kp35 (2),kp35 (1)],(.str [50])),
([kp35 (3),kp35 (1)],(.str [51])),
([kp35 (4),kp35 (1)],(.str [52])),
([kp35 (5),kp35 (1)],(.str [53])),
([kp35 (6),kp35 (1)],(.str [54])),
([kp35 (7),kp35 (1)],(.str [55])),
([kp35 (8),kp35 (1)],(.str [56])),
([kp35 (9),kp35 (1)],(.str [57])),
([kp35 (10),kp35 (1)],(.str [49,48])),
([kp35 (11),kp35 (1)],(.str [49,49]))]
theorem k20R26p0_ok : allTrue (kIs [] [] 100000 26) k20R26p0 = true := by decide +kernel
end
end Go.Abs
