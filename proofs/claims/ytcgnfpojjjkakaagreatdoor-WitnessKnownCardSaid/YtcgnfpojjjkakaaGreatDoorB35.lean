/-
  Steps to a law of this program: SK29L0P0, SK29J0.
  Conditions: none.
-/
import Derived.Test.YtcgnfpojjjkakaaGreatDoorB34
set_option linter.unusedVariables false
set_option linter.unusedSimpArgs false
set_option linter.unusedSectionVars false
namespace Go.Abs
noncomputable section
open Go.Proofs
abbrev kp35 (n : Int) : AV := .int .i64 n
abbrev ke35 : AV := .str []
abbrev kz35 : AV := .str [48]
abbrev ko35 : AV := .str [49]
abbrev kh35 : AV := .str [49, 47, 50]
abbrev kq35x0 : AV := .vs [[.int .u32 (1)]] none
abbrev kq35x1 : AV := .agg [.bool false,.vs [[.int .u32 (2)]] none,.bool false,.vs [[.int .u32 (3)]] none]
abbrev kq35x2 : AV := .agg [.bool false,kq35x0,.bool false,.vs [[.int .u32 (100)]] none]
abbrev kq35x3 : AV := .agg [.bool false,kq35x0,.bool false,.vs [[.int .u32 (2)]] none]
abbrev kq35x4 : AV := .agg [.bool false,kq35x0,.bool false,.vs [[.int .u32 (4)]] none]
abbrev kq35x5 : AV := .agg [.bool false,kq35x0,.bool false,.vs [[.int .u32 (3)]] none]
abbrev kq35x6 : AV := .agg [.bool false,.vs [[.int .u32 (99)]] none,.bool false,.vs [[.int .u32 (100)]] none]
abbrev kq35x7 : AV := .agg [.bool false,.vs [[.int .u32 (7)]] none,.bool false,.vs [[.int .u32 (16)]] none]
abbrev kq35x8 : AV := .agg [.bool false,.vs [[.int .u32 (9)]] none,.bool false,.vs [[.int .u32 (10)]] none]
abbrev kq35x9 : AV := .agg [.bool false,kq35x0,.bool false,.vs [[.int .u32 (10000)]] none]
abbrev kq35x10 : AV := .vs [[kp35 (0)],[kp35 (0)],[kp35 (1)]] (some 3)
abbrev kq35x11 : AV := .agg [.bool false,kq35x0,.bool false,.vs [[.int .u32 (50)]] none]
abbrev kq35x12 : AV := .agg [.bool false,kq35x0,.bool false,.vs [[.int .u32 (5)]] none]
abbrev kq35x13 : AV := .agg [.bool false,.vs [[.int .u32 (2)]] none,.bool false,kq35x0]
abbrev kq35x14 : AV := .agg [.bool true,kq35x0,.bool false,.vs [[.int .u32 (3)]] none]
abbrev kq35x15 : AV := .vs [[kp35 (0)],[kp35 (0)]] (some 2)
abbrev kq35x16 : AV := .agg [.bool false,kq35x0,.bool false,kq35x0]
abbrev kq35x17 : AV := .agg [.bool true,kq35x0,.bool false,kq35x0]
set_option maxRecDepth 1000000

def k29R28p0 : List (List AV × AV) := [
([kz35],(.agg [.bool false,.vs [] none,.bool false,kq35x0])),
([kh35],(kq35x3)),
([.str [49,47,52]],(kq35x4)),
([ko35],(kq35x16)),
([.str [49,47,53]],(kq35x12)),
([.str [55,47,49,54]],(kq35x7)),
([.str [45,49]],(kq35x17)),
([.str [50]],(kq35x13)),
([.str [49,47,49,48,48,48,48]],(kq35x9)),
([.str [57,57,47,49,48,48]],(kq35x6)),
([.str [49,47,49,48,48]],(kq35x2)),
([.str [50,47,51]],(kq35x1)),
([.str [49,47,53,48]],(kq35x11)),
([.str [49,47,51]],(kq35x5)),
([.str [57,47,49,48]],(kq35x8)),
([.str [45,49,47,51]],(kq35x14))]
theorem k29R28p0_ok : allTrue (kIs [] [40] 100000 28) k29R28p0 = true := by decide +kernel
def k29R110p0 : List (List AV × AV) := [
([.agg [.bool false,.vs [] none,.bool false,kq35x0],kp35 (2000)],(.bool true)),
([.agg [.bool false,.vs [] none,.bool false,kq35x0],kp35 (4)],(.bool true)),
([kq35x3,kp35 (2000)],(.bool true)),
([kq35x3,kp35 (4)],(.bool true)),
([kq35x4,kp35 (2000)],(.bool true)),
([kq35x4,kp35 (4)],(.bool true)),
([kq35x16,kp35 (2000)],(.bool true)),
([kq35x16,kp35 (4)],(.bool true)),
([kq35x12,kp35 (2000)],(.bool true)),
([kq35x12,kp35 (4)],(.bool true)),
([kq35x7,kp35 (2000)],(.bool true)),
([kq35x7,kp35 (4)],(.bool true)),
([kq35x17,kp35 (2000)],(.bool true)),
([kq35x17,kp35 (4)],(.bool true)),
([kq35x13,kp35 (2000)],(.bool true)),
([kq35x13,kp35 (4)],(.bool true)),
([kq35x9,kp35 (2000)],(.bool true)),
([kq35x9,kp35 (4)],(.bool false)),
([kq35x6,kp35 (2000)],(.bool true)),
([kq35x6,kp35 (4)],(.bool true)),
([kq35x2,kp35 (2000)],(.bool true)),
([kq35x2,kp35 (4)],(.bool true)),
([kq35x1,kp35 (2000)],(.bool true)),
([kq35x1,kp35 (4)],(.bool true)),
([kq35x11,kp35 (2000)],(.bool true)),
([kq35x11,kp35 (4)],(.bool true)),
([kq35x5,kp35 (2000)],(.bool true)),
([kq35x5,kp35 (4)],(.bool true)),
([kq35x8,kp35 (2000)],(.bool true)),
([kq35x8,kp35 (4)],(.bool true)),
([kq35x14,kp35 (2000)],(.bool true)),
([.agg [.bool false,.nils,.bool false,kq35x0],kp35 (2000)],(.bool true))]
theorem k29R110p0_ok : allTrue (kIs [] [40] 100000 110) k29R110p0 = true := by decide +kernel
def k29R148p0 : List (List AV × AV) := [
([kp35 (1),kp35 (1)],(kp35 (0))),
([kp35 (0),kp35 (1)],(kp35 (-1))),
([kp35 (3),kp35 (2)],(kp35 (1))),
([kp35 (0),kp35 (0)],(kp35 (0))),
([kp35 (4),kp35 (3)],(kp35 (1))),
([kp35 (5),kp35 (4)],(kp35 (1))),
([kp35 (6),kp35 (5)],(kp35 (1))),
([kp35 (7),kp35 (6)],(kp35 (1))),
([kp35 (8),kp35 (7)],(kp35 (1))),
([kp35 (9),kp35 (8)],(kp35 (1))),
([kp35 (10),kp35 (9)],(kp35 (1))),
([kp35 (11),kp35 (10)],(kp35 (1))),
([kp35 (12),kp35 (11)],(kp35 (1))),
([kp35 (13),kp35 (12)],(kp35 (1))),
([kp35 (14),kp35 (13)],(kp35 (1))),
([kp35 (15),kp35 (14)],(kp35 (1))),
([kp35 (16),kp35 (15)],(kp35 (1))),
([kp35 (17),kp35 (16)],(kp35 (1))),
([kp35 (18),kp35 (17)],(kp35 (1))),
([kp35 (19),kp35 (18)],(kp35 (1))),
([kp35 (20),kp35 (19)],(kp35 (1))),
([kp35 (21),kp35 (20)],(kp35 (1))),
([kp35 (22),kp35 (21)],(kp35 (1))),
([kp35 (23),kp35 (22)],(kp35 (1))),
([kp35 (24),kp35 (23)],(kp35 (1))),
([kp35 (25),kp35 (24)],(kp35 (1))),
([kp35 (26),kp35 (25)],(kp35 (1))),
([kp35 (27),kp35 (26)],(kp35 (1))),
([kp35 (28),kp35 (27)],(kp35 (1))),
([kp35 (29),kp35 (28)],(kp35 (1))),
([kp35 (30),kp35 (29)],(kp35 (1))),
([kp35 (31),kp35 (30)],(kp35 (1))),
([kp35 (32),kp35 (31)],(kp35 (1))),
([kp35 (33),kp35 (32)],(kp35 (1))),
([kp35 (34),kp35 (33)],(kp35 (1))),
([kp35 (35),kp35 (34)],(kp35 (1))),
([kp35 (36),kp35 (35)],(kp35 (1))),
([kp35 (37),kp35 (36)],(kp35 (1))),
([kp35 (38),kp35 (37)],(kp35 (1))),
([kp35 (39),kp35 (38)],(kp35 (1))),
([kp35 (40),kp35 (39)],(kp35 (1))),
([kp35 (41),kp35 (40)],(kp35 (1))),
([kp35 (42),kp35 (41)],(kp35 (1))),
([kp35 (43),kp35 (42)],(kp35 (1))),
([kp35 (44),kp35 (43)],(kp35 (1))),
([kp35 (45),kp35 (44)],(kp35 (1))),
([kp35 (46),kp35 (45)],(kp35 (1))),
([kp35 (47),kp35 (46)],(kp35 (1))),
([kp35 (48),kp35 (47)],(kp35 (1))),
([kp35 (49),kp35 (48)],(kp35 (1))),
([kp35 (50),kp35 (49)],(kp35 (1))),
([kp35 (51),kp35 (50)],(kp35 (1))),
([kp35 (52),kp35 (51)],(kp35 (1))),
([kp35 (53),kp35 (52)],(kp35 (1))),
([kp35 (54),kp35 (53)],(kp35 (1))),
([kp35 (55),kp35 (54)],(kp35 (1))),
([kp35 (56),kp35 (55)],(kp35 (1))),
([kp35 (57),kp35 (56)],(kp35 (1))),
([kp35 (58),kp35 (57)],(kp35 (1))),
([kp35 (59),kp35 (58)],(kp35 (1))),
([kp35 (60),kp35 (59)],(kp35 (1))),
([kp35 (61),kp35 (60)],(kp35 (1))),
([kp35 (62),kp35 (61)],(kp35 (1))),
([kp35 (63),kp35 (62)],(kp35 (1))),
([kp35 (1),kp35 (2)],(kp35 (-1))),
([kp35 (1),kp35 (3)],(kp35 (-1))),
([kp35 (3),kp35 (3)],(kp35 (0))),
([kp35 (2),kp35 (3)],(kp35 (-1)))]
theorem k29R148p0_ok : allTrue (kIs [] [40] 100000 148) k29R148p0 = true := by decide +kernel
def k29R22p0 : List (List AV × AV) := [
([.vs [[.vs [[kp35 (0)],[kp35 (1)]] none,.vs [[kp35 (0)]] (some 1)],[.vs [[kp35 (0)],[kp35 (0)],[kp35 (1)]] none,kq35x15]] none,kp35 (0),.vs [[.vs [[kp35 (0)],[kp35 (1)]] (some 2)],[kq35x10]] (some 2)],(.bool true)),
([.vs [[.vs [[kp35 (1)]] (some 1),.vs [] (some 0)]] none,kp35 (0),.vs [[.vs [[kp35 (1)]] (some 1)]] (some 1)],(.bool true)),
([.vs [[.vs [[kp35 (0)],[kp35 (1)]] none,.vs [[kp35 (0)]] (some 1)]] none,kp35 (0),.vs [[.vs [[kp35 (0)],[kp35 (1)]] (some 2)]] (some 1)],(.bool true)),
([.vs [[.vs [[kp35 (0)],[kp35 (1)]] none,.vs [[kp35 (0)]] (some 1)],[.vs [[kp35 (0)],[kp35 (0)],[kp35 (1)]] none,kq35x15],[.vs [[kp35 (0)],[kp35 (0)],[kp35 (0)],[kp35 (1)]] none,.vs [[kp35 (0)],[kp35 (0)],[kp35 (0)]] (some 3)],[.vs [[kp35 (0)],[kp35 (0)],[kp35 (0)],[kp35 (0)],[kp35 (1)]] none,.vs [[kp35 (0)],[kp35 (0)],[kp35 (0)],[kp35 (0)]] (some 4)]] none,kp35 (0),.vs [[.vs [[kp35 (0)],[kp35 (1)]] (some 2)],[kq35x10],[.vs [[kp35 (0)],[kp35 (0)],[kp35 (0)],[kp35 (1)]] (some 4)],[.vs [[kp35 (0)],[kp35 (0)],[kp35 (0)],[kp35 (0)],[kp35 (1)]] (some 5)]] (some 4)],(.bool true)),
([.vs [[.vs [[kp35 (0)],[kp35 (1)]] none,.vs [[kp35 (0)]] (some 1)],[.vs [[kp35 (0)],[kp35 (0)],[kp35 (1)]] none,kq35x15],[.vs [[kp35 (0)],[kp35 (0)],[kp35 (0)],[kp35 (1)]] none,.vs [[kp35 (0)],[kp35 (0)],[kp35 (0)]] (some 3)]] none,kp35 (0),.vs [[.vs [[kp35 (0)],[kp35 (1)]] (some 2)],[kq35x10],[.vs [[kp35 (0)],[kp35 (0)],[kp35 (0)],[kp35 (1)]] (some 4)]] (some 3)],(.bool true)),
([.vs [[.vs [[kp35 (0)],[kp35 (2)],[kp35 (4)]] none,kq35x15],[.vs [[kp35 (0)],[kp35 (3)],[kp35 (4)]] none,kq35x15],[.vs [[kp35 (0)],[kp35 (1)],[kp35 (2)],[kp35 (4)]] none,.vs [[kp35 (0)],[kp35 (0)],[kp35 (0)]] (some 3)]] none,kp35 (0),.vs [[.vs [[kp35 (0)],[kp35 (2)],[kp35 (4)]] (some 3)],[.vs [[kp35 (0)],[kp35 (3)],[kp35 (4)]] (some 3)],[.vs [[kp35 (0)],[kp35 (1)],[kp35 (2)],[kp35 (4)]] (some 4)]] (some 3)],(.bool true))]
theorem k29R22p0_ok : allTrue (kIs [] [40] 100000 22) k29R22p0 = true := by decide +kernel
def k29R107p0 : List (List AV × AV) := [
([kz35],(kp35 (0))),
([ko35],(kp35 (0))),
([.str [50]],(kp35 (0))),
([.str [52]],(kp35 (0))),
([.str [53]],(kp35 (0))),
([.str [55]],(kp35 (0))),
([.str [49,54]],(kp35 (0))),
([.str [120]],(kp35 (5))),
([.str [45,49]],(kp35 (0))),
([.str [49,48,48,48,48]],(kp35 (0))),
([.str [57,57]],(kp35 (0))),
([.str [49,48,48]],(kp35 (0))),
([.str [51]],(kp35 (0))),
([.str [53,48]],(kp35 (0))),
([.str [57]],(kp35 (0))),
([.str [49,48]],(kp35 (0)))]
theorem k29R107p0_ok : allTrue (kIs [] [40] 100000 107) k29R107p0 = true := by decide +kernel
def k29R215p0 : List (List AV × AV) := [
([kz35],(kp35 (0))),
([ko35],(kp35 (1))),
([.str [50]],(kp35 (2))),
([.str [52]],(kp35 (4))),
([.str [57,57]],(kp35 (99))),
([.str [49,48,48]],(kp35 (100))),
([.str [51]],(kp35 (3)))]
theorem k29R215p0_ok : allTrue (kIs [] [40] 100000 215) k29R215p0 = true := by decide +kernel
def k29R29p0 : List (List AV × AV) := [
([kq35x3],kh35),
([kq35x4],(.str [49,47,52])),
([kq35x2],(.str [49,47,49,48,48])),
([kq35x16],ko35),
([kq35x14],(.str [45,49,47,51])),
([.agg [.bool false,.nils,.bool false,kq35x0]],kz35),
([kq35x17],(.str [45,49])),
([kq35x5],(.str [49,47,51])),
([kq35x1],(.str [50,47,51]))]
theorem k29R29p0_ok : allTrue (kIs [] [40] 100000 29) k29R29p0 = true := by decide +kernel
def k29R152p0 : List (List AV × AV) := [
([.vs [[kp35 (1)],[kp35 (1)],[kp35 (-1)]] (some 3)],(kp35 (1))),
([.vs [[kp35 (0)],[kp35 (1)],[kp35 (-1)]] (some 3)],(kp35 (1))),
([.vs [[kp35 (0)],[kp35 (0)],[kp35 (-1)]] (some 3)],(kp35 (-1))),
([kq35x10],(kp35 (1)))]
theorem k29R152p0_ok : allTrue (kIs [] [40] 100000 152) k29R152p0 = true := by decide +kernel
def k29R53p0 : List (List AV × AV) := [
([kp35 (1)],(.vs [[ke35,kz35,.vs [[kp35 (1),ko35]] (some 1)]] (some 1))),
([kp35 (2)],(.vs [[ke35,kz35,.vs [[kp35 (2),ko35]] (some 1)]] (some 1)))]
theorem k29R53p0_ok : allTrue (kIs [] [40] 100000 53) k29R53p0 = true := by decide +kernel
end
end Go.Abs

namespace Go.Abs
noncomputable section
open Go.Proofs

def k29T0 : List (FuncId × List (List AV × AV)) := (22, k29R22p0) :: (28, k29R28p0) :: (29, k29R29p0) :: (53, k29R53p0) :: (107, k29R107p0) :: (110, k29R110p0) :: (148, k29R148p0) :: (152, k29R152p0) :: (215, k29R215p0) :: []
theorem k29T0_ok : TabHolds Tryz.prog k29T0 := (tab_cons tab_nil k29R22p0_ok (tab_cons tab_nil k29R28p0_ok (tab_cons tab_nil k29R29p0_ok (tab_cons tab_nil k29R53p0_ok (tab_cons tab_nil k29R107p0_ok (tab_cons tab_nil k29R110p0_ok (tab_cons tab_nil k29R148p0_ok (tab_cons tab_nil k29R152p0_ok (tab_cons tab_nil k29R215p0_ok tab_nil)))))))))
end
end Go.Abs
