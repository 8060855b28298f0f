/-
  Steps to a law of this program: SK14L0P0, SK14J0, SK14L1P0, SK14J1, SK14L2P0, SK14J2.
  Conditions: none.
-/
import Derived.Test.YtpdnijifmebnbaaGreatDoorB24
set_option linter.unusedVariables false
set_option linter.unusedSimpArgs false
set_option linter.unusedSectionVars false
namespace Go.Abs
noncomputable section
open Go.Proofs
set_option maxRecDepth 1000000
def vbj:List (List AV × AV):=[
 ([(.str [48])],(.tup [(.int .i64 (0)),(.int .i64 (1)),(.bool true)])),
 ([(.str [49])],(.tup [(.int .i64 (1)),(.int .i64 (1)),(.bool true)])),
 ([(.str [49,47,50])],(.tup [(.int .i64 (1)),(.int .i64 (2)),(.bool true)]))]
theorem wb1:wj (kIs [] [] 100000 101) vbj=true:=by decide +kernel
end
end Go.Abs

namespace Go.Abs
noncomputable section
open Go.Proofs
def zaN:List (FuncId × List (List AV × AV)):=(101,vbj) :: []
theorem qbi:xB Tryz.prog zaN:=(jU vaA wb1 vaA)
end
end Go.Abs

namespace Go.Abs
noncomputable section
open Go.Proofs
set_option maxRecDepth 1000000
def zbj:List (List AV × AV):=[
 ([(.agg [(.vs [[(.int .i64 (0))],[(.int .i64 (1))],[(.int .i64 (0))],[(.int .i64 (0))]] (some 4)),(.vs [[(.vs [[(.str []),(.str [48]),(.vs [[(.int .i64 (1)),(.str [49])]] (some 1))],[(.str []),(.str [48]),(.vs [[(.int .i64 (0)),(.str [49,47,50])],[(.int .i64 (2)),(.str [49,47,50])]] (some 2))]] (some 2))],[(.vs [[(.str []),(.str [48]),(.vs [[(.int .i64 (0)),(.str [49])]] (some 1))],[(.str []),(.str [48]),(.vs [[(.int .i64 (3)),(.str [49])]] (some 1))]] (some 2))],[(.vs [[(.str []),(.str [48]),(.vs [[(.int .i64 (2)),(.str [49])]] (some 1))]] (some 1))],[(.vs [[(.str []),(.str [48]),(.vs [[(.int .i64 (3)),(.str [49])]] (some 1))]] (some 1))]] (some 4))])],(.int .i64 (0)))]
theorem gb0:wj (kIs zaN [] 100000 39) zbj=true:=by decide +kernel
end
end Go.Abs

namespace Go.Abs
noncomputable section
open Go.Proofs
def gaM:List (FuncId × List (List AV × AV)):=(39,zbj) :: zaN
theorem jbi:xB Tryz.prog gaM:=(jU qbi gb0 qbi)
end
end Go.Abs

namespace Go.Abs
noncomputable section
open Go.Proofs
set_option maxRecDepth 1000000
def ybj:List (List AV × AV):=[
 ([(.agg [(.vs [[(.int .i64 (0))],[(.int .i64 (1))],[(.int .i64 (0))],[(.int .i64 (0))]] (some 4)),(.vs [[(.vs [[(.str []),(.str [48]),(.vs [[(.int .i64 (1)),(.str [49])]] (some 1))],[(.str []),(.str [48]),(.vs [[(.int .i64 (0)),(.str [49,47,50])],[(.int .i64 (2)),(.str [49,47,50])]] (some 2))]] (some 2))],[(.vs [[(.str []),(.str [48]),(.vs [[(.int .i64 (0)),(.str [49])]] (some 1))],[(.str []),(.str [48]),(.vs [[(.int .i64 (3)),(.str [49])]] (some 1))]] (some 2))],[(.vs [[(.str []),(.str [48]),(.vs [[(.int .i64 (2)),(.str [49])]] (some 1))]] (some 1))],[(.vs [[(.str []),(.str [48]),(.vs [[(.int .i64 (3)),(.str [49])]] (some 1))]] (some 1))]] (some 4))]),(.int .u64 (16)),(.int .i64 (0))],(.int .i64 (2))),
 ([(.agg [(.vs [[(.int .i64 (0))],[(.int .i64 (1))],[(.int .i64 (0))],[(.int .i64 (0))]] (some 4)),(.vs [[(.vs [[(.str []),(.str [48]),(.vs [[(.int .i64 (1)),(.str [49])]] (some 1))],[(.str []),(.str [48]),(.vs [[(.int .i64 (0)),(.str [49,47,50])],[(.int .i64 (2)),(.str [49,47,50])]] (some 2))]] (some 2))],[(.vs [[(.str []),(.str [48]),(.vs [[(.int .i64 (0)),(.str [49])]] (some 1))],[(.str []),(.str [48]),(.vs [[(.int .i64 (3)),(.str [49])]] (some 1))]] (some 2))],[(.vs [[(.str []),(.str [48]),(.vs [[(.int .i64 (2)),(.str [49])]] (some 1))]] (some 1))],[(.vs [[(.str []),(.str [48]),(.vs [[(.int .i64 (3)),(.str [49])]] (some 1))]] (some 1))]] (some 4))]),(.int .u64 (4)),(.int .i64 (2))],(.int .i64 (2))),
 ([(.agg [(.vs [[(.int .i64 (0))],[(.int .i64 (1))],[(.int .i64 (0))],[(.int .i64 (0))]] (some 4)),(.vs [[(.vs [[(.str []),(.str [48]),(.vs [[(.int .i64 (1)),(.str [49])]] (some 1))],[(.str []),(.str [48]),(.vs [[(.int .i64 (0)),(.str [49,47,50])],[(.int .i64 (2)),(.str [49,47,50])]] (some 2))]] (some 2))],[(.vs [[(.str []),(.str [48]),(.vs [[(.int .i64 (0)),(.str [49])]] (some 1))],[(.str []),(.str [48]),(.vs [[(.int .i64 (3)),(.str [49])]] (some 1))]] (some 2))],[(.vs [[(.str []),(.str [48]),(.vs [[(.int .i64 (2)),(.str [49])]] (some 1))]] (some 1))],[(.vs [[(.str []),(.str [48]),(.vs [[(.int .i64 (3)),(.str [49])]] (some 1))]] (some 1))]] (some 4))]),(.int .u64 (4)),(.int .i64 (0))],(.int .i64 (0))),
 ([(.agg [(.vs [[(.int .i64 (0))],[(.int .i64 (1))],[(.int .i64 (0))],[(.int .i64 (0))]] (some 4)),(.vs [[(.vs [[(.str []),(.str [48]),(.vs [[(.int .i64 (1)),(.str [49])]] (some 1))],[(.str []),(.str [48]),(.vs [[(.int .i64 (0)),(.str [49,47,50])],[(.int .i64 (2)),(.str [49,47,50])]] (some 2))]] (some 2))],[(.vs [[(.str []),(.str [48]),(.vs [[(.int .i64 (0)),(.str [49])]] (some 1))],[(.str []),(.str [48]),(.vs [[(.int .i64 (3)),(.str [49])]] (some 1))]] (some 2))],[(.vs [[(.str []),(.str [48]),(.vs [[(.int .i64 (2)),(.str [49])]] (some 1))]] (some 1))],[(.vs [[(.str []),(.str [48]),(.vs [[(.int .i64 (3)),(.str [49])]] (some 1))]] (some 1))]] (some 4))]),(.int .u64 (4)),(.int .i64 (1))],(.int .i64 (0))),
 ([(.agg [(.vs [[(.int .i64 (0))],[(.int .i64 (1))],[(.int .i64 (0))],[(.int .i64 (0))]] (some 4)),(.vs [[(.vs [[(.str []),(.str [48]),(.vs [[(.int .i64 (1)),(.str [49])]] (some 1))],[(.str []),(.str [48]),(.vs [[(.int .i64 (0)),(.str [49,47,50])],[(.int .i64 (2)),(.str [49,47,50])]] (some 2))]] (some 2))],[(.vs [[(.str []),(.str [48]),(.vs [[(.int .i64 (0)),(.str [49])]] (some 1))],[(.str []),(.str [48]),(.vs [[(.int .i64 (3)),(.str [49])]] (some 1))]] (some 2))],[(.vs [[(.str []),(.str [48]),(.vs [[(.int .i64 (2)),(.str [49])]] (some 1))]] (some 1))],[(.vs [[(.str []),(.str [48]),(.vs [[(.int .i64 (3)),(.str [49])]] (some 1))]] (some 1))]] (some 4))]),(.int .u64 (8)),(.int .i64 (0))],(.int .i64 (0))),
 ([(.agg [(.vs [[(.int .i64 (0))],[(.int .i64 (1))],[(.int .i64 (0))],[(.int .i64 (0))]] (some 4)),(.vs [[(.vs [[(.str []),(.str [48]),(.vs [[(.int .i64 (1)),(.str [49])]] (some 1))],[(.str []),(.str [48]),(.vs [[(.int .i64 (0)),(.str [49,47,50])],[(.int .i64 (2)),(.str [49,47,50])]] (some 2))]] (some 2))],[(.vs [[(.str []),(.str [48]),(.vs [[(.int .i64 (0)),(.str [49])]] (some 1))],[(.str []),(.str [48]),(.vs [[(.int .i64 (3)),(.str [49])]] (some 1))]] (some 2))],[(.vs [[(.str []),(.str [48]),(.vs [[(.int .i64 (2)),(.str [49])]] (some 1))]] (some 1))],[(.vs [[(.str []),(.str [48]),(.vs [[(.int .i64 (3)),(.str [49])]] (some 1))]] (some 1))]] (some 4))]),(.int .u64 (8)),(.int .i64 (1))],(.int .i64 (0))),
 ([(.agg [(.vs [[(.int .i64 (0))],[(.int .i64 (1))],[(.int .i64 (0))],[(.int .i64 (0))]] (some 4)),(.vs [[(.vs [[(.str []),(.str [48]),(.vs [[(.int .i64 (1)),(.str [49])]] (some 1))],[(.str []),(.str [48]),(.vs [[(.int .i64 (0)),(.str [49,47,50])],[(.int .i64 (2)),(.str [49,47,50])]] (some 2))]] (some 2))],[(.vs [[(.str []),(.str [48]),(.vs [[(.int .i64 (0)),(.str [49])]] (some 1))],[(.str []),(.str [48]),(.vs [[(.int .i64 (3)),(.str [49])]] (some 1))]] (some 2))],[(.vs [[(.str []),(.str [48]),(.vs [[(.int .i64 (2)),(.str [49])]] (some 1))]] (some 1))],[(.vs [[(.str []),(.str [48]),(.vs [[(.int .i64 (3)),(.str [49])]] (some 1))]] (some 1))]] (some 4))]),(.int .u64 (0)),(.int .i64 (0))],(.int .i64 (0))),
 ([(.agg [(.vs [[(.int .i64 (0))],[(.int .i64 (1))],[(.int .i64 (0))],[(.int .i64 (0))]] (some 4)),(.vs [[(.vs [[(.str []),(.str [48]),(.vs [[(.int .i64 (1)),(.str [49])]] (some 1))],[(.str []),(.str [48]),(.vs [[(.int .i64 (0)),(.str [49,47,50])],[(.int .i64 (2)),(.str [49,47,50])]] (some 2))]] (some 2))],[(.vs [[(.str []),(.str [48]),(.vs [[(.int .i64 (0)),(.str [49])]] (some 1))],[(.str []),(.str [48]),(.vs [[(.int .i64 (3)),(.str [49])]] (some 1))]] (some 2))],[(.vs [[(.str []),(.str [48]),(.vs [[(.int .i64 (2)),(.str [49])]] (some 1))]] (some 1))],[(.vs [[(.str []),(.str [48]),(.vs [[(.int .i64 (3)),(.str [49])]] (some 1))]] (some 1))]] (some 4))]),(.int .u64 (0)),(.int .i64 (1))],(.int .i64 (0))),
 ([(.agg [(.vs [[(.int .i64 (0))],[(.int .i64 (1))],[(.int .i64 (0))],[(.int .i64 (0))]] (some 4)),(.vs [[(.vs [[(.str []),(.str [48]),(.vs [[(.int .i64 (1)),(.str [49])]] (some 1))],[(.str []),(.str [48]),(.vs [[(.int .i64 (0)),(.str [49,47,50])],[(.int .i64 (2)),(.str [49,47,50])]] (some 2))]] (some 2))],[(.vs [[(.str []),(.str [48]),(.vs [[(.int .i64 (0)),(.str [49])]] (some 1))],[(.str []),(.str [48]),(.vs [[(.int .i64 (3)),(.str [49])]] (some 1))]] (some 2))],[(.vs [[(.str []),(.str [48]),(.vs [[(.int .i64 (2)),(.str [49])]] (some 1))]] (some 1))],[(.vs [[(.str []),(.str [48]),(.vs [[(.int .i64 (3)),(.str [49])]] (some 1))]] (some 1))]] (some 4))]),(.int .u64 (15)),(.int .i64 (1))],(.int .i64 (0))),
 ([(.agg [(.vs [[(.int .i64 (0))],[(.int .i64 (1))],[(.int .i64 (0))],[(.int .i64 (0))]] (some 4)),(.vs [[(.vs [[(.str []),(.str [48]),(.vs [[(.int .i64 (1)),(.str [49])]] (some 1))],[(.str []),(.str [48]),(.vs [[(.int .i64 (0)),(.str [49,47,50])],[(.int .i64 (2)),(.str [49,47,50])]] (some 2))]] (some 2))],[(.vs [[(.str []),(.str [48]),(.vs [[(.int .i64 (0)),(.str [49])]] (some 1))],[(.str []),(.str [48]),(.vs [[(.int .i64 (3)),(.str [49])]] (some 1))]] (some 2))],[(.vs [[(.str []),(.str [48]),(.vs [[(.int .i64 (2)),(.str [49])]] (some 1))]] (some 1))],[(.vs [[(.str []),(.str [48]),(.vs [[(.int .i64 (3)),(.str [49])]] (some 1))]] (some 1))]] (some 4))]),(.int .u64 (15)),(.int .i64 (0))],(.int .i64 (0)))]
theorem zb1:wj (kIs gaM [] 100000 22) ybj=true:=by decide +kernel
end
end Go.Abs

namespace Go.Abs
noncomputable section
open Go.Proofs
def xar:List (FuncId × List (List AV × AV)):=(22,ybj) :: gaM
theorem qaM:xB Tryz.prog xar:=(jU jbi zb1 jbi)
end
end Go.Abs
