/-
  Steps to a law of this program: SKn3.
  Conditions: none.
-/
import Derived.Test.YtffhpdhdncapiaaGreatDoorB33
import Derived.Test.YtffhpdhdncapiaaGreatDoorB22
set_option linter.unusedVariables false
set_option linter.unusedSimpArgs false
set_option linter.unusedSectionVars false
namespace Go.Abs
noncomputable section
open Go.Proofs

section
variable (T : List (FuncId × List (List AV × AV))) (hl : List Nat) (CF : List (FuncId × List CFact))
noncomputable def cCall (f : FuncId) (x : CFact) : Bool := callToIs (tiOf Tryz.prog) (funOf Tryz.prog) (kM T) CF (drawX (tiOf Tryz.prog) (kM T) (hdOf hl)) 100000 f x
noncomputable def cRow (f : FuncId) (args : List AV) (r : AV) : Bool := rowIsX (tiOf Tryz.prog) (funOf Tryz.prog) (kM T) CF (drawX (tiOf Tryz.prog) (kM T) (hdOf hl)) 100000 f args r
noncomputable def cHead (f : FuncId) (p : List Dir) (args : List AV) (h : HLit) (ts' : List AV) (h' : HLit) : Bool := headIs (tiOf Tryz.prog) (funOf Tryz.prog) (kM T) CF (drawX (tiOf Tryz.prog) (kM T) (hdOf hl)) 100000 f p args h ts' h'
noncomputable def cMid (f : FuncId) (p : List Dir) (k : Nat) (ts : List AV) (h : HLit) (ts' : List AV) (h' : HLit) : Bool := midIs (tiOf Tryz.prog) (funOf Tryz.prog) (kM T) CF (drawX (tiOf Tryz.prog) (kM T) (hdOf hl)) 100000 f p k ts h ts' h'
noncomputable def cLast (f : FuncId) (p : List Dir) (ts : List AV) (h : HLit) (r : AV) (h' : HLit) : Bool := lastIs (tiOf Tryz.prog) (funOf Tryz.prog) (kM T) CF (drawX (tiOf Tryz.prog) (kM T) (hdOf hl)) 100000 f p ts h r h'
def cRest (f : FuncId) (p : List Dir) (ts : List AV) (h : HLit) (K : AV → Heap → Prop) : Prop := RestSem Tryz.prog (tiOf Tryz.prog) (funOf Tryz.prog) f p ts h K
variable {T hl CF}
theorem cCall_ok (h : TabHolds Tryz.prog T) (hC : FactsOK Tryz.prog CF) {f : FuncId} {x : CFact} (hx : cCall T hl CF f x = true) : x.Holds Tryz.prog f :=
  callToIs_ok _ _ _ _ _ (tiOf_ok Tryz.prog) seatBareOK (funOf_ok Tryz.prog) (kM_ok h) (drawX_ok (tiOf Tryz.prog) (kM T) (hdOf hl) (tiOf_ok Tryz.prog) seatBareOK (kM_ok h) (by decide +kernel)) hC hx
theorem cRow_ok (h : TabHolds Tryz.prog T) (hC : FactsOK Tryz.prog CF) {f : FuncId} {args : List AV} {r : AV} (hx : cRow T hl CF f args r = true) : KnownSem Tryz.prog f args r :=
  rowIsX_ok _ _ _ _ _ (tiOf_ok Tryz.prog) seatBareOK (funOf_ok Tryz.prog) (kM_ok h) (drawX_ok (tiOf Tryz.prog) (kM T) (hdOf hl) (tiOf_ok Tryz.prog) seatBareOK (kM_ok h) (by decide +kernel)) hC hx
theorem cHead_ok (h : TabHolds Tryz.prog T) (hC : FactsOK Tryz.prog CF) {f : FuncId} {p : List Dir} {args : List AV} {h0 : HLit} {ts' : List AV} {h' : HLit} (hx : cHead T hl CF f p args h0 ts' h' = true) {K : AV → Heap → Prop} (hk : cRest f p ts' h' K) : CallSem Tryz.prog f args h0.abs K :=
  headIs_ok _ _ _ _ _ (tiOf_ok Tryz.prog) seatBareOK (funOf_ok Tryz.prog) (kM_ok h) (drawX_ok (tiOf Tryz.prog) (kM T) (hdOf hl) (tiOf_ok Tryz.prog) seatBareOK (kM_ok h) (by decide +kernel)) hC hx hk
theorem cMid_ok (h : TabHolds Tryz.prog T) (hC : FactsOK Tryz.prog CF) {f : FuncId} {p : List Dir} {k : Nat} {ts : List AV} {h0 : HLit} {ts' : List AV} {h' : HLit} (hx : cMid T hl CF f p k ts h0 ts' h' = true) {K : AV → Heap → Prop} (hk : cRest f p ts' h' K) : cRest f p ts h0 K :=
  midIs_ok _ _ _ _ _ (tiOf_ok Tryz.prog) seatBareOK (funOf_ok Tryz.prog) (kM_ok h) (drawX_ok (tiOf Tryz.prog) (kM T) (hdOf hl) (tiOf_ok Tryz.prog) seatBareOK (kM_ok h) (by decide +kernel)) hC hx hk
theorem cLast_ok (h : TabHolds Tryz.prog T) (hC : FactsOK Tryz.prog CF) {f : FuncId} {p : List Dir} {ts : List AV} {h0 : HLit} {r : AV} {h' : HLit} (hx : cLast T hl CF f p ts h0 r h' = true) : ∃ h1, h'.abs.le h1 ∧ ∀ K : AV → Heap → Prop, K r h1 → cRest f p ts h0 K :=
  lastIs_ok _ _ _ _ _ (tiOf_ok Tryz.prog) seatBareOK (funOf_ok Tryz.prog) (kM_ok h) (drawX_ok (tiOf Tryz.prog) (kM T) (hdOf hl) (tiOf_ok Tryz.prog) seatBareOK (kM_ok h) (by decide +kernel)) hC hx
theorem tab_cons_sem {T' : List (FuncId × List (List AV × AV))} {f : FuncId} {rows : List (List AV × AV)} (hr : ∀ y ∈ rows, KnownSem Tryz.prog f y.1 y.2) (h' : TabHolds Tryz.prog T') : TabHolds Tryz.prog ((f, rows) :: T') := fun x hx => by
  rcases List.mem_cons.1 hx with rfl | hx
  · exact hr
  · exact h' x hx
theorem sem_all {T : List (FuncId × List (List AV × AV))} {hl : List Nat} {n : Nat} {f : FuncId} {rows : List (List AV × AV)} (h : TabHolds Tryz.prog T) (hr : allTrue (kIs T hl n f) rows = true) : ∀ y ∈ rows, KnownSem Tryz.prog f y.1 y.2 := fun y hy => kIs_ok h (allTrue_ok hr y hy)
theorem sem_one {f : FuncId} {args : List AV} {r : AV} (h : KnownSem Tryz.prog f args r) : ∀ y ∈ [(args, r)], KnownSem Tryz.prog f y.1 y.2 := fun y hy => by
  rw [List.mem_singleton] at hy; subst hy; exact h
theorem sem_app {f : FuncId} {l m : List (List AV × AV)} (h : ∀ y ∈ l, KnownSem Tryz.prog f y.1 y.2) (h' : ∀ y ∈ m, KnownSem Tryz.prog f y.1 y.2) : ∀ y ∈ l ++ m, KnownSem Tryz.prog f y.1 y.2 := fun y hy => by
  rcases List.mem_append.1 hy with hy | hy
  · exact h y hy
  · exact h' y hy
end
end
end Go.Abs
