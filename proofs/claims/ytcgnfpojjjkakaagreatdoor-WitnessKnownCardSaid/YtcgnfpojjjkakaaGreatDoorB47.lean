/-
  Steps to a law of this program: SK29Lift.
  Conditions: none.
-/
import Derived.Test.YtcgnfpojjjkakaaGreatDoorB46
import Derived.Test.YtcgnfpojjjkakaaGreatDoorB25
import Derived.ProofKit
import Derived.Test.YtcgnfpojjjkakaaGreatDoorTie
import Derived.Test.YtcgnfpojjjkakaaGreatDoorChecked
import Derived.LaidMore
import Derived.Stop.Joined
import Derived.LaidByTextLater
import Derived.SevenTiedAt
set_option linter.unusedVariables false
set_option linter.unusedSimpArgs false
set_option linter.unusedSectionVars false
namespace Go.Abs
open Go.Proofs
theorem witnessKnown_calls (W : World) (hg : GlobOK (penv fun _ => False) W) : Calls Tryz.prog 4 #[] W fun e W' => e = .returned (.bool true) ∧ RowKit.Below W.heap.size W W' := fun cs => by
  obtain ⟨v, w', fr, h1, h2, h3, h4, h5⟩ := witnessKnown_pure.run (fun _ => False) W #[] (fun _ h => h.elim) hg ⟨rfl, fun i hi => by simp at hi⟩ cs
  cases h1
  exact ⟨_, w', fr, ⟨rfl, ⟨h2.os, h2.tape, h2.output, h2.size, h2.same⟩⟩, h3, h4, h5⟩
end Go.Abs
namespace Go.Proofs.YtcgnfpojjjkakaaGreatDoor
open Go.ChangeShapes Go.WideShapes Go.ChangeAt Go.RowKit
set_option maxRecDepth 100000

theorem own : ownKnob Tryz.prog.godebug = none := by kernel_rfl
theorem gDeb : Tryz.prog.globalNamed "math/bits.deBruijn64tab" = some 4 := by kernel_rfl
theorem gPow : Tryz.prog.globalNamed "internal/strconv.uint64pow10" = some 3 := by kernel_rfl

theorem door_met (os : Os) (args : Array Value) : laidMetH Tryz.prog Rows.witnessKnownRow.laid ((World.doorLaid Tryz.prog 400 os).forCall (fun _ _ => 0) ⟨#[], args, []⟩).memory :=
  laidMetH_of_parts3 (fuel := 8) (laidMet_of_run' 8 (by kernel_rfl) (by kernel_rfl)) (by kernel_rfl) (by kernel_rfl)

theorem tab_of_laid {W : World} (h : laidMetH Tryz.prog Rows.witnessKnownRow.laid W) : Lib.TabIs Tryz.prog W "internal/strconv.uint64pow10" .u64 Lib.pow10Tab := by
  rw [MakeChecks.laidMetH_plain _ _ _ (by kernel_rfl)] at h
  obtain ⟨ps, ⟨_, _, _, _, _, _, _, _, _, _, ⟨_, _, _, _, _, _, _, _, _, _, ⟨g, t, cs, fuel, p, q, hg, ht, hv, hd, _⟩, _⟩, _⟩, _⟩ := h
  obtain rfl := Option.some.inj (gPow.symm.trans hg)
  obtain rfl := Option.some.inj ((show (Tryz.prog.globals[3]?).map (·.type) = some 357 by kernel_rfl).symm.trans ht)
  have hd' : DataW.trod (fun _ => ()) Tryz.prog W 0 (fun _ => true) false fuel 357 cs.toList = some (Lib.tabData .u64 Lib.pow10Tab, p) := hd
  unfold Lib.TabIs
  rw [hv, ← Lib.cells_of_tab Tryz.underlying357 Tryz.underlying58 (by kernel_rfl) (by kernel_rfl) hd']

theorem deb_of_laid {W : World} (h : laidMetH Tryz.prog Rows.witnessKnownRow.laid W) : Lib.TabIs Tryz.prog W "math/bits.deBruijn64tab" .u8 Abs.debTab := by
  rw [MakeChecks.laidMetH_plain _ _ _ (by kernel_rfl)] at h
  obtain ⟨ps, ⟨_, _, _, _, _, _, _, _, _, _, ⟨g, t, cs, fuel, p, q, hg, ht, hv, hd, _⟩, _⟩, _⟩ := h
  obtain rfl := Option.some.inj (gDeb.symm.trans hg)
  obtain rfl := Option.some.inj ((show (Tryz.prog.globals[4]?).map (·.type) = some 360 by kernel_rfl).symm.trans ht)
  have hd' : DataW.trod (fun _ => ()) Tryz.prog W 0 (fun _ => true) false fuel 360 cs.toList = some (Lib.tabData .u8 Abs.debTab, p) := hd
  unfold Lib.TabIs
  rw [hv, ← Lib.cells_of_tab Tryz.underlying360 Tryz.underlying5 (by kernel_rfl) (by kernel_rfl) hd']

theorem glob_tab {g : Nat} {nm : String} {k : IntKind} {l : List Int} {W : World} (hn : Tryz.prog.globalNamed nm = some g) (ht : Lib.TabIs Tryz.prog W nm k l) :
    ∃ arr el fr, W.heap[g]? = some (.cells arr el fr) ∧ arr = (l.map fun x => Value.int k x).toArray := by
  unfold Lib.TabIs World.var? at ht
  rw [hn] at ht
  simp only [Option.bind_some] at ht
  split at ht
  · rename_i cs el fr hc
    injection ht with ht
    exact ⟨_, el, fr, hc, ht⟩
  · cases ht
open Go.Abs in
theorem globs_of_laid {W : World} (h : laidMetH Tryz.prog Rows.witnessKnownRow.laid W) : GlobOK (penv fun _ => False) W where
  ok g row hr := by
    have one : ∀ (g : Nat) (k : IntKind) (l : List Int), (∃ arr el fr, W.heap[g]? = some (.cells arr el fr) ∧ arr = (l.map fun x => Value.int k x).toArray) → 0 < l.length →
        0 < (l.map (AV.int k)).length ∧ ¬ (penv fun _ => False).F g ∧ ¬ foot (penv fun _ => False) g ∧ (∀ x ∈ l.map (AV.int k), Pure x) ∧ ∃ arr el fr, W.heap[g]? = some (.cells arr el fr) ∧ arr.size = (l.map (AV.int k)).length ∧
          ∀ (i : Nat) (hi : i < (l.map (AV.int k)).length), ∃ v, arr[i]? = some v ∧ VR (penv (penv fun _ => False).F) W (l.map (AV.int k))[i] v := by
      rintro g k l ⟨arr, el, fr, hc, rfl⟩ hl
      refine ⟨by simpa using hl, fun h => h, foot_penv, fun x hx => ?_, _, el, fr, hc, by simp, fun i hi => ?_⟩
      · obtain ⟨z, _, rfl⟩ := List.mem_map.1 hx; exact .int _ _
      · have hi' : i < l.length := by simpa using hi
        refine ⟨.int k l[i], by simp [hi'], ?_⟩
        simp only [List.getElem_map]; exact .int _ _
    unfold Gl.gl seatGl at hr
    simp only at hr
    split at hr
    · rename_i e
      injection hr with hr; subst hr
      obtain rfl := Nat.eq_of_beq_eq_true e
      exact one _ _ _ (glob_tab gPow (tab_of_laid h)) (by decide)
    · split at hr
      · rename_i e
        injection hr with hr; subst hr
        obtain rfl := Nat.eq_of_beq_eq_true e
        exact one _ _ _ (glob_tab gDeb (deb_of_laid h)) (by decide)
      · cases hr

theorem lifted (os : Os) (started : os.Started) (H : Type) (enc : TypeId × Value → H) :
    ReturnsInHanded {} Tryz.checked os 4 .any (fun w args => (Rows.witnessKnownSpec.pre enc Tryz.prog Tryz.f4 [] false w args ∧ laidMetH Tryz.prog Rows.witnessKnownRow.laid w) ∧ sizedMet enc Tryz.prog Tryz.f4 (OpenSpec.ofChange Rows.witnessKnownSpec) false w args)
      (Rows.witnessKnownSpec.post enc Tryz.prog Tryz.f4 false true false false) := by
  refine returnsInHanded_of_change_and (C := Tryz.checked) (X := fun w _ => laidMetH Tryz.prog Rows.witnessKnownRow.laid w) (fun _ _ _ hh h => h.of_heap hh) own started (by kernel_rfl) Tryz.func4
    (ChangeSpec.witness_shaped (enc := enc) (C := Tryz.checked) (os := os) (X := fun w _ => laidMetH Tryz.prog Rows.witnessKnownRow.laid w) false (World.doorLaid Tryz.prog 400 os) #[] 8 rfl (World.shaped_of_RefB (by kernel_rfl) (by kernel_rfl)) (by kernel_rfl) (by kernel_rfl) (by kernel_rfl) (door_met os _)) ?_
  intro W base args ds gs before hval0 hW _ _ hL _
  have hW' := hW
  obtain ⟨p, q, hA0, hV, rfl, hfz, hnd⟩ := hW
  have hA : DataW.TrodAll enc Tryz.prog W 0 (fun _ => true) true Tryz.f4.params.toList args.toList ds p := hA0
  rw [Tryz.params4] at hA
  obtain ⟨rfl, rfl, rfl⟩ := trodAll_none hA
  obtain ⟨rfl, rfl⟩ := trodVars_none hV
  refine (Abs.witnessKnown_calls W (globs_of_laid hL)).mono fun e W' ⟨he, hb⟩ => ?_
  subst he
  refine ⟨_, rfl, _, _, _, [], [], [], hW', ?_, ?_, rfl, hb.frame _, fun h => by cases h⟩
  · exact trodAll_mk1 (shut_bool Tryz.underlying4 true)
  · exact trodAll_mk0

theorem witnessKnown_holds : Rows.WitnessKnownSaid :=
  OpenClaim.holds_of_wide 4 Tryz.f4 rfl rfl rfl rfl rfl rfl rfl ⟨rfl, rfl, rfl, rfl, rfl⟩ rfl rfl rfl rfl rfl name_met Tryz.func4 facts_met
    inst_met wrap_met
    (fun os started H enc _ => lifted os started H enc)
end Go.Proofs.YtcgnfpojjjkakaaGreatDoor
