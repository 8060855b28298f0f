/-
  Steps to a law of this program: SWnLift.
  Conditions: none.
-/
import Derived.Test.YtpdnijifmebnbaaGreatDoorB44
import Derived.Test.YtpdnijifmebnbaaGreatDoorB45
import Derived.Carry
import Derived.ChangeOld
import Derived.Test.YtpdnijifmebnbaaGreatDoorB21
import Derived.ProofKit
import Derived.Test.YtpdnijifmebnbaaGreatDoorTie
import Derived.Test.YtpdnijifmebnbaaGreatDoorChecked
import Derived.LaidMore
import Derived.Stop.Joined
import Derived.LaidByTextLater
import Derived.SevenTiedAt
set_option linter.unusedVariables false
set_option linter.unusedSimpArgs false
set_option linter.unusedSectionVars false
namespace Go.Abs
open Go.Proofs
theorem forceWins_calls {d:Dr} {pk:AV} {b:Nat} {pl:Bool} {v:Value} (hd:g8 d) (hp:PicksV d.picks pk) (hb:b < 65536) (W:World) (hg:GlobOK (qf fun _=>False) W) (hv:VR (qf fun _=>False) W (.agg (drV d pk)) v) :
  Calls Tryz.prog 5 #[v,.int .u16 ((b:Nat):Int),.bool pl] W fun e W'=>e=.returned (.bool true)∧RowKit.Below W.heap.size W W':=fun cs=>by
 obtain ⟨r,w',fr,h1,h2,h3,h4,h5⟩:=(gbA (pl:=pl) hd hp hb).run (fun _=>False) W #[v,.int .u16 ((b:Nat):Int),.bool pl] (fun _ h=>h.elim) hg ⟨rfl,fun i hi hj=>by
  match i,hi with
  | 0,_=>exact hv
  | 1,_=>exact .int _ _
  | 2,_=>exact .bool _⟩ cs
 cases h1
 exact ⟨_,w',fr,⟨rfl,⟨h2.os,h2.tape,h2.output,h2.size,h2.same⟩⟩,h3,h4,h5⟩
end Go.Abs
namespace Go.Proofs.YtpdnijifmebnbaaGreatDoor
open Go.ChangeShapes Go.WideShapes Go.ChangeAt Go.RowKit
set_option maxRecDepth 100000
theorem own:ownKnob Tryz.prog.godebug=none:=by kernel_rfl
theorem gPow:Tryz.prog.globalNamed "internal/strconv.uint64pow10" = some 0:=by kernel_rfl
theorem zca (os:Os) (args:Array Value):laidMetH Tryz.prog Rows.forceWinsRow.laid ((World.doorLaid Tryz.prog 400 os).forCall (fun _ _=>0) ⟨#[],args,[]⟩).memory :=
 laidMetH_of_parts3 (fuel:=8) (laidMet_of_run' 8 (by kernel_rfl) (by kernel_rfl)) (by kernel_rfl) (by kernel_rfl)
theorem ybE {W:World} (h:laidMetH Tryz.prog Rows.forceWinsRow.laid W):Lib.TabIs Tryz.prog W "internal/strconv.uint64pow10" .u64 Lib.pow10Tab:=by
 rw [MakeChecks.laidMetH_plain _ _ _ (by kernel_rfl)] at h
 obtain ⟨ps,⟨_,_,_,_,_,_,_,_,_,_,⟨_,_,_,_,_,_,_,_,_,_,⟨g,t,cs,fuel,p,q,hg,ht,hv,hd,_⟩,_⟩,_⟩,_⟩:=h
 obtain rfl:=Option.some.inj (gPow.symm.trans hg)
 obtain rfl:=Option.some.inj ((show (Tryz.prog.globals[0]?).map (·.type)=some 193 by kernel_rfl).symm.trans ht)
 have hd':DataW.trod (fun _=>()) Tryz.prog W 0 (fun _=>true) false fuel 193 cs.toList=some (Lib.tabData .u64 Lib.pow10Tab,p):=hd
 unfold Lib.TabIs
 rw [hv,← Lib.cells_of_tab Tryz.underlying193 Tryz.underlying28 (by kernel_rfl) (by kernel_rfl) hd']
open Go.Abs in
theorem ub5 {W:World} (h:laidMetH Tryz.prog Rows.forceWinsRow.laid W):GlobOK (qf fun _=>False) W where
 ok g row hr:=by
  have ht:=ybE h
  have hg:g=0∧row=Lib.pow10Tab.map (AV.int .u64):=by
   unfold Gl.gl seatGl at hr
   simp only at hr
   split at hr
   ·rename_i e
    injection hr with hr
    exact ⟨Nat.eq_of_beq_eq_true e,hr.symm⟩
   ·cases hr
  obtain ⟨rfl,rfl⟩:=hg
  unfold Lib.TabIs World.var? at ht
  rw [gPow] at ht
  simp only [Option.bind_some] at ht
  split at ht
  ·rename_i cs el fr hc
   injection ht with ht;subst ht
   refine ⟨by decide,fun h=>h,qZ,fun x hx => ?_,_,el,fr,hc,by simp,fun i hi => ?_⟩
   ·obtain ⟨z,_,rfl⟩:=List.mem_map.1 hx;exact .int _ _
   ·refine ⟨.int .u64 (Lib.pow10Tab[i]'(by simpa using hi)),?_,?_⟩
    ·have hi':i < Lib.pow10Tab.length:=by simpa using hi
     simp [hi']
    ·simp only [List.getElem_map];exact .int _ _
  ·cases ht
theorem ubZ:laidOutB Tryz.prog=true:=by kernel_rfl
theorem qbB {n:Int} (h:(Lit.int .u16 n).wf=true):∃ b:Nat,b < 65536∧n=((b:Nat):Int):=by
 simp only [Lit.wf,Bool.and_eq_true,decide_eq_true_eq] at h
 have h1:(0:Int)≤n:=h.1
 have h2:n≤65535:=h.2
 exact ⟨n.toNat,by omega,by omega⟩
theorem zbZ (os:Os) (started:os.Started) (H:Type) (enc:TypeId × Value→H) :
  ReturnsInHanded {} Tryz.checked os 5 .any (fun w args=>(Rows.forceWinsSpec.pre enc Tryz.prog Tryz.f5 [] false w args∧laidMetH Tryz.prog Rows.forceWinsRow.laid w)∧sizedMet enc Tryz.prog Tryz.f5 (OpenSpec.ofChange Rows.forceWinsSpec) false w args)
   (Rows.forceWinsSpec.post enc Tryz.prog Tryz.f5 false true false false):=by
 refine returnsInHanded_of_change_and (C:=Tryz.checked) (X:=fun w _=>laidMetH Tryz.prog Rows.forceWinsRow.laid w) (fun _ _ _ hh h=>h.of_heap hh) own started (by kernel_rfl) Tryz.func5
  (ChangeSpec.witness_shaped (enc:=enc) (C:=Tryz.checked) (os:=os) (X:=fun w _=>laidMetH Tryz.prog Rows.forceWinsRow.laid w) false (World.doorLaid Tryz.prog 400 os) #[.agg #[.int .u8 0,.int .u8 0,.int .u8 0,.int .u8 0,.slice none 0 0],.int .u16 0,.bool false] 8 rfl (World.shaped_of_RefB (by kernel_rfl) (by kernel_rfl)) (by kernel_rfl) (by kernel_rfl) (by kernel_rfl) (zca os _)) ?_
 intro W base args ds gs before hval0 hW _ _ hL _
 have hW':=hW
 obtain ⟨p,q,hA0,hV,rfl,hfz,hnd⟩:=hW
 have hA:DataW.TrodAll enc Tryz.prog W 0 (fun _=>true) true Tryz.f5.params.toList args.toList ds p:=hA0
 have hval:∀ (j:Nat) t v,Tryz.f5.params[j]? = some t→args[j]? = some v→Value.okWide Tryz.prog W .any base t v:=hval0
 rw [Tryz.params5] at hA hval
 obtain ⟨v0,v1,v2,d0,d1,d2,p0,p1,p2,rfl,rfl,rfl,h0,h1,h2⟩:=trodAll_three hA
 obtain ⟨rfl,rfl⟩:=trodVars_none hV
 obtain ⟨d,pk,hd,hp,hvr⟩:=Abs.open_draft (hval 0 24 v0 rfl rfl) h0
 obtain ⟨n1,rfl,rfl,rfl,w1⟩:=open_int Tryz.underlying30 (hval 1 30 v1 rfl rfl) h1
 obtain ⟨pl,rfl,rfl,rfl⟩:=open_bool Tryz.underlying4 (hval 2 4 v2 rfl rfl) h2
 obtain ⟨b,hb,rfl⟩:=qbB w1
 obtain ⟨fuel,hf0⟩:=h0
 have hlt:=DataW.trod_lt _ _ _ _ hf0
 refine (Abs.forceWins_calls hd hp hb W (ub5 hL) hvr).mono fun e W' ⟨he,hbl⟩ => ?_
 subst he
 refine ⟨_,rfl,_,_,_,[],_,[],hW',?_,trodAll_mk3 (Below.trod ubZ (by kernel_rfl) (of_decide_eq_true (by kernel_rfl)) ⟨fuel,hf0⟩ hbl hlt) (shut_int Tryz.underlying30 w1) (shut_bool Tryz.underlying4 pl),rfl,hbl.frame _,fun h=>by cases h⟩
 exact trodAll_mk1 (shut_bool Tryz.underlying4 true)
theorem xb7:Rows.ForceWinsSaid :=
 OpenClaim.holds_of_wide 5 Tryz.f5 rfl rfl rfl rfl rfl rfl rfl ⟨rfl,rfl,rfl,rfl,rfl⟩ rfl rfl rfl rfl rfl ubX Tryz.func5 xb8
  zb2 vbA
  (fun os started H enc _=>zbZ os started H enc)
end Go.Proofs.YtpdnijifmebnbaaGreatDoor
