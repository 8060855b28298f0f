/-
  Steps to a law of this program: SGv.
  Conditions: none.
-/
import Derived.Test.YtpdnijifmebnbaaGreatDoorB34
import Derived.ProofKit
import Derived.Deep.Slices
import Derived.OpenShut
import Derived.Carry
set_option linter.unusedVariables false
set_option linter.unusedSimpArgs false
set_option linter.unusedSectionVars false
namespace Go.Abs
noncomputable section
open Go.Proofs
set_option maxRecDepth 100000
section
variable {H:Type} {enc:TypeId × Value→H} {W:World} {base:Nat} {spare:Nat→Bool} {held:Bool}
theorem vz {fuel:Nat} {cs:List Value} {x:DataW H × List MemPlace} (h:DataW.trod enc Tryz.prog W base spare held fuel 5 cs=some x):∃ n:Nat,n < 256∧cs=[.int .u8 ((n:Nat):Int)]:=by
 obtain ⟨n,rfl,_,hw⟩:=DataW.trod_int Tryz.underlying5 h
 simp only [Lit.wf,Bool.and_eq_true,decide_eq_true_eq] at hw
 have h1:(0:Int)≤n:=hw.1
 have h2:n≤255:=hw.2
 exact ⟨n.toNat,by omega,by rw [Int.toNat_of_nonneg h1]⟩
def vW (p:Pk):List Value:=[.int .u8 ((p.st:Nat):Int),.int .u8 ((p.act:Nat):Int),.int .u8 ((p.gain:Nat):Int),.int .u8 ((p.t0:Nat):Int),.int .u8 ((p.t1:Nat):Int),.int .u8 ((p.t2:Nat):Int),.int .u8 ((p.p0:Nat):Int),.int .u8 ((p.p1:Nat):Int)]
theorem c5:Tryz.prog.cellsOf 5=1:=by kernel_rfl
theorem c57:Tryz.prog.cellsOf 57=3:=by kernel_rfl
theorem c58:Tryz.prog.cellsOf 58=2:=by kernel_rfl
theorem c60:Tryz.prog.cellsOf 60=8:=by kernel_rfl
theorem c22:Tryz.prog.cellsOf 22=1:=by kernel_rfl
theorem c24:Tryz.prog.cellsOf 24=5:=by kernel_rfl
theorem zbS {fuel:Nat} {cs:List Value} {x:DataW H × List MemPlace} (h:DataW.trod enc Tryz.prog W base spare held fuel 60 cs=some x):∃ p:Pk,w8 p∧cs=vW p:=by
 obtain ⟨xs,n,_,_,hl,hlen,hf⟩:=DataW.trod_struct Tryz.underlying60 h
 rw [c60] at hl
 match cs,hl with
 | [a0,a1,a2,a3,a4,a5,a6,a7],_ =>
  match xs,hlen with
  | [x0,x1,x2,x3,x4],_ =>
   have h0:=hf 0 { name := "State",type:=5,offset:=0,embedded:=false,tag := "",pkgPath := "",byteOffset:=0 } rfl
   have h1:=hf 1 { name := "Act",type:=5,offset:=1,embedded:=false,tag := "",pkgPath := "",byteOffset:=1 } rfl
   have h2:=hf 2 { name := "Gain",type:=5,offset:=2,embedded:=false,tag := "",pkgPath := "",byteOffset:=2 } rfl
   have h3:=hf 3 { name := "To",type:=57,offset:=3,embedded:=false,tag := "",pkgPath := "",byteOffset:=3 } rfl
   have h4:=hf 4 { name := "Part",type:=58,offset:=6,embedded:=false,tag := "",pkgPath := "",byteOffset:=6 } rfl
   dsimp only at h0 h1 h2 h3 h4
   rw [c5] at h0 h1 h2
   rw [c57] at h3
   rw [c58] at h4
   obtain ⟨b0,q0,e0⟩:=vz h0
   obtain ⟨b1,q1,e1⟩:=vz h1
   obtain ⟨b2,q2,e2⟩:=vz h2
   obtain ⟨ys,m,_,_,_,hyl,hy⟩:=DataW.trod_array Tryz.underlying57 h3
   obtain ⟨zs,k,_,_,_,hzl,hz⟩:=DataW.trod_array Tryz.underlying58 h4
   match ys,hyl with
   | [y0,y1,y2],_ =>
    match zs,hzl with
    | [z0,z1],_ =>
     have g0:=hy 0 (by omega)
     have g1:=hy 1 (by omega)
     have g2:=hy 2 (by omega)
     have k0:=hz 0 (by omega)
     have k1:=hz 1 (by omega)
     rw [c5] at g0 g1 g2 k0 k1
     obtain ⟨b3,q3,e3⟩:=vz g0
     obtain ⟨b4,q4,e4⟩:=vz g1
     obtain ⟨b5,q5,e5⟩:=vz g2
     obtain ⟨b6,q6,e6⟩:=vz k0
     obtain ⟨b7,q7,e7⟩:=vz k1
     simp at e0 e1 e2 e3 e4 e5 e6 e7
     subst e0 e1 e2 e3 e4 e5 e6 e7
     exact ⟨⟨b0,b1,b2,b3,b4,b5,b6,b7⟩,⟨q0,q1,q2,q3,q4,q5,q6,q7⟩,rfl⟩
theorem gch {a:Addr} (ha:a.spot=none) (i j:Nat):(a.add i).add j=⟨a.block,a.off + i + j,none⟩:=by
 obtain ⟨b,o,s⟩:=a
 simp only at ha
 subst ha
 unfold Addr.add
 by_cases hi:i=0 <;> by_cases hj:j=0 <;> simp [hi,hj,Nat.add_assoc]
theorem qcc {a:Addr} {n:Nat} {cs:List Value} (h:W.cells? base a n=some cs) {j:Nat} (hj:j < n):W.cell? (a.add j)=cs[j]? := by
 unfold World.cells? at h
 split at h
 ·exact mapM_some_get h j j (by simp [hj])
 ·cases h
theorem gbR {fuel:Nat} {v:Value} {x:DataW H × List MemPlace} (h:DataW.trod enc Tryz.prog W base spare held fuel 22 [v]=some x) (hs:∀ a l c,v=.slice (some a) l c→a.spot=none) :
  ∃ ps pk,PicksV ps pk∧(∀ p∈ps,w8 p)∧VR (qf fun _=>False) W pk v:=by
 rcases Go.Deep.open_slice Tryz.underlying22 h with ⟨e,_⟩ | ⟨a,len,cap,m,n,D,Pl,e,hb,hlc,hcm,hm,_,hel⟩
 ·injection e with e _
  subst e
  exact ⟨[],.nils,.none,fun p hp=>(by cases hp),.nils⟩
 ·injection e with e _
  subst e
  have ha:=hs a len cap rfl
  have hlm:len≤m:=by rw [hm];split <;> omega
  rw [c60] at hel
  have hall:∀ i,∃ p:Pk,i < m→w8 p∧W.cells? base (a.add (i * 8)) 8=some (vW p):=fun i=>by
   by_cases hi:i < m
   ·obtain ⟨cs',h1,h2⟩:=hel i hi
    obtain ⟨p,q1,rfl⟩:=zbS h2
    exact ⟨p,fun _=>⟨q1,h1⟩⟩
   ·exact ⟨⟨0,0,0,0,0,0,0,0⟩,fun h=>absurd h hi⟩
  let P:=fun i=>Classical.choose (hall i)
  have hP:∀ i,i < m→w8 (P i)∧W.cells? base (a.add (i * 8)) 8=some (vW (P i)):=fun i=>Classical.choose_spec (hall i)
  refine ⟨(List.range len).map P,.vs (((List.range len).map P).map pkV) none,.some _ _,fun p hp => ?_,?_⟩
  ·obtain ⟨i,hi,rfl⟩:=List.mem_map.1 hp
   exact (hP i (by have:=List.mem_range.1 hi;omega)).1
  ·have e:(Value.slice (some a) len cap)=.slice (some ⟨a.block,a.off,none⟩) (((List.range len).map P).map pkV).length cap:=by
    obtain ⟨b,o,s⟩:=a
    simp only at ha
    subst ha
    simp
   rw [e]
   refine .vs _ none a.block a.off cap 8 (fun i j=>(vW (P i)).getD j undef) (by simpa using hlc) (fun k hk=>by cases hk) (fun i hi => ?_) (fun i hi j hj=>⟨fun h=>h,?_⟩) (fun i hi j hj => ?_)
   ·simp [pkV]
   ·have hi':i < len:=by simpa using hi
    have hj':j < 8:=by simpa [pkV] using hj
    have hc:=qcc (hP i (by omega)).2 hj'
    rw [gch ha] at hc
    rw [hc]
    have:j < (vW (P i)).length:=hj'
    simp [List.getD,this]
   ·have hi':i < len:=by simpa using hi
    have hj':j < 8:=by simpa [pkV] using hj
    have e1:(((List.range len).map P).map pkV)[i]=pkV (P i):=by simp
    have key:∀ (p:Pk) (j:Nat) (h:j < (pkV p).length),VR (qf fun _=>False) W (pkV p)[j] ((vW p).getD j undef):=fun p j h=>by
     match j,h with
     | 0,_=>exact .int _ _
     | 1,_=>exact .int _ _
     | 2,_=>exact .int _ _
     | 3,_=>exact .int _ _
     | 4,_=>exact .int _ _
     | 5,_=>exact .int _ _
     | 6,_=>exact .int _ _
     | 7,_=>exact .int _ _
    have:=key (P i) j (by show j < 8;exact hj')
    have e2:(((List.range len).map P).map pkV)[i][j]=(pkV (P i))[j]'(by show j < 8;exact hj'):=by simp
    rw [e2];exact this
theorem open_draft {r:Reach} {b0:Nat} {v:Value} {x:DataW H} {ps:List MemPlace} (hval:Value.okWide Tryz.prog W r b0 24 v) (h:DataW.Trod enc Tryz.prog W base spare held 24 v x ps) :
  ∃ d pk,g8 d∧PicksV d.picks pk∧VR (qf fun _=>False) W (.agg (drV d pk)) v:=by
 unfold Value.okWide at hval
 rw [Tryz.underlying24] at hval
 obtain ⟨cs,rfl,hsz,ts,hts,_,hrow⟩:=hval
 have hct:Tryz.prog.cellTypes Tryz.prog.depth 24=some [5,5,5,5,22]:=by kernel_rfl
 obtain rfl:=Option.some.inj (hct.symm.trans hts)
 obtain ⟨fuel,hf⟩:=h
 obtain ⟨xs,n,_,_,hl,hlen,hf⟩:=DataW.trod_struct Tryz.underlying24 hf
 rw [c24] at hl
 obtain ⟨l⟩:=cs
 replace hl:l.length=5:=hl
 match l,hl with
 | [a0,a1,a2,a3,a4],_ =>
  match xs,hlen with
  | [x0,x1,x2,x3,x4],_ =>
   have h0:=hf 0 { name := "States",type:=5,offset:=0,embedded:=false,tag := "",pkgPath := "",byteOffset:=0 } rfl
   have h1:=hf 1 { name := "Owners",type:=5,offset:=1,embedded:=false,tag := "",pkgPath := "",byteOffset:=1 } rfl
   have h2:=hf 2 { name := "Grain",type:=5,offset:=2,embedded:=false,tag := "",pkgPath := "",byteOffset:=2 } rfl
   have h3:=hf 3 { name := "Cents",type:=5,offset:=3,embedded:=false,tag := "",pkgPath := "",byteOffset:=3 } rfl
   have h4:=hf 4 { name := "Picks",type:=22,offset:=4,embedded:=false,tag := "",pkgPath := "",byteOffset:=8 } rfl
   dsimp only at h0 h1 h2 h3 h4
   rw [c5] at h0 h1 h2 h3
   rw [c22] at h4
   obtain ⟨b0,q0,e0⟩:=vz h0
   obtain ⟨b1,q1,e1⟩:=vz h1
   obtain ⟨b2,q2,e2⟩:=vz h2
   obtain ⟨b3,q3,e3⟩:=vz h3
   simp [Value.cells] at e0 e1 e2 e3
   subst e0 e1 e2 e3
   have h4':DataW.trod enc Tryz.prog W base spare held n 22 [a4]=some x4:=h4
   have hspot:∀ a l c,a4=.slice (some a) l c→a.spot=none:=fun a l c e=>by
    obtain ⟨u,hu,hk⟩:=hrow 4 a4 rfl
    have:u=22:=(Option.some.inj hu).symm
    subst this
    subst e
    unfold Cell.okWide at hk
    rw [Tryz.underlying22] at hk
    simp only at hk
    unfold Cell.ok at hk
    rw [Tryz.underlying22] at hk
    exact hk.2.2.2.1
   obtain ⟨pks,pk,p1,p2,p3⟩:=gbR h4' hspot
   refine ⟨⟨b0,b1,b2,b3,pks⟩,pk,⟨q0,q1,q2,q3,p2⟩,p1,.agg _ _ rfl fun i hi hj => ?_⟩
   match i,hi with
   | 0,_=>exact .int _ _
   | 1,_=>exact .int _ _
   | 2,_=>exact .int _ _
   | 3,_=>exact .int _ _
   | 4,_=>exact p3
end
end
end Go.Abs
