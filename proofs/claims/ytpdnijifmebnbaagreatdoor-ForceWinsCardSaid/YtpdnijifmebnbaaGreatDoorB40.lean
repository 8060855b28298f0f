/-
  Steps to a law of this program: SDr5.
  Conditions: none.
-/
import Derived.Test.YtpdnijifmebnbaaGreatDoorB36
set_option linter.unusedVariables false
set_option linter.unusedSimpArgs false
set_option linter.unusedSectionVars false
namespace Go.Abs
noncomputable section
open Go.Proofs
set_option maxRecDepth 100000
set_option maxHeartbeats 8000000 in
theorem qbX {d:Dr} {pk:AV} (hd:g8 d) (hp:PicksV d.picks pk) :
  zb Tryz.prog 6 [.agg (drV d pk)] (.agg (ye d.os (some d.n) d.rows (some d.n))):=by
 obtain ⟨PV,hPV⟩:∃ v,v=pk:=⟨_,rfl⟩
 have hkc:=qao hp
 have hcnt:=gbs hd hp
 have hn0:=d.n_pos
 have hn5:=d.n_le
 have pD:=yan hp
 have pDr:=ga7 hp
 have hzm:qK d.n d.m:=d.ms_ok _ (Nat.min_le_left _ _)
 have hp2:=hp
 obtain ⟨ps,hps⟩:∃ ps,d.picks=ps:=⟨_,rfl⟩
 rw [hps] at hp2
 have hpl:(ps.map pkV).length=d.picks.length:=by rw [hps];simp
 rcases hp2 with _ | ⟨_,c⟩
 all_goals
  letI:FH:=gZ
  refine yc (vb pD) (zk ..) (jb yd mixed Tryz.func6 rfl (by decide +kernel) ?_)
  conv=>whnf
  repeat ((first | refine And.intro ⟨rfl,by decide,hkc⟩ ?_ | refine And.intro ⟨rfl,by decide,rfl⟩ ?_ | refine And.intro ⟨by decide,rfl⟩ ?_ | refine za rfl ?_ | refine wa hcnt (vb pD) ?_ | refine And.intro rfl ?_);conv=>whnf)
  refine Or.inr (vbN yd mixed 1 3 5 2 98 [(1,.ptr 0 0 0),(2,.ptr 1 0 0),(3,.int .i64 ((d.n:Nat):Int)),(4,.ptr 4 0 0)] (Heap.mk [some (.rows [drV d PV] false false),some (.rows [[.nils,.nils]] false false),some (.rows (yh d 0) false false),some (.rows (we 5 0 d.n (d.ms 0)) false false),some (.rows [[.ms 2 0 d.n (some d.n),.ms 3 0 d.n (some d.n)]] false false)] []) (Nat.le_of_ble_eq_true rfl) (by decide +kernel) (by decide +kernel) ?_ [0,1,2,3,4] [0,1,2,4,3] [0,1,3,4,2] [0,1,3,2,4] [0,1,4,2,3] [0,1,4,3,2] ?_ ?_ ?_ ?_ ?_ ?_)
  rotate_left
  iterate 6
   ·conv=>whnf
    repeat ((first | (refine ⟨_,_,fun K hK=>(by (conv=>whnf);first | exact hK | exact za rfl hK | exact uC (n:=d.n) (m:=d.n) (rs:=yh d 0) rfl rfl ⟨Nat.le_refl _,by show 8 * d.n≤_;omega,by omega⟩ ⟨by decide,rfl⟩ (xaH d) hK | exact uC (n:=d.n) (m:=d.n) (rs:=we 5 0 d.n (d.ms 0)) rfl rfl ⟨Nat.le_refl _,by show 24 * d.n≤_;omega,by omega⟩ ⟨by decide,rfl⟩ (ual d 5) hK | exact And.intro ⟨by decide,rfl⟩ hK | (refine qa rfl ?_;(conv=>whnf);exact hK)),?_⟩;first | refine Or.inl ⟨rfl,(by repeat' (first | exact True.intro | refine And.intro ?_ ?_ | exact Or.inl (by decide +kernel) | decide +kernel | exact Or.inr (fun K hK=>(by (conv=>whnf);first | exact hK | exact za rfl hK | exact uC (n:=d.n) (m:=d.n) (rs:=yh d 0) rfl rfl ⟨Nat.le_refl _,by show 8 * d.n≤_;omega,by omega⟩ ⟨by decide,rfl⟩ (xaH d) hK | exact uC (n:=d.n) (m:=d.n) (rs:=we 5 0 d.n (d.ms 0)) rfl rfl ⟨Nat.le_refl _,by show 24 * d.n≤_;omega,by omega⟩ ⟨by decide,rfl⟩ (ual d 5) hK | exact And.intro ⟨by decide,rfl⟩ hK | (refine qa rfl ?_;(conv=>whnf);exact hK))))),?_⟩ | refine Or.inr (zo (by repeat' (first | exact True.intro | refine And.intro ?_ ?_ | exact Or.inl (by decide +kernel) | decide +kernel | exact Or.inr (fun K hK=>(by (conv=>whnf);first | exact hK | exact za rfl hK | exact uC (n:=d.n) (m:=d.n) (rs:=yh d 0) rfl rfl ⟨Nat.le_refl _,by show 8 * d.n≤_;omega,by omega⟩ ⟨by decide,rfl⟩ (xaH d) hK | exact uC (n:=d.n) (m:=d.n) (rs:=we 5 0 d.n (d.ms 0)) rfl rfl ⟨Nat.le_refl _,by show 24 * d.n≤_;omega,by omega⟩ ⟨by decide,rfl⟩ (ual d 5) hK | exact And.intro ⟨by decide,rfl⟩ hK | (refine qa rfl ?_;(conv=>whnf);exact hK))))) ?_)));conv=>whnf)
    refine ⟨rfl,rfl,rfl,Nat.le_of_ble_eq_true rfl,fun b hb => ?_,⟨rfl,rfl⟩,rfl,⟨_,rfl,.same _ 0 (.ptr _ _ _ (by decide))⟩,⟨_,rfl,.same _ 0 (.ptr _ _ _ (by decide))⟩,⟨_,rfl,.same _ 0 (.int _ _)⟩,⟨_,rfl,.ptr _ _ _⟩,trivial⟩
    match b,hb with
    | 0,_=>subst hPV;exact .same _ 0 (xo fun r hr=>by rw [List.mem_singleton.1 hr];exact pDr)
    | 1,_=>exact .same _ 0 (xo fun r hr=>by rw [List.mem_singleton.1 hr];exact xaF)
    | 2,_=>exact .same _ 0 (xo (qbQ d 0))
    | 3,_=>exact .same _ 0 (xo (wbJ d 5))
    | 4,_=>exact xce _ _ _ _
  intro g0
  conv=>whnf
  repeat ((first | refine And.intro rfl ?_);conv=>whnf)
  refine gf yd mixed 98 (fun k:Nat=>d.n - k) (fun k=>k≤d.n) (fun k=>[(1,.ptr 0 0 0),(2,.ptr 1 0 0),(3,.int .i64 ((d.n:Nat):Int)),(4,.ptr 4 0 0),(5,.int .i64 ((k:Nat):Int))]) (fun k=>Heap.mk [some (.rows [drV d PV] false false),some (.rows [[.nils,.nils]] false false),some (.rows (yh d k) false false),some (.rows (we 5 0 d.n (d.ms 0)) false false),some (.rows [[.ms 2 0 d.n (some d.n),.ms 3 0 d.n (some d.n)]] false false)] []) ?_ 0 _ (Nat.zero_le _) rfl rfl ⟨rfl,rfl,rfl,rfl,rfl,trivial⟩
  rintro k g1 i1
  replace i1:k≤d.n:=i1
  conv=>whnf
  refine yf (fun h4 => ?_) (fun h4 => ?_) <;> conv=>whnf
  ·have hk:k < d.n:=by have:((k:Nat):Int) < ((d.n:Nat):Int):=h4;omega
   repeat ((first | refine za rfl ?_ | refine And.intro (Int.natCast_nonneg k) ?_ | refine And.intro rfl ?_);conv=>whnf)
   have ra:=ybR hk
   cases hb:d.ownB k with
   | true =>
    refine ua hb ?_
    conv=>whnf
    repeat ((first | refine za rfl ?_ | refine gg k rfl hk (by decide) ra rfl ?_ | refine And.intro rfl ?_);conv=>whnf)
    refine vn (rs':=yh d (k + 1)) ra rfl (jbQ hb) ?_
    conv=>whnf
    repeat ((first | refine And.intro rfl (ub (by omega) ?_) | refine And.intro rfl ?_);conv=>whnf)
    refine ⟨k + 1,by show d.n - (k + 1) < d.n - k;omega,hk,rfl,rfl,rfl,rfl,rfl,rfl,?_,trivial⟩
    show some (AV.int .i64 _)=some (AV.int .i64 _)
    congr 2
   | false =>
    refine ya hb ?_
    conv=>whnf
    repeat ((first | refine And.intro rfl (ub (by omega) ?_) | refine And.intro rfl ?_);conv=>whnf)
    refine ⟨k + 1,by show d.n - (k + 1) < d.n - k;omega,hk,?_,rfl,rfl,rfl,rfl,rfl,?_,trivial⟩
    ·exact congrArg (fun z=>Heap.mk [some (.rows [drV d PV] false false),some (.rows [[.nils,.nils]] false false),some (.rows (z) false false),some (.rows (we 5 0 d.n (d.ms 0)) false false),some (.rows [[.ms 2 0 d.n (some d.n),.ms 3 0 d.n (some d.n)]] false false)] []) (gbQ hb)
    show some (AV.int .i64 _)=some (AV.int .i64 _)
    congr 2
  ·have hk:¬ ((k:Nat):Int) < ((d.n:Nat):Int):=h4
   obtain rfl:k=d.n:=by omega
   repeat ((first | refine And.intro rfl ?_);conv=>whnf)
   refine gf yd mixed 98 (fun i:Nat=>d.picks.length - i) (fun i=>i≤d.picks.length∧i≤20) (fun i=>[(1,.ptr 0 0 0),(2,.ptr 1 0 0),(3,.int .i64 ((d.n:Nat):Int)),(4,.ptr 4 0 0),(6,.int .i64 ((i:Nat):Int))]) (fun i=>Heap.mk (some (.rows [drV d PV] false false) :: some (.rows [[.nils,.nils]] false false) :: some (.rows (yh d d.n) false false) :: some (.rows (we 5 0 d.n (d.ms i)) false false) :: some (.rows [[.ms 2 0 d.n (some d.n),.ms 3 0 d.n (some d.n)]] false false) :: jl (d.ms i)) []) ?_ 0 _ ⟨Nat.zero_le _,Nat.zero_le _⟩ rfl rfl ⟨rfl,rfl,rfl,rfl,rfl,trivial⟩
   rintro i g2 ⟨j1,j2⟩
   rw [hPV]
   replace j1:i≤d.picks.length:=j1
   have hz:=d.ms_ok i j1
   conv=>whnf
   repeat ((first | refine za rfl ?_ | refine qc hpl ?_ | refine And.intro rfl ?_);conv=>whnf)
   have e50:decide (((i:Nat):Int) < 0)=false:=decide_eq_false (by omega)
   by_cases hi2:i < d.picks.length∧i < 20
   ·obtain ⟨hi,h20⟩:=hi2
    first
    | (exfalso;rw [hps] at hi;exact Nat.not_lt_zero _ hi)
    | have e6:decide (((i:Nat):Int) < ((d.picks.length:Nat):Int))=true:=decide_eq_true (by omega)
      have e7:decide (((i:Nat):Int) < 20)=true:=decide_eq_true (by omega)
      obtain ⟨p,hpp⟩:∃ p,d.picks[i]=p:=⟨_,rfl⟩
      have hpk:=hd.picks p (hpp ▸ List.getElem_mem hi)
      have hpi:(ps.map pkV)[i]? = some (pkV p):=by subst hps;simp [hi,hpp]
      have hadd:d.ms (i + 1)=d.add (d.ms i) p:=by rw [d.ms_succ hi,hpp]
      have hcho:=vcc hd hp hpk
      have hst:=hpk.st
      have hs:=Nat.mod_lt p.st d.n_pos
      repeat ((first | refine za rfl ?_ | refine ua e6 ?_ | refine ua ((congrArg (· == true) e6).trans rfl) ?_ | refine ua e7 ?_ | refine uc i rfl hpi rfl ?_ | refine ub (by omega) ?_ | refine And.intro rfl (un p.st d.n rfl rfl (by omega) ?_) | refine And.intro rfl ?_);conv=>whnf)
      obtain ⟨s,hse⟩:∃ s,p.st % d.n=s:=⟨_,rfl⟩
      rw [hse] at hs ⊢
      cases hr:(d.ms i).R s with
      | nil =>
       have rs:=zbJ (B:=5) hs hr
       obtain ⟨u1,u2,u3⟩:=yci (B:=5) hz hse hr
       repeat ((first | refine za rfl ?_ | refine gg s rfl hs (by decide) rs rfl ?_ | refine za (r:=.nils) (by rw [rs];rfl) ?_ | refine ua rfl ?_ | refine And.intro rfl ?_);conv=>whnf)
       refine Or.inl ⟨by decide +kernel,?_⟩
       conv=>whnf
       repeat ((first | (refine ⟨_,_,fun K hK=>(by (conv=>whnf);first | exact hK | exact za rfl hK | exact gg s rfl hs (by decide) rs rfl hK | exact za (r:=.nils) (by rw [rs];rfl) hK | exact uc i rfl hpi rfl hK | exact wa hcho (wb pD (wQ p)) hK | (refine ⟨by decide,by decide,rfl,?_⟩;(conv=>whnf);exact Or.inr hK) | (refine And.intro ⟨rfl,trivial⟩ ?_;(conv=>whnf);exact zB (by decide) ⟨rfl,rfl⟩ hK) | exact vn (rs':=we 5 0 d.n (d.add (d.ms i) p)) rs rfl (uP (by show AV.ms ((jl (d.ms i)).length + 5) 0 1 none=_;rw [waA,u2]) (fun t _ ht=>u3 t ht)) hK | (refine qa rfl ?_;(conv=>whnf);exact hK)),?_⟩;first | refine Or.inl ⟨rfl,(by repeat' (first | exact True.intro | refine And.intro ?_ ?_ | exact Or.inl (by decide +kernel) | decide +kernel | exact Or.inr (fun K hK=>(by (conv=>whnf);first | exact hK | exact za rfl hK | exact gg s rfl hs (by decide) rs rfl hK | exact za (r:=.nils) (by rw [rs];rfl) hK | exact uc i rfl hpi rfl hK | exact wa hcho (wb pD (wQ p)) hK | (refine ⟨by decide,by decide,rfl,?_⟩;(conv=>whnf);exact Or.inr hK) | (refine And.intro ⟨rfl,trivial⟩ ?_;(conv=>whnf);exact zB (by decide) ⟨rfl,rfl⟩ hK) | exact vn (rs':=we 5 0 d.n (d.add (d.ms i) p)) rs rfl (uP (by show AV.ms ((jl (d.ms i)).length + 5) 0 1 none=_;rw [waA,u2]) (fun t _ ht=>u3 t ht)) hK | (refine qa rfl ?_;(conv=>whnf);exact hK))))),?_⟩ | refine Or.inr (zo (by repeat' (first | exact True.intro | refine And.intro ?_ ?_ | exact Or.inl (by decide +kernel) | decide +kernel | exact Or.inr (fun K hK=>(by (conv=>whnf);first | exact hK | exact za rfl hK | exact gg s rfl hs (by decide) rs rfl hK | exact za (r:=.nils) (by rw [rs];rfl) hK | exact uc i rfl hpi rfl hK | exact wa hcho (wb pD (wQ p)) hK | (refine ⟨by decide,by decide,rfl,?_⟩;(conv=>whnf);exact Or.inr hK) | (refine And.intro ⟨rfl,trivial⟩ ?_;(conv=>whnf);exact zB (by decide) ⟨rfl,rfl⟩ hK) | exact vn (rs':=we 5 0 d.n (d.add (d.ms i) p)) rs rfl (uP (by show AV.ms ((jl (d.ms i)).length + 5) 0 1 none=_;rw [waA,u2]) (fun t _ ht=>u3 t ht)) hK | (refine qa rfl ?_;(conv=>whnf);exact hK))))) ?_)));conv=>whnf)
       repeat ((first | refine And.intro rfl (ub (by omega) ?_) | refine And.intro rfl ?_);conv=>whnf)
       refine ⟨i + 1,by show d.picks.length - (i + 1) < d.picks.length - i;omega,⟨hi,h20⟩,?_,rfl,rfl,rfl,rfl,rfl,?_,trivial⟩
       ·subst hPV;exact (congrArg (fun T=>Heap.mk (some (.rows [drV d _] false false) :: some (.rows [[.nils,.nils]] false false) :: some (.rows (yh d d.n) false false) :: some (.rows (we 5 0 d.n (d.add (d.ms i) p)) false false) :: some (.rows [[.ms 2 0 d.n (some d.n),.ms 3 0 d.n (some d.n)]] false false) :: T) []) u1.symm).trans (congrArg (fun y=>Heap.mk (some (.rows [drV d _] false false) :: some (.rows [[.nils,.nils]] false false) :: some (.rows (yh d d.n) false false) :: some (.rows (we 5 0 d.n y) false false) :: some (.rows [[.ms 2 0 d.n (some d.n),.ms 3 0 d.n (some d.n)]] false false) :: jl y) []) hadd.symm)
       show some (AV.int .i64 _)=some (AV.int .i64 _)
       congr 2
      | cons c0 l0 =>
       have hne:(d.ms i).R s≠[]:=by rw [hr];simp
       have hm:=hz.all s hne
       have rs:=ya3 (B:=5) (k:=0) hs hr
       repeat ((first | refine za rfl ?_ | refine gg s rfl hs (by decide) rs rfl ?_ | refine za (r:=(.ms ((d.ms i).ord.idxOf s + 5) 0 (c0 :: l0).length none)) (by rw [rs];rfl) ?_ | refine And.intro rfl ?_);conv=>whnf)
       rw [vP hm]
       conv=>whnf
       refine qc rfl ?_
       conv=>whnf
       refine yf (fun h6 => ?_) (fun h6 => ?_) <;> conv=>whnf
       ·have hl3:((d.ms i).R s).length < 3:=by rw [hr];have:(((c0 :: l0).length:Nat):Int) < 3:=h6;omega
        obtain ⟨u1,u2,u3⟩:=xci (B:=5) hz hse hne hl3
        refine Or.inl ⟨by decide +kernel,?_⟩
        conv=>whnf
        have hbk:=fun b0 b1 b2 b3 b4=>vP (b0:=b0) (b1:=b1) (b2:=b2) (b3:=b3) (b4:=b4) hm
        repeat ((first | (refine ⟨_,_,fun K hK=>(by (conv=>whnf);first | exact hK | exact za rfl hK | exact gg s rfl hs (by decide) rs rfl hK | exact za (r:=(.ms ((d.ms i).ord.idxOf s + 5) 0 (c0 :: l0).length none)) (by rw [rs];rfl) hK | exact uc i rfl hpi rfl hK | exact wa hcho (wb pD (wQ p)) hK | (refine ⟨by decide,by decide,rfl,?_⟩;(conv=>whnf);exact Or.inr hK) | (refine And.intro ⟨rfl,trivial⟩ ?_;(conv=>whnf);exact wy (vP hm) (by decide) ⟨rfl,rfl⟩ (vaT _) ⟨Nat.succ_pos _,by rw [hr];simp,by show ((c0 :: l0).length + 1) * 56≤_;rw [hr] at hl3;omega⟩ hK) | exact vn (rs':=we 5 0 d.n (d.add (d.ms i) p)) rs rfl (uP (by rw [u2,hr]) (fun t _ ht=>u3 t ht)) hK | (refine qa rfl ?_;(conv=>whnf);exact hK)),?_⟩;first | refine Or.inl ⟨rfl,(by repeat' (first | exact True.intro | refine And.intro ?_ ?_ | exact Or.inl (by decide +kernel) | decide +kernel | exact Or.inr (fun K hK=>(by (conv=>whnf);first | exact hK | exact za rfl hK | exact gg s rfl hs (by decide) rs rfl hK | exact za (r:=(.ms ((d.ms i).ord.idxOf s + 5) 0 (c0 :: l0).length none)) (by rw [rs];rfl) hK | exact uc i rfl hpi rfl hK | exact wa hcho (wb pD (wQ p)) hK | (refine ⟨by decide,by decide,rfl,?_⟩;(conv=>whnf);exact Or.inr hK) | (refine And.intro ⟨rfl,trivial⟩ ?_;(conv=>whnf);exact wy (vP hm) (by decide) ⟨rfl,rfl⟩ (vaT _) ⟨Nat.succ_pos _,by rw [hr];simp,by show ((c0 :: l0).length + 1) * 56≤_;rw [hr] at hl3;omega⟩ hK) | exact vn (rs':=we 5 0 d.n (d.add (d.ms i) p)) rs rfl (uP (by rw [u2,hr]) (fun t _ ht=>u3 t ht)) hK | (refine qa rfl ?_;(conv=>whnf);exact hK))))),?_⟩ | refine Or.inr (zo (by repeat' (first | exact True.intro | refine And.intro ?_ ?_ | exact Or.inl (by decide +kernel) | decide +kernel | exact Or.inr (fun K hK=>(by (conv=>whnf);first | exact hK | exact za rfl hK | exact gg s rfl hs (by decide) rs rfl hK | exact za (r:=(.ms ((d.ms i).ord.idxOf s + 5) 0 (c0 :: l0).length none)) (by rw [rs];rfl) hK | exact uc i rfl hpi rfl hK | exact wa hcho (wb pD (wQ p)) hK | (refine ⟨by decide,by decide,rfl,?_⟩;(conv=>whnf);exact Or.inr hK) | (refine And.intro ⟨rfl,trivial⟩ ?_;(conv=>whnf);exact wy (vP hm) (by decide) ⟨rfl,rfl⟩ (vaT _) ⟨Nat.succ_pos _,by rw [hr];simp,by show ((c0 :: l0).length + 1) * 56≤_;rw [hr] at hl3;omega⟩ hK) | exact vn (rs':=we 5 0 d.n (d.add (d.ms i) p)) rs rfl (uP (by rw [u2,hr]) (fun t _ ht=>u3 t ht)) hK | (refine qa rfl ?_;(conv=>whnf);exact hK))))) ?_)));conv=>whnf)
        repeat ((first | refine And.intro rfl (ub (by omega) ?_) | refine And.intro rfl ?_);conv=>whnf)
        refine ⟨i + 1,by show d.picks.length - (i + 1) < d.picks.length - i;omega,⟨hi,h20⟩,?_,rfl,rfl,rfl,rfl,rfl,?_,trivial⟩
        ·subst hPV;exact (congrArg (fun T=>Heap.mk (some (.rows [drV d _] false false) :: some (.rows [[.nils,.nils]] false false) :: some (.rows (yh d d.n) false false) :: some (.rows (we 5 0 d.n (d.add (d.ms i) p)) false false) :: some (.rows [[.ms 2 0 d.n (some d.n),.ms 3 0 d.n (some d.n)]] false false) :: T) []) u1.symm).trans (congrArg (fun y=>Heap.mk (some (.rows [drV d _] false false) :: some (.rows [[.nils,.nils]] false false) :: some (.rows (yh d d.n) false false) :: some (.rows (we 5 0 d.n y) false false) :: some (.rows [[.ms 2 0 d.n (some d.n),.ms 3 0 d.n (some d.n)]] false false) :: jl y) []) hadd.symm)
        show some (AV.int .i64 _)=some (AV.int .i64 _)
        congr 2
       ·have hl3:¬ ((d.ms i).R s).length < 3:=by rw [hr];have:¬ (((c0 :: l0).length:Nat):Int) < 3:=h6;omega
        have hsame:=add_none hse hl3
        repeat ((first | refine And.intro rfl (ub (by omega) ?_) | refine And.intro rfl ?_);conv=>whnf)
        refine ⟨i + 1,by show d.picks.length - (i + 1) < d.picks.length - i;omega,⟨hi,h20⟩,?_,rfl,rfl,rfl,rfl,rfl,?_,trivial⟩
        ·subst hPV;exact congrArg (fun y=>Heap.mk (some (.rows [drV d _] false false) :: some (.rows [[.nils,.nils]] false false) :: some (.rows (yh d d.n) false false) :: some (.rows (we 5 0 d.n y) false false) :: some (.rows [[.ms 2 0 d.n (some d.n),.ms 3 0 d.n (some d.n)]] false false) :: jl y) []) (hadd.trans hsame).symm
        show some (AV.int .i64 _)=some (AV.int .i64 _)
        congr 2
   ·have hm2:d.ms i=d.m:=by
     unfold Dr.m
     rcases Nat.lt_or_ge i d.picks.length with h | h
     ·rw [Nat.min_eq_right (by omega),show i=20 by omega]
     ·rw [Nat.min_eq_left (by omega),show i=d.picks.length by omega]
    have e:decide (((i:Nat):Int) < ((d.picks.length:Nat):Int))=false∨decide (((i:Nat):Int) < ((d.picks.length:Nat):Int))=true∧decide (((i:Nat):Int) < 20)=false:=by
     rcases Nat.lt_or_ge i d.picks.length with h | h
     ·exact .inr ⟨decide_eq_true (by omega),decide_eq_false (by omega)⟩
     ·exact .inl (decide_eq_false (by omega))
    rcases e with e5 | ⟨e6,e7⟩
    all_goals
     repeat ((first | refine ya e50 ?_ | refine ya ((congrArg (· == true) e50).trans rfl) ?_ | refine ya e5 ?_ | refine ya ((congrArg (· == true) e5).trans rfl) ?_ | refine ua e6 ?_ | refine ua ((congrArg (· == true) e6).trans rfl) ?_ | refine ya e7 ?_ | refine ya rfl ?_ | refine And.intro rfl ?_);conv=>whnf)
     refine gf yd mixed 98 (fun k:Nat=>d.n - k) (fun k=>k≤d.n) (fun k=>[(1,.ptr 0 0 0),(2,.ptr 1 0 0),(3,.int .i64 ((d.n:Nat):Int)),(4,.ptr 4 0 0),(8,.int .i64 ((k:Nat):Int))]) (fun k=>Heap.mk (some (.rows [drV d PV] false false) :: some (.rows [[.nils,.nils]] false false) :: some (.rows (yh d d.n) false false) :: some (.rows (we 5 k d.n d.m) false false) :: some (.rows [[.ms 2 0 d.n (some d.n),.ms 3 0 d.n (some d.n)]] false false) :: jl d.m) []) ?_ 0 _ (Nat.zero_le _) ?_ rfl ⟨rfl,rfl,rfl,rfl,rfl,trivial⟩
     ·rintro k g3 k1
      replace k1:k≤d.n:=k1
      conv=>whnf
      refine yf (fun h5 => ?_) (fun h5 => ?_) <;> conv=>whnf
      ·have hk:k < d.n:=by have:((k:Nat):Int) < ((d.n:Nat):Int):=h5;omega
       cases hr:d.m.R k with
       | nil =>
        have rk:=gbI (B:=5) hk hr
        repeat ((first | refine za rfl ?_ | refine gg k rfl hk (by decide) rk rfl ?_ | refine za (r:=.nils) (by rw [rk];rfl) ?_ | refine ua rfl ?_ | refine vn (rs':=we 5 (k + 1) d.n d.m) rk rfl (qbI hr) ?_ | refine And.intro rfl (ub (by omega) ?_) | refine ⟨by decide,by decide,rfl,?_⟩ | refine And.intro rfl ?_ | refine Or.inr ?_);conv=>whnf)
        refine ⟨k + 1,by show d.n - (k + 1) < d.n - k;omega,hk,rfl,rfl,rfl,rfl,rfl,rfl,?_,trivial⟩
        show some (AV.int .i64 _)=some (AV.int .i64 _)
        congr 2
       | cons x1 l1 =>
        have rk:=ya3 (B:=5) (k:=k) hk hr
        have hm:=hzm.all k (by rw [hr];simp)
        have hne:d.m.R k≠[]:=by rw [hr];simp
        have e0:((((x1 :: l1).length:Nat):Int) == 0)=false:=beq_eq_false_iff_ne.2 (by simp;omega)
        repeat ((first | refine za rfl ?_ | refine gg k rfl hk (by decide) rk rfl ?_ | refine za (r:=.ms (d.m.ord.idxOf k + 5) 0 (x1 :: l1).length none) (by rw [rk];rfl) ?_ | refine And.intro rfl ?_);conv=>whnf)
        rw [vP hm]
        conv=>whnf
        repeat ((first | refine qc rfl ?_ | refine ya e0 ?_ | refine And.intro rfl (ub (by omega) ?_) | refine And.intro rfl ?_);conv=>whnf)
        refine ⟨k + 1,by show d.n - (k + 1) < d.n - k;omega,hk,?_,rfl,rfl,rfl,rfl,rfl,?_,trivial⟩
        ·exact congrArg (fun z=>Heap.mk (some (.rows [drV d PV] false false) :: some (.rows [[.nils,.nils]] false false) :: some (.rows (yh d d.n) false false) :: some (.rows (z) false false) :: some (.rows [[.ms 2 0 d.n (some d.n),.ms 3 0 d.n (some d.n)]] false false) :: jl d.m) []) (xbJ hne)
        show some (AV.int .i64 _)=some (AV.int .i64 _)
        congr 2
      ·have hk:¬ ((k:Nat):Int) < ((d.n:Nat):Int):=h5
       obtain rfl:k=d.n:=by omega
       repeat ((first | refine za rfl ?_ | refine qa rfl ?_ | refine And.intro rfl ?_);conv=>whnf)
       exact gbX rfl rfl (fun s hs=>vP hs) hzm
     ·subst hPV;exact congrArg (fun y=>Heap.mk (some (.rows [drV d _] false false) :: some (.rows [[.nils,.nils]] false false) :: some (.rows (yh d d.n) false false) :: some (.rows (we 5 0 d.n y) false false) :: some (.rows [[.ms 2 0 d.n (some d.n),.ms 3 0 d.n (some d.n)]] false false) :: jl y) []) hm2
end
end Go.Abs
