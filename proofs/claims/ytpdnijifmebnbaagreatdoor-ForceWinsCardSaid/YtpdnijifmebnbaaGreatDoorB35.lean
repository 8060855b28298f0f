/-
  Steps to a law of this program: SDr3.
  Conditions: none.
-/
import Derived.Test.YtpdnijifmebnbaaGreatDoorB34
set_option linter.unusedVariables false
set_option linter.unusedSimpArgs false
set_option linter.unusedSectionVars false
namespace Go.Abs
noncomputable section
open Go.Proofs
set_option maxRecDepth 100000
theorem wR {α:Type} [Inhabited α] {l:List α} {f:α→AV} {i:Nat} (hi:i < l.length) (d:α):(l.map f)[((i:Nat):Int).toNat * 1]? = some (f (l.getD i d)):=by simp [hi]
theorem uac {l:List Nat} {i:Nat} (hi:i < l.length):(osV l)[0 + i]? = some [.int .i64 ((l.getD i 0:Nat):Int)]:=by simp [osV,hi]
theorem vaH {l:List Nat} {i k:Nat} {z:Int} (hz:z=((l.getD i 0 + k:Nat):Int)):(osV l).set (0 + i) [.int .i64 z]=osV (uA l i k):=by
 subst hz
 simp [osV,uA,List.map_set]
def ubW:List Br→AV
 | []=>.nils
 | b :: L=>.ms 5 0 (b :: L).length none
def ybX:List Br→List (Option Blk)
 | []=>[]
 | b :: L=>[some (.rows ((b :: L).map brV) true false)]
theorem yaw (L:List Br):∀ r∈L.map brV,r.length=2∧r.all okc=true:=fun r hr=>by
 obtain ⟨b,_,rfl⟩:=List.mem_map.1 hr
 exact ⟨rfl,rfl⟩
theorem xah (L:List Br):∀ r∈L.map brV,∀ x∈r,Pure x:=fun r hr x hx=>by
 obtain ⟨b,_,rfl⟩:=List.mem_map.1 hr
 simp only [brV,List.mem_cons,List.not_mem_nil,or_false] at hx
 rcases hx with rfl | rfl
 ·exact .int _ _
 ·exact .str _
set_option maxHeartbeats 4000000 in
theorem vcc {d:Dr} {pk:AV} {p:Pk} (hd:g8 d) (hp:PicksV d.picks pk) (hpk:w8 p) :
  zb Tryz.prog 21 [.agg (drV d pk),.agg (pkV p)] (.agg (chV (d.cho p))):=by
 have hkc:=qao hp
 have hcnt:=gbs hd hp
 have w1:((p.p0 % (d.W + 1):Nat):Int)=((d.one p:Nat):Int):=rfl
 have w2:((d.W:Nat):Int) - ((d.one p:Nat):Int)=((d.W - d.one p:Nat):Int):=by have:=d.one_le p;omega
 have a8:d.gr % 8 < wholes.length:=Nat.mod_lt _ (by decide)
 have a8':d.gr % 8 < 8:=a8
 have b4:p.act % 4 < actsL.length:=Nat.mod_lt _ (by decide)
 have c4:d.ce % 4 < centsL.length:=Nat.mod_lt _ (by decide)
 have b4':p.act % 4 < 4:=b4
 have c4':d.ce % 4 < 4:=c4
 have q3:=hpk.act
 have q4:=hpk.gain
 have q5:=hd.ce
 have hc3:0 < d.c∧d.c≤3:=by
  have key:∀ c∈[1,2,3],0 < c∧c≤3:=by decide
  exact key _ d.c_mem
 have g20:=Nat.mod_lt p.gain (by decide:0 < 20)
 have hof:=waI (n:=p.gain % 20) (d:=d.c) (by omega) (by omega) hc3.1
 have q1:=hpk.p0
 have q2:=hpk.p1
 have hg:=hd.gr
 have hW:=d.W_le
 have ho:=d.one_le p
 have ht:=d.two_le p
 have hn0:=d.n_pos
 have v0:=hpk.t0
 have v1:=hpk.t1
 have v2:=hpk.t2
 have m0:=Nat.mod_lt p.t0 d.n_pos
 have m1:=Nat.mod_lt p.t1 d.n_pos
 have m2:=Nat.mod_lt p.t2 d.n_pos
 obtain ⟨P0,hP0⟩:∃ P,List.replicate d.n 0=P:=⟨_,rfl⟩
 obtain ⟨P1,hP1⟩:∃ P,uA P0 (p.t0 % d.n) (d.one p)=P:=⟨_,rfl⟩
 obtain ⟨P2,hP2⟩:∃ P,uA P1 (p.t1 % d.n) (d.two p)=P:=⟨_,rfl⟩
 obtain ⟨P3,hP3⟩:∃ P,uA P2 (p.t2 % d.n) (d.W - d.one p - d.two p)=P:=⟨_,rfl⟩
 have l0:P0.length=d.n:=by rw [← hP0];simp
 have l1:P1.length=d.n:=by rw [← hP1,y7,l0]
 have l2:P2.length=d.n:=by rw [← hP2,y7,l1]
 have l3:P3.length=d.n:=by rw [← hP3,y7,l2]
 have hparts:d.parts p=P3:=by unfold Dr.parts;rw [hP0,hP1,hP2,hP3]
 have r0:=uac (l:=P0) (i:=p.t0 % d.n) (by omega)
 have r1:=uac (l:=P1) (i:=p.t1 % d.n) (by omega)
 have r2:=uac (l:=P2) (i:=p.t2 % d.n) (by omega)
 have u0:P0.sum=0:=by rw [← hP0];simp
 have u1:P1.sum=d.one p:=by rw [← hP1,zah (by omega),u0];simp
 have u2:P2.sum=d.one p + d.two p:=by rw [← hP2,zah (by omega),u1]
 have x0:=xS P0 (p.t0 % d.n)
 have x1:=xS P1 (p.t1 % d.n)
 have x2:=xS P2 (p.t2 % d.n)
 have w3:((d.W - d.one p:Nat):Int) - ((d.two p:Nat):Int)=((d.W - d.one p - d.two p:Nat):Int):=by have:=d.two_le p;omega
 have hn5:=d.n_le
 obtain ⟨PV,hPV⟩:∃ v,v=pk:=⟨_,rfl⟩
 have pD:=yan hp
 have hp2:=hp
 obtain ⟨ps,hps⟩:∃ ps,d.picks=ps:=⟨_,rfl⟩
 rw [hps] at hp2
 clear hp
 rcases hp2 with _ | ⟨_,c⟩
 all_goals
  refine yc (wb pD (wQ p)) (.agg _ fun i hi=>jF _ _ (List.getElem_mem hi)) (jb yd mixed Tryz.func21 rfl (by decide +kernel) ?_)
  conv=>whnf
  repeat ((first | refine And.intro ⟨rfl,by decide,hkc⟩ ?_ | refine And.intro ⟨rfl,by decide,rfl⟩ ?_ | refine And.intro ⟨by decide,rfl⟩ ?_ | refine za rfl ?_ | refine wa hcnt (vb pD) ?_ | refine And.intro rfl (un d.gr 8 rfl rfl (by decide) ?_) | refine And.intro ⟨by omega,by omega⟩ ⟨.int .i64 ((d.W:Nat):Int),wR (l:=wholes) (f:=fun k=>.int .i64 ((k:Nat):Int)) a8 1,?_⟩ | refine And.intro ⟨by decide,by decide⟩ (And.intro (Nat.le_of_ble_eq_true rfl) ?_) | refine And.intro rfl (zi (d.W + 1) (by push_cast;rfl) (wm _ (by omega)) ?_) | refine And.intro rfl (un p.p0 (d.W + 1) rfl rfl (by omega) ?_) | refine And.intro rfl (zi (d.W - d.one p) w2 (wm _ (by omega)) ?_) | refine And.intro rfl (zi (d.W - d.one p + 1) (by push_cast;rfl) (wm _ (by omega)) ?_) | refine And.intro rfl (un p.p1 (d.W - d.one p + 1) rfl rfl (by omega) ?_) | refine And.intro rfl (ub (by omega) ?_) | refine ub (by omega) ?_ | refine And.intro rfl ?_);conv=>whnf)
  refine uC (n:=d.n) (m:=d.n) (rs:=osV P0) rfl rfl ⟨Nat.le_refl _,by show 8 * d.n≤_;omega,by omega⟩ ⟨by decide,rfl⟩ (by rw [← hP0];simp [osV]) ?_
  conv=>whnf
  repeat ((first | refine za rfl ?_ | refine And.intro ⟨by decide,by decide⟩ (And.intro (Nat.le_of_ble_eq_true rfl) ?_) | refine And.intro rfl (zi (d.W - d.one p) w2 (wm _ (by omega)) ?_) | refine And.intro rfl (zi (d.W - d.one p - d.two p) w3 (wm _ (by omega)) ?_) | refine ub (by omega) ?_ | refine And.intro rfl (un p.t0 d.n rfl rfl (by omega) ?_) | refine gg (p.t0 % d.n) rfl m0 (by decide) r0 rfl ?_ | refine za (r:=.int .i64 ((P0.getD (p.t0 % d.n) 0:Nat):Int)) (by rw [r0];rfl) ?_ | refine And.intro rfl (zi (P0.getD (p.t0 % d.n) 0 + d.one p) (Int.natCast_add _ _).symm (wm _ (by omega)) ?_) | refine And.intro rfl ?_);conv=>whnf)
  refine vn (rs':=osV P1) r0 rfl (by rw [← hP1];exact vaH rfl) ?_
  conv=>whnf
  repeat ((first | refine za rfl ?_ | refine And.intro ⟨by decide,by decide⟩ (And.intro (Nat.le_of_ble_eq_true rfl) ?_) | refine And.intro rfl (zi (d.W - d.one p) w2 (wm _ (by omega)) ?_) | refine And.intro rfl (zi (d.W - d.one p - d.two p) w3 (wm _ (by omega)) ?_) | refine ub (by omega) ?_ | refine And.intro rfl (un p.t1 d.n rfl rfl (by omega) ?_) | refine gg (p.t1 % d.n) rfl m1 (by decide) r1 rfl ?_ | refine za (r:=.int .i64 ((P1.getD (p.t1 % d.n) 0:Nat):Int)) (by rw [r1];rfl) ?_ | refine And.intro rfl (zi (P1.getD (p.t1 % d.n) 0 + d.two p) (Int.natCast_add _ _).symm (wm _ (by omega)) ?_) | refine And.intro rfl ?_);conv=>whnf)
  refine vn (rs':=osV P2) r1 rfl (by rw [← hP2];exact vaH rfl) ?_
  conv=>whnf
  repeat ((first | refine za rfl ?_ | refine And.intro ⟨by decide,by decide⟩ (And.intro (Nat.le_of_ble_eq_true rfl) ?_) | refine And.intro rfl (zi (d.W - d.one p) w2 (wm _ (by omega)) ?_) | refine And.intro rfl (zi (d.W - d.one p - d.two p) w3 (wm _ (by omega)) ?_) | refine ub (by omega) ?_ | refine And.intro rfl (un p.t2 d.n rfl rfl (by omega) ?_) | refine gg (p.t2 % d.n) rfl m2 (by decide) r2 rfl ?_ | refine za (r:=.int .i64 ((P2.getD (p.t2 % d.n) 0:Nat):Int)) (by rw [r2];rfl) ?_ | refine And.intro rfl (zi (P2.getD (p.t2 % d.n) 0 + (d.W - d.one p - d.two p)) (Int.natCast_add _ _).symm (wm _ (by omega)) ?_) | refine And.intro rfl ?_);conv=>whnf)
  refine vn (rs':=osV P3) r2 rfl (by rw [← hP3];exact vaH rfl) ?_
  conv=>whnf
  refine Or.inl ⟨by decide +kernel,?_⟩
  conv=>whnf
  repeat ((first | (refine ⟨_,_,fun K hK=>(by (conv=>whnf);first | exact hK | exact za rfl hK | exact And.intro ⟨by decide,rfl⟩ hK | exact And.intro rfl (un p.act 4 rfl rfl (by decide) hK) | exact And.intro rfl (un p.gain 20 rfl rfl (by decide) hK) | exact And.intro rfl (un d.ce 4 rfl rfl (by decide) hK) | exact And.intro ⟨by omega,by omega⟩ ⟨.str (actsL.getD (p.act % 4) []),wR (l:=actsL) (f:=AV.str) b4 [],hK⟩ | exact And.intro ⟨by omega,by omega⟩ ⟨.int .i64 ((d.c:Nat):Int),wR (l:=centsL) (f:=fun k=>.int .i64 ((k:Nat):Int)) c4 1,hK⟩ | exact ub (by omega) hK | exact wa hof (wb (.int _ _) (.int _ _)) hK | (refine qa rfl ?_;(conv=>whnf);exact hK)),?_⟩;first | refine Or.inl ⟨rfl,(by repeat' (first | exact True.intro | refine And.intro ?_ ?_ | exact Or.inl (by decide +kernel) | decide +kernel | exact Or.inr (fun K hK=>(by (conv=>whnf);first | exact hK | exact za rfl hK | exact And.intro ⟨by decide,rfl⟩ hK | exact And.intro rfl (un p.act 4 rfl rfl (by decide) hK) | exact And.intro rfl (un p.gain 20 rfl rfl (by decide) hK) | exact And.intro rfl (un d.ce 4 rfl rfl (by decide) hK) | exact And.intro ⟨by omega,by omega⟩ ⟨.str (actsL.getD (p.act % 4) []),wR (l:=actsL) (f:=AV.str) b4 [],hK⟩ | exact And.intro ⟨by omega,by omega⟩ ⟨.int .i64 ((d.c:Nat):Int),wR (l:=centsL) (f:=fun k=>.int .i64 ((k:Nat):Int)) c4 1,hK⟩ | exact ub (by omega) hK | exact wa hof (wb (.int _ _) (.int _ _)) hK | (refine qa rfl ?_;(conv=>whnf);exact hK))))),?_⟩ | refine Or.inr (zo (by repeat' (first | exact True.intro | refine And.intro ?_ ?_ | exact Or.inl (by decide +kernel) | decide +kernel | exact Or.inr (fun K hK=>(by (conv=>whnf);first | exact hK | exact za rfl hK | exact And.intro ⟨by decide,rfl⟩ hK | exact And.intro rfl (un p.act 4 rfl rfl (by decide) hK) | exact And.intro rfl (un p.gain 20 rfl rfl (by decide) hK) | exact And.intro rfl (un d.ce 4 rfl rfl (by decide) hK) | exact And.intro ⟨by omega,by omega⟩ ⟨.str (actsL.getD (p.act % 4) []),wR (l:=actsL) (f:=AV.str) b4 [],hK⟩ | exact And.intro ⟨by omega,by omega⟩ ⟨.int .i64 ((d.c:Nat):Int),wR (l:=centsL) (f:=fun k=>.int .i64 ((k:Nat):Int)) c4 1,hK⟩ | exact ub (by omega) hK | exact wa hof (wb (.int _ _) (.int _ _)) hK | (refine qa rfl ?_;(conv=>whnf);exact hK))))) ?_)));conv=>whnf)
  refine gf yd mixed 117 (fun z:Nat × List Br=>d.n - z.1) (fun z=>z.1≤d.n∧z.2=brU d.W P3 z.1)
   (fun z=>[(4,.ptr 2 0 0),(5,.int .i64 ((d.n:Nat):Int)),(6,.int .i64 ((d.W:Nat):Int)),(9,.ms 3 0 d.n (some d.n)),(10,.ptr 4 0 0),(11,.int .i64 ((z.1:Nat):Int))])
   (fun z=>⟨[some (.rows [drV d PV] false false),some (.rows [pkV p] false false),some (.rows [[.str [],.str [],.nils]] false false),some (.rows (osV P3) false false),some (.rows [[.str (actsL.getD (p.act % 4) []),.str (qN (p.gain % 20) d.c),ubW z.2]] false false)] ++ ybX z.2,[]⟩) ?_ (0,[]) _ ⟨Nat.zero_le _,rfl⟩ (by rw [hPV];rfl) rfl ⟨rfl,rfl,rfl,rfl,rfl,rfl,trivial⟩
  rintro ⟨t,L⟩ g1 ⟨i1,i2⟩
  replace i1:t≤d.n:=i1
  replace i2:L=brU d.W P3 t:=i2
  have hLl:L.length≤t:=by rw [i2];exact uaU t
  rcases L with _ | ⟨b,L⟩
  all_goals
   conv=>whnf
   refine yf (fun h4 => ?_) (fun h4 => ?_) <;> conv=>whnf
  ·have hi:t < d.n:=by have:((t:Nat):Int) < ((d.n:Nat):Int):=h4;omega
   have rt:=uac (l:=P3) (i:=t) (by omega)
   obtain ⟨k,hk⟩:∃ k,P3.getD t 0=k:=⟨_,rfl⟩
   have hkW:k≤d.W:=by have:=xS P3 t;rw [hk] at this;have:=d.parts_sum p;rw [hparts] at this;omega
   rw [hk] at rt
   repeat ((first | refine gg t rfl hi (by decide) rt rfl ?_ | refine za (r:=.int .i64 ((k:Nat):Int)) (by rw [rt];rfl) ?_ | refine And.intro rfl ?_);conv=>whnf)
   refine yf (fun h5 => ?_) (fun h5 => ?_) <;> conv=>whnf
   ·have hk0:0 < k:=by have:((k:Nat):Int) > 0:=h5;omega
    have hofk:=waI (n:=k) (d:=d.W) (by omega) (by omega) hW.1
    have hnext:brU d.W P3 (t + 1)=[gt d.W t k]:=by
     have:brU d.W P3 (t + 1)=brU d.W P3 t ++ [gt d.W t k]:=by rw [brU,hk,if_pos hk0]
     rw [this,← i2];rfl
    refine Or.inl ⟨by decide +kernel,?_⟩
    conv=>whnf
    repeat ((first | (refine ⟨_,_,fun K hK=>(by (conv=>whnf);first | exact hK | exact za rfl hK | exact gg t rfl hi (by decide) rt rfl hK | exact za (r:=.int .i64 ((k:Nat):Int)) (by rw [rt];rfl) hK | exact wa hofk (wb (.int _ _) (.int _ _)) hK | (refine ⟨by decide,by decide,rfl,?_⟩;(conv=>whnf);exact Or.inr hK) | (refine And.intro ⟨rfl,trivial⟩ ?_;(conv=>whnf);exact zB (by decide) ⟨rfl,rfl⟩ hK) | (refine qa rfl ?_;(conv=>whnf);exact hK)),?_⟩;first | refine Or.inl ⟨rfl,(by repeat' (first | exact True.intro | refine And.intro ?_ ?_ | exact Or.inl (by decide +kernel) | decide +kernel | exact Or.inr (fun K hK=>(by (conv=>whnf);first | exact hK | exact za rfl hK | exact gg t rfl hi (by decide) rt rfl hK | exact za (r:=.int .i64 ((k:Nat):Int)) (by rw [rt];rfl) hK | exact wa hofk (wb (.int _ _) (.int _ _)) hK | (refine ⟨by decide,by decide,rfl,?_⟩;(conv=>whnf);exact Or.inr hK) | (refine And.intro ⟨rfl,trivial⟩ ?_;(conv=>whnf);exact zB (by decide) ⟨rfl,rfl⟩ hK) | (refine qa rfl ?_;(conv=>whnf);exact hK))))),?_⟩ | refine Or.inr (zo (by repeat' (first | exact True.intro | refine And.intro ?_ ?_ | exact Or.inl (by decide +kernel) | decide +kernel | exact Or.inr (fun K hK=>(by (conv=>whnf);first | exact hK | exact za rfl hK | exact gg t rfl hi (by decide) rt rfl hK | exact za (r:=.int .i64 ((k:Nat):Int)) (by rw [rt];rfl) hK | exact wa hofk (wb (.int _ _) (.int _ _)) hK | (refine ⟨by decide,by decide,rfl,?_⟩;(conv=>whnf);exact Or.inr hK) | (refine And.intro ⟨rfl,trivial⟩ ?_;(conv=>whnf);exact zB (by decide) ⟨rfl,rfl⟩ hK) | (refine qa rfl ?_;(conv=>whnf);exact hK))))) ?_)));conv=>whnf)
    repeat ((first | refine And.intro rfl (ub (by omega) ?_) | refine And.intro rfl ?_);conv=>whnf)
    refine ⟨(t + 1,[gt d.W t k]),by show d.n - (t + 1) < d.n - t;omega,⟨hi,hnext.symm⟩,rfl,rfl,rfl,rfl,rfl,rfl,rfl,?_,trivial⟩
    show some (AV.int .i64 _)=some (AV.int .i64 _)
    congr 2
   ·have hk0:¬ 0 < k:=by have:¬ ((k:Nat):Int) > 0:=h5;omega
    have hnext:brU d.W P3 (t + 1)=brU d.W P3 t:=by rw [brU,hk,if_neg hk0]
    repeat ((first | refine And.intro rfl (ub (by omega) ?_) | refine And.intro rfl ?_);conv=>whnf)
    refine ⟨(t + 1,[]),by show d.n - (t + 1) < d.n - t;omega,⟨hi,i2.trans hnext.symm⟩,rfl,rfl,rfl,rfl,rfl,rfl,rfl,?_,trivial⟩
    show some (AV.int .i64 _)=some (AV.int .i64 _)
    congr 2
  ·have hi:¬ ((t:Nat):Int) < ((d.n:Nat):Int):=h4
   obtain rfl:t=d.n:=by omega
   have h1:=(d.brs_ok p).len.1
   rw [hparts,← i2] at h1
   simp at h1
  ·have hi:t < d.n:=by have:((t:Nat):Int) < ((d.n:Nat):Int):=h4;omega
   have rt:=uac (l:=P3) (i:=t) (by omega)
   obtain ⟨k,hk⟩:∃ k,P3.getD t 0=k:=⟨_,rfl⟩
   have hkW:k≤d.W:=by have:=xS P3 t;rw [hk] at this;have:=d.parts_sum p;rw [hparts] at this;omega
   rw [hk] at rt
   repeat ((first | refine gg t rfl hi (by decide) rt rfl ?_ | refine za (r:=.int .i64 ((k:Nat):Int)) (by rw [rt];rfl) ?_ | refine And.intro rfl ?_);conv=>whnf)
   refine yf (fun h5 => ?_) (fun h5 => ?_) <;> conv=>whnf
   ·have hk0:0 < k:=by have:((k:Nat):Int) > 0:=h5;omega
    have hofk:=waI (n:=k) (d:=d.W) (by omega) (by omega) hW.1
    have hnext:brU d.W P3 (t + 1)=b :: (L ++ [gt d.W t k]):=by
     have:brU d.W P3 (t + 1)=brU d.W P3 t ++ [gt d.W t k]:=by rw [brU,hk,if_pos hk0]
     rw [this,← i2];rfl
    have hll:(b :: L).length=((b :: L).map brV).length:=by simp
    refine Or.inl ⟨by decide +kernel,?_⟩
    conv=>whnf
    repeat ((first | (refine ⟨_,_,fun K hK=>(by (conv=>whnf);first | exact hK | exact za rfl hK | exact gg t rfl hi (by decide) rt rfl hK | exact za (r:=.int .i64 ((k:Nat):Int)) (by rw [rt];rfl) hK | exact wa hofk (wb (.int _ _) (.int _ _)) hK | (refine ⟨by decide,by decide,rfl,?_⟩;(conv=>whnf);exact Or.inr hK) | (refine And.intro ⟨rfl,trivial⟩ ?_;(conv=>whnf);exact wy (rs:=(b :: L).map brV) rfl (by decide) ⟨rfl,rfl⟩ (yaw _) ⟨Nat.succ_pos _,hll,by show ((b :: L).length + 1) * 24≤_;omega⟩ hK) | (refine qa rfl ?_;(conv=>whnf);exact hK)),?_⟩;first | refine Or.inl ⟨rfl,(by repeat' (first | exact True.intro | refine And.intro ?_ ?_ | exact Or.inl (by decide +kernel) | decide +kernel | exact Or.inr (fun K hK=>(by (conv=>whnf);first | exact hK | exact za rfl hK | exact gg t rfl hi (by decide) rt rfl hK | exact za (r:=.int .i64 ((k:Nat):Int)) (by rw [rt];rfl) hK | exact wa hofk (wb (.int _ _) (.int _ _)) hK | (refine ⟨by decide,by decide,rfl,?_⟩;(conv=>whnf);exact Or.inr hK) | (refine And.intro ⟨rfl,trivial⟩ ?_;(conv=>whnf);exact wy (rs:=(b :: L).map brV) rfl (by decide) ⟨rfl,rfl⟩ (yaw _) ⟨Nat.succ_pos _,hll,by show ((b :: L).length + 1) * 24≤_;omega⟩ hK) | (refine qa rfl ?_;(conv=>whnf);exact hK))))),?_⟩ | refine Or.inr (zo (by repeat' (first | exact True.intro | refine And.intro ?_ ?_ | exact Or.inl (by decide +kernel) | decide +kernel | exact Or.inr (fun K hK=>(by (conv=>whnf);first | exact hK | exact za rfl hK | exact gg t rfl hi (by decide) rt rfl hK | exact za (r:=.int .i64 ((k:Nat):Int)) (by rw [rt];rfl) hK | exact wa hofk (wb (.int _ _) (.int _ _)) hK | (refine ⟨by decide,by decide,rfl,?_⟩;(conv=>whnf);exact Or.inr hK) | (refine And.intro ⟨rfl,trivial⟩ ?_;(conv=>whnf);exact wy (rs:=(b :: L).map brV) rfl (by decide) ⟨rfl,rfl⟩ (yaw _) ⟨Nat.succ_pos _,hll,by show ((b :: L).length + 1) * 24≤_;omega⟩ hK) | (refine qa rfl ?_;(conv=>whnf);exact hK))))) ?_)));conv=>whnf)
    repeat ((first | refine And.intro rfl (ub (by omega) ?_) | refine And.intro rfl ?_);conv=>whnf)
    refine ⟨(t + 1,b :: (L ++ [gt d.W t k])),by show d.n - (t + 1) < d.n - t;omega,⟨hi,hnext.symm⟩,?_,rfl,rfl,rfl,rfl,rfl,rfl,?_,trivial⟩
    ·have eN:(b :: L).length + 1=(b :: (L ++ [gt d.W t k])).length:=by simp
     have eL:(b :: L).map brV ++ [brV (gt d.W t k)]=(b :: (L ++ [gt d.W t k])).map brV:=by simp
     exact (congrArg (fun z=>Heap.mk [some (.rows [drV d PV] false false),some (.rows [pkV p] false false),some (.rows [[.str [],.str [],.nils]] false false),some (.rows (osV P3) false false),some (.rows [[.str (actsL.getD (p.act % 4) []),.str (qN (p.gain % 20) d.c),.ms 5 0 (z) none]] false false),some (.rows ((b :: L).map brV ++ [brV (gt d.W t k)]) true false)] []) eN).trans (congrArg (fun z=>Heap.mk [some (.rows [drV d PV] false false),some (.rows [pkV p] false false),some (.rows [[.str [],.str [],.nils]] false false),some (.rows (osV P3) false false),some (.rows [[.str (actsL.getD (p.act % 4) []),.str (qN (p.gain % 20) d.c),.ms 5 0 ((b :: (L ++ [gt d.W t k])).length) none]] false false),some (.rows (z) true false)] []) eL)
    show some (AV.int .i64 _)=some (AV.int .i64 _)
    congr 2
   ·have hk0:¬ 0 < k:=by have:¬ ((k:Nat):Int) > 0:=h5;omega
    have hnext:brU d.W P3 (t + 1)=brU d.W P3 t:=by rw [brU,hk,if_neg hk0]
    repeat ((first | refine And.intro rfl (ub (by omega) ?_) | refine And.intro rfl ?_);conv=>whnf)
    refine ⟨(t + 1,b :: L),by show d.n - (t + 1) < d.n - t;omega,⟨hi,i2.trans hnext.symm⟩,rfl,rfl,rfl,rfl,rfl,rfl,rfl,?_,trivial⟩
    show some (AV.int .i64 _)=some (AV.int .i64 _)
    congr 2
  ·have hi:¬ ((t:Nat):Int) < ((d.n:Nat):Int):=h4
   obtain rfl:t=d.n:=by omega
   repeat ((first | refine za rfl ?_ | refine qa rfl ?_ | refine And.intro rfl ?_);conv=>whnf)
   refine .agg _ _ rfl fun i hi => ?_
   match i,hi with
   | 0,_=>exact fun _=>.pure _ (.str _)
   | 1,_=>exact fun _=>.pure _ (.str _)
   | 2,_ =>
    intro _
    have e:(d.cho p).l=b :: L:=by show brU d.W (d.parts p) d.n=_;rw [hparts,← i2]
    show Frz _ (.ms 5 0 (b :: L).length none) (.vs ((d.cho p).l.map brV) none)
    rw [e]
    exact gN rfl (xah _) (by simp)
end
end Go.Abs
