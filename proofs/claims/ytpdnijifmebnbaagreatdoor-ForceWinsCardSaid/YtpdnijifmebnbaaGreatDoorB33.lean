/-
  Steps to a law of this program: SKt8, SRg2, SRg3, SRg4, SRg5, SRg6, SWn1, SWn2.
  Conditions: none.
-/
import Derived.Test.YtpdnijifmebnbaaGreatDoorB25
import Derived.Test.YtpdnijifmebnbaaGreatDoorB26
import Derived.Test.YtpdnijifmebnbaaGreatDoorB27
import Derived.Test.YtpdnijifmebnbaaGreatDoorB28
import Derived.Test.YtpdnijifmebnbaaGreatDoorB29
import Derived.Test.YtpdnijifmebnbaaGreatDoorB30
import Derived.Test.YtpdnijifmebnbaaGreatDoorB31
import Derived.Test.YtpdnijifmebnbaaGreatDoorB32
import Derived.Test.YtpdnijifmebnbaaGreatDoorB23
import Derived.Test.YtpdnijifmebnbaaGreatDoorB24
set_option linter.unusedVariables false
set_option linter.unusedSimpArgs false
set_option linter.unusedSectionVars false
namespace Go.Abs
noncomputable section
open Go.Proofs
set_option maxRecDepth 1000000
def uq:List (Nat × Nat):=tp0 ++ tp1 ++ tp2 ++ tp3 ++ tp4 ++ tp5 ++ tp6 ++ tp7
def denoms:List Nat:=[1,2,3,4,5,6,10,20,25,50,100]
theorem qb1:wj (kIs [] [] 100000 86) (denoms.map fun d=>([.str (tx d)],.tup [.int .i64 ((d:Nat):Int),.bool true]))=true:=by decide +kernel
theorem jr {f:FuncId} {α:Type} {l:List α} {F:α→List AV × AV} (h:wj (kIs [] [] 100000 f) (l.map F)=true) {p:α} (hp:p∈l):KnownSem Tryz.prog f (F p).1 (F p).2 :=
 uaM vaA (qaW h _ (List.mem_map.2 ⟨p,hp,rfl⟩))
theorem qa2 {p:Nat × Nat} (hp:p∈uq):waX (qt p.1 p.2) p.1 p.2:=by
 simp only [uq,List.mem_append] at hp
 rcases hp with (((((((hp | hp) | hp) | hp) | hp) | hp) | hp) | hp)
 ·exact jr jbI hp
 ·exact jr ubI hp
 ·exact jr vbI hp
 ·exact jr wbI hp
 ·exact jr xbI hp
 ·exact jr ybI hp
 ·exact jr zbI hp
 ·exact jr gbH hp
theorem xa4 {p:Nat × Nat} (hp:p∈uq):zb Tryz.prog 61 [.str (qt p.1 p.2)] (.bool true):=by
 simp only [uq,List.mem_append] at hp
 rcases hp with (((((((hp | hp) | hp) | hp) | hp) | hp) | hp) | hp)
 ·exact jr qbK hp
 ·exact jr jbK hp
 ·exact jr ubK hp
 ·exact jr vbK hp
 ·exact jr wbK hp
 ·exact jr xbK hp
 ·exact jr ybK hp
 ·exact jr zbK hp
theorem gb1 {d:Nat} (hd:d∈denoms):zb Tryz.prog 86 [.str (tx d)] (.tup [.int .i64 ((d:Nat):Int),.bool true]):=jr qb1 hd
theorem gb6:∀ p∈uq,p.2∈denoms:=by decide +kernel
theorem qb6:∀ p∈uq,p.1≤100∧0 < p.2∧p.2≤100∧Nat.gcd p.1 p.2=1:=by decide +kernel
def wholes:List Nat:=[1,2,3,4,6,10,100,5]
theorem zbQ:∀ w∈wholes,∀ k∈List.range (w + 1),1≤k→(k / Nat.gcd k w,w / Nat.gcd k w)∈uq:=by decide +kernel
theorem zb6:∀ c∈[1,2,3],∀ k∈List.range 20,(k / Nat.gcd k c,c / Nat.gcd k c)∈uq:=by decide +kernel
end
end Go.Abs

namespace Go.Abs
noncomputable section
open Go.Proofs
theorem zb7 {n d m e:Nat} (hd:0 < d) (he:0 < e) (h:n * e=m * d):n / Nat.gcd n d=m / Nat.gcd m e∧d / Nat.gcd n d=e / Nat.gcd m e:=by
 have g0:0 < Nat.gcd n d:=Nat.gcd_pos_of_pos_right n hd
 have k0:0 < Nat.gcd m e:=Nat.gcd_pos_of_pos_right m he
 have c1:Nat.gcd (n / Nat.gcd n d) (d / Nat.gcd n d)=1:=by rw [Nat.gcd_div (Nat.gcd_dvd_left n d) (Nat.gcd_dvd_right n d),Nat.div_self g0]
 have c2:Nat.gcd (m / Nat.gcd m e) (e / Nat.gcd m e)=1:=by rw [Nat.gcd_div (Nat.gcd_dvd_left m e) (Nat.gcd_dvd_right m e),Nat.div_self k0]
 obtain ⟨a,ha⟩:=Nat.gcd_dvd_left n d
 obtain ⟨b,hb⟩:=Nat.gcd_dvd_right n d
 obtain ⟨a',ha'⟩:=Nat.gcd_dvd_left m e
 obtain ⟨b',hb'⟩:=Nat.gcd_dvd_right m e
 have ea:n / Nat.gcd n d=a:=by conv=>lhs;lhs;rw [ha]
                               exact Nat.mul_div_cancel_left _ g0
 have eb:d / Nat.gcd n d=b:=by conv=>lhs;lhs;rw [hb]
                               exact Nat.mul_div_cancel_left _ g0
 have ea':m / Nat.gcd m e=a':=by conv=>lhs;lhs;rw [ha']
                                 exact Nat.mul_div_cancel_left _ k0
 have eb':e / Nat.gcd m e=b':=by conv=>lhs;lhs;rw [hb']
                                 exact Nat.mul_div_cancel_left _ k0
 rw [ea,eb,ea',eb']
 rw [ea,eb] at c1
 rw [ea',eb'] at c2
 generalize Nat.gcd n d=G at *
 generalize Nat.gcd m e=H at *
 subst ha hb ha' hb'
 have h1:a * b'=a' * b:=by
  have:G * H * (a * b')=G * H * (a' * b):=by
   calc G * H * (a * b')=G * a * (H * b'):=by ac_rfl
    _=H * a' * (G * b):=h
    _=G * H * (a' * b):=by ac_rfl
  exact Nat.eq_of_mul_eq_mul_left (Nat.mul_pos g0 k0) this
 have d1:b∣b':=(Nat.Coprime.dvd_of_dvd_mul_left (k:=b) (m:=a) (n:=b') (by rw [Nat.coprime_iff_gcd_eq_one,Nat.gcd_comm];exact c1) ⟨a',by rw [h1,Nat.mul_comm]⟩)
 have d2:b'∣b:=(Nat.Coprime.dvd_of_dvd_mul_left (k:=b') (m:=a') (n:=b) (by rw [Nat.coprime_iff_gcd_eq_one,Nat.gcd_comm];exact c2) ⟨a,by rw [← h1,Nat.mul_comm]⟩)
 have e1:b=b':=Nat.dvd_antisymm d1 d2
 subst e1
 have hb0:0 < b:=Nat.pos_of_ne_zero fun e=>by subst e;simp at hd
 exact ⟨Nat.eq_of_mul_eq_mul_right hb0 h1,rfl⟩
theorem zaF {n d m e:Nat} (hd:0 < d) (he:0 < e) (h:n * e=m * d):qN n d=qN m e:=by
 obtain ⟨h1,h2⟩:=zb7 hd he h
 unfold qN
 rw [h1,h2]
theorem wbO {W:Nat} (h:0 < W):qN 0 W=[48]:=by
 have e:qN 0 W=qN 0 1:=zaF h (by decide) (by simp)
 rw [e];decide
theorem vbO {W:Nat} (h:0 < W):qN W W=[49]:=by
 have e:qN W W=qN 1 1:=zaF h (by decide) (by omega)
 rw [e];decide
structure BrsOK (N W:Nat) (l:List Br):Prop where
 whole:0 < W∧W≤100
 ok:∀ b∈l,b.p=qt b.n b.d∧(b.n,b.d)∈uq∧1≤b.n∧b.d∣W
 inc:∀ (i:Nat) (hi:i < l.length),ut l i < (l[i].to:Int)
 lt:∀ b∈l,b.to < N
 sum:xf W l=W
 len:1≤l.length∧l.length≤N
theorem BrsOK.take_le {N W:Nat} {l:List Br} (h:BrsOK N W l) (i:Nat):xf W (l.take i)≤W:=by
 have:=va2 W l i
 rw [h.sum] at this
 exact this
theorem zci {S W n d:Nat} (hW:0 < W) (hd:0 < d) (hdW:d∣W):qN (S / Nat.gcd S W * d + n * (W / Nat.gcd S W)) (W / Nat.gcd S W * d)=qN (S + n * (W / d)) W:=by
 have g0:0 < Nat.gcd S W:=Nat.gcd_pos_of_pos_right S hW
 have v0:0 < W / Nat.gcd S W:=Nat.div_pos (Nat.le_of_dvd hW (Nat.gcd_dvd_right S W)) g0
 refine zaF (Nat.mul_pos v0 hd) hW ?_
 have e1:Nat.gcd S W * (S / Nat.gcd S W)=S:=Nat.mul_div_cancel' (Nat.gcd_dvd_left S W)
 have e2:Nat.gcd S W * (W / Nat.gcd S W)=W:=Nat.mul_div_cancel' (Nat.gcd_dvd_right S W)
 have e3:d * (W / d)=W:=Nat.mul_div_cancel' hdW
 generalize hw:W / d=w at *
 generalize hs:S / Nat.gcd S W=s at *
 generalize hv:W / Nat.gcd S W=v at *
 generalize hg:Nat.gcd S W=g at *
 calc (s * d + n * v) * W=s * d * W + n * v * W:=Nat.add_mul ..
  _=s * d * (g * v) + n * v * (d * w):=by rw [e2,e3]
  _=(g * s) * (v * d) + n * w * (v * d):=by congr 1 <;> ac_rfl
  _=(S + n * w) * (v * d):=by rw [e1,Nat.add_mul]
end
end Go.Abs

namespace Go.Abs
noncomputable section
open Go.Proofs
theorem zaf {n d:Nat} (h:(n,d)∈uq):n≤100∧0 < d∧d≤100∧qN n d=qt n d:=by
 obtain ⟨h1,h2,h3,h4⟩:=qb6 _ h
 refine ⟨h1,h2,h3,?_⟩
 simp only at h4
 unfold qN
 rw [h4,Nat.div_one,Nat.div_one]
theorem xW (l:List Br) (c:Option Nat):Pure (.vs (l.map brV) c):=.vs _ _ fun i hi j hj=>by
 have hi':i < l.length:=by simpa using hi
 have e:(l.map brV)[i]=brV l[i]:=by simp
 have hm:(l.map brV)[i][j]∈brV l[i]:=by rw [← e];exact List.getElem_mem _
 simp only [brV,List.mem_cons,List.not_mem_nil,or_false] at hm
 rcases hm with h | h <;> rw [h]
 ·exact .int _ _
 ·exact .str _
theorem za8 (a g:List UInt8) (l:List Br) (c:Option Nat):Pure (.agg [.str a,.str g,.vs (l.map brV) c]):=.agg _ fun i hi=>by
 match i,hi with
 | 0,_=>exact .str _
 | 1,_=>exact .str _
 | 2,_=>exact xW l c
theorem vbY {row:List AV} {g fz:Bool} (h:∀ x∈row,Pure x):LtB [some (.rows [row] g fz)]:=by
 intro b x hb
 match b,hb with
 | 0,hb =>
  injection hb with hb
  subst hb
  exact gL fun y hy=>(h y hy).lt _ _
set_option maxHeartbeats 4000000 in
set_option maxRecDepth 100000 in
theorem wcc {a:List UInt8} {n d N W:Nat} {l:List Br} {c:Option Nat} (ha:uax a) (hg:(n,d)∈uq) (hl:BrsOK N W l) (hN:N≤12) :
  zb Tryz.prog 46 [.agg [.str a,.str (qt n d),.vs (l.map brV) c],.int .i64 ((N:Nat):Int)] (.bool true):=by
 have hlen:(l.map brV).length=l.length:=by simp
 have hll:=hl.len
 obtain ⟨f1,f2,f3,f4⟩:=zaf hg
 have hact:=uci ha
 have hsh:=xa4 hg
 have hsg:=ga3 (n:=n) (d:=d) (by omega) (by omega)
 obtain ⟨z,hz,hz0⟩:∃ z:Int,(if n=0 then 0 else 1)=z∧¬ z < 0:=⟨_,rfl,by split <;> omega⟩
 rw [hz] at hsg
 simp only at hsh
 obtain ⟨w1,w2⟩:=hl.whole
 have e1:((((l.length:Nat):Int)) == 0)=false:=beq_eq_false_iff_ne.2 (by omega)
 have e2:¬ ((l.length:Nat):Int) > ((N:Nat):Int):=by omega
 refine yc (wb (za8 ..) (.int _ _)) (.bool _) (jb yd mixed Tryz.func46 rfl (by decide +kernel) ?_)
 conv=>whnf
 repeat ((first | refine And.intro ⟨rfl,by decide,rfl⟩ ?_ | refine And.intro ⟨by decide,rfl⟩ ?_ | refine za rfl ?_ | refine wa hact (vb (.str _)) ?_ | refine wa hsh (vb (.str _)) ?_ | refine wa hsg (vb (.str _)) ?_ | refine qc hlen ?_ | refine ua rfl ?_ | refine ya rfl ?_ | refine ua (by rw [decide_eq_false hz0];rfl) ?_ | refine ya (decide_eq_false hz0) ?_ | refine ua (by rw [e1];rfl) ?_ | refine ya e1 ?_ | refine ya (decide_eq_false e2) ?_ | refine And.intro rfl ?_);conv=>whnf)
 refine jz yd mixed 80 (fun i:Nat=>l.length - i) (fun i=>i≤l.length)
  (fun i=>[(1,.int .i64 ((N:Nat):Int)),(2,.ptr 0 0 0),(5,.str (qN (xf W (l.take i)) W)),(6,.int .i64 (ut l i)),(7,.int .i64 ((i:Nat):Int))])
  (fun _=>⟨[some (.rows [[.str a,.str (qt n d),.vs (l.map brV) c]] false false)],[]⟩) ?_ ?_ 0 _ (Nat.zero_le _) rfl rfl ⟨rfl,rfl,?_,rfl,rfl,trivial⟩
 ·rintro i -
  refine ⟨rfl,fun q hq => ?_,⟨vbY fun x hx => ?_,fun l r h=>by simp [Heap.loop?] at h⟩,Nat.zero_le _⟩
  ·simp only [List.mem_cons,List.not_mem_nil,or_false] at hq
   rcases hq with rfl | rfl | rfl | rfl | rfl
   ·exact .int _ _
   ·exact .ptr _ _ _ (by simp)
   ·exact .str _
   ·exact .int _ _
   ·exact .int _ _
  ·simp only [List.mem_cons,List.not_mem_nil,or_false] at hx
   rcases hx with rfl | rfl | rfl
   ·exact .str _
   ·exact .str _
   ·exact xW l c
 ·rintro i g1 i1
  replace i1:i≤l.length:=i1
  conv=>whnf
  refine za rfl ?_
  conv=>whnf
  refine qc hlen ?_
  conv=>whnf
  refine yf (fun h4 => ?_) (fun h4 => ?_) <;> conv=>whnf
  ·have hi:i < l.length:=by have:((i:Nat):Int) < ((l.length:Nat):Int):=h4;omega
   obtain ⟨b,hb⟩:∃ b,l[i]=b:=⟨_,rfl⟩
   have hmem:b∈l:=hb ▸ List.getElem_mem hi
   obtain ⟨hp,hfr,hn1,hdW⟩:=hl.ok b hmem
   obtain ⟨k1,k2,k3,k4⟩:=zaf hfr
   have hbi:(l.map brV)[i]? = some [.int .i64 ((b.to:Nat):Int),.str (qt b.n b.d)]:=by simp [hi,hb,brV,hp]
   have hto:=hl.lt b hmem
   have hinc:=hl.inc i hi
   rw [hb] at hinc
   have hsh1:=xa4 hfr
   have hsg1:=ga3 (n:=b.n) (d:=b.d) (by omega) (by omega)
   rw [if_neg (by omega)] at hsg1
   simp only at hsh1
   have htake:=wa2 W l i hi
   rw [hb] at htake
   have hle:=hl.take_le i
   have g0:0 < Nat.gcd (xf W (l.take i)) W:=Nat.gcd_pos_of_pos_right _ w1
   have b1:xf W (l.take i) / Nat.gcd (xf W (l.take i)) W≤100:=Nat.le_trans (Nat.div_le_self _ _) (by omega)
   have b2:W / Nat.gcd (xf W (l.take i)) W≤100:=Nat.le_trans (Nat.div_le_self _ _) (by omega)
   have b3:0 < W / Nat.gcd (xf W (l.take i)) W:=Nat.div_pos (Nat.le_of_dvd w1 (Nat.gcd_dvd_right _ W)) g0
   have m1:=Nat.mul_le_mul b1 k3
   have m2:=Nat.mul_le_mul k1 b2
   have m3:=Nat.mul_le_mul b2 k3
   have hadd:=wci (n:=xf W (l.take i) / Nat.gcd (xf W (l.take i)) W) (d:=W / Nat.gcd (xf W (l.take i)) W) (m:=b.n) (e:=b.d) (by omega) (by omega) (by omega) (by omega) (by omega) (by omega) (by omega) (by omega) b3 k2
   rw [zci w1 k2 hdW,← htake] at hadd
   replace hadd:zb Tryz.prog 63 [.str (qN (xf W (l.take i)) W),.str (qt b.n b.d)] (.str (qN (xf W (l.take (i + 1))) W)):=hadd
   have hlast:¬ ((b.to:Nat):Int)≤ut l i:=by omega
   have hcount:¬ ((b.to:Nat):Int) ≥ ((N:Nat):Int):=by omega
   repeat ((first | refine uc i rfl hbi rfl ?_ | refine And.intro ⟨by decide,rfl⟩ ?_ | refine And.intro ⟨rfl,by decide,rfl⟩ ?_ | refine za rfl ?_ | refine qa rfl ?_ | refine wa hsh1 (vb (.str _)) ?_ | refine wa hsg1 (vb (.str _)) ?_ | refine wa hadd (wb (.str _) (.str _)) ?_ | refine ua rfl ?_ | refine ya rfl ?_ | refine ua (by rw [decide_eq_false hlast];rfl) ?_ | refine ya (decide_eq_false hlast) ?_ | refine ua (by rw [decide_eq_false hcount];rfl) ?_ | refine ya (decide_eq_false hcount) ?_ | refine And.intro rfl (ub (by omega) ?_) | refine And.intro rfl ?_);conv=>whnf)
   refine ⟨i + 1,[_],by show l.length - (i + 1) < l.length - i;omega,hi,rfl,rfl,rfl,rfl,rfl,?_,?_,trivial⟩
   ·show some (AV.int .i64 ((b.to:Nat):Int))=some (AV.int .i64 (ut l (i + 1)))
    simp [ut,hi,hb]
   ·show some (AV.int .i64 _)=some (AV.int .i64 _)
    congr 2
  ·have hi:¬ ((i:Nat):Int) < ((l.length:Nat):Int):=h4
   obtain rfl:i=l.length:=by omega
   repeat ((first | refine And.intro rfl ?_);conv=>whnf)
   rw [List.take_length,hl.sum,vbO w1]
   exact .pure _ (.bool _)
 ·show some (AV.str [48])=some (AV.str (qN 0 W))
  rw [wbO w1]
end
end Go.Abs

namespace Go.Abs
noncomputable section
open Go.Proofs
def gx (L:List (Nat × Nat)):Nat:=L.foldl (fun m p=>Nat.lcm m p.2) 1
theorem xbh {L:List (Nat × Nat)} {i:Nat} (hi:i < L.length):gx (L.take (i + 1))=Nat.lcm (gx (L.take i)) L[i].2:=by
 unfold gx
 rw [List.take_succ_eq_append_getElem hi,List.foldl_append]
 rfl
theorem qaL {L:List (Nat × Nat)} {D:Nat} (h:∀ p∈L,p.2∣D):∀ i,i≤L.length→gx (L.take i)∣D
 | 0,_=>by show 1∣D;exact Nat.one_dvd D
 | i + 1,hi=>by
  rw [xbh hi]
  exact Nat.lcm_dvd (qaL h i (Nat.le_of_succ_le hi)) (h _ (List.getElem_mem hi))
def frV (L:List (Nat × Nat)):List (List AV):=L.map fun p=>[.str (qt p.1 p.2)]
theorem qab (L:List (Nat × Nat)) (c:Option Nat):Pure (.vs (frV L) c):=.vs _ _ fun i hi j hj=>by
 have hi':i < L.length:=by simpa [frV] using hi
 have e:(frV L)[i]=[.str (qt L[i].1 L[i].2)]:=by simp [frV]
 have hm:(frV L)[i][j]∈[AV.str (qt L[i].1 L[i].2)]:=by rw [← e];exact List.getElem_mem _
 rw [List.mem_singleton.1 hm]
 exact .str _
set_option maxHeartbeats 4000000 in
set_option maxRecDepth 100000 in
theorem ubt {L:List (Nat × Nat)} {c:Option Nat} (hL:∀ p∈L,p∈uq∧p.2∣300) (hlen:L.length < 4611686018427387904) :
  zb Tryz.prog 65 [.int .i64 1,.vs (frV L) c] (.int .i64 ((gx L:Nat):Int)):=by
 have hl:(frV L).length=L.length:=by simp [frV]
 have hdv:=qaL fun p hp=>(hL p hp).2
 refine yc (wb (.int _ _) (qab _ _)) (.int _ _) (jb yd mixed Tryz.func65 rfl (by decide +kernel) ?_)
 conv=>whnf
 repeat ((first | refine And.intro rfl ?_);conv=>whnf)
 refine gf yd mixed 52 (fun i:Nat=>L.length - i) (fun i=>i≤L.length)
  (fun i=>[(0,.int .i64 ((gx (L.take i):Nat):Int)),(1,.vs (frV L) c),(5,.int .i64 ((i:Nat):Int))]) (fun _=>⟨[],[]⟩) ?_ 0 _ (Nat.zero_le _) rfl rfl ⟨rfl,rfl,rfl,trivial⟩
 rintro i g1 i1
 replace i1:i≤L.length:=i1
 have hni:=hdv i i1
 have hi2:=fun hi:i < L.length=>hdv (i + 1) hi
 have hli:=fun hi:i < L.length=>xbh hi
 obtain ⟨n,hn⟩:∃ n,gx (L.take i)=n:=⟨_,rfl⟩
 rw [hn] at hni hli ⊢
 have hn0:0 < n:=Nat.pos_of_dvd_of_pos hni (by decide)
 have hn3:n≤300:=Nat.le_of_dvd (by decide) hni
 conv=>whnf
 refine qc hl ?_
 conv=>whnf
 by_cases hi:i < L.length
 ·have e5:decide (((i:Nat):Int) < ((L.length:Nat):Int))=true:=decide_eq_true (by omega)
  replace hi2:=hi2 hi
  replace hli:=hli hi
  obtain ⟨p,hp⟩:∃ p,L[i]=p:=⟨_,rfl⟩
  obtain ⟨pn,pd⟩:=p
  rw [hp] at hli
  simp only at hli
  obtain ⟨hf,hd⟩:=hL _ (List.getElem_mem hi)
  rw [hp] at hf hd
  simp only at hd
  obtain ⟨k1,k2,k3,k4⟩:=zaf hf
  have hbi:(frV L)[i]? = some [.str (qt pn pd)]:=by simp [frV,hi,hp]
  have hparts:=uan (n:=pn) (d:=pd) (by omega) (by omega)
  have hint:=gb1 (gb6 _ hf)
  simp only at hint
  have hlc:Nat.lcm n pd≤300:=Nat.le_of_dvd (by decide) (hli ▸ hi2)
  have e1:¬ ((pd:Nat):Int) > 9999:=by omega
  have e0:((n:Nat):Int) > 0:=by omega
  repeat ((first | refine uc i rfl hbi rfl ?_ | refine za rfl ?_ | refine wa hparts (vb (.str _)) ?_ | refine wa hint (vb (.str _)) ?_ | refine ua (decide_eq_true e0) ?_ | refine ua e5 ?_ | refine ua ((congrArg (· == true) e5).trans rfl) ?_ | refine ua rfl ?_ | refine ya rfl ?_ | refine ya (decide_eq_false e1) ?_ | refine And.intro rfl ?_);conv=>whnf)
  refine gf yd mixed 52 (fun m:Nat=>Nat.lcm n pd - m) (fun m=>0 < m∧n∣m∧m≤Nat.lcm n pd)
   (fun m=>[(0,.int .i64 ((n:Nat):Int)),(1,.vs (frV L) c),(5,.int .i64 ((i:Nat):Int)),(8,.int .i64 ((pd:Nat):Int)),(10,.int .i64 ((m:Nat):Int))]) (fun _=>⟨[],[]⟩) ?_ n _ ⟨hn0,Nat.dvd_refl n,Nat.le_of_dvd (Nat.lcm_pos hn0 k2) (Nat.dvd_lcm_left n pd)⟩ rfl rfl ⟨rfl,rfl,rfl,rfl,rfl,trivial⟩
  rintro m g2 ⟨m1,m2,m3⟩
  conv=>whnf
  refine And.intro rfl (un m pd rfl rfl (by omega) ?_)
  conv=>whnf
  by_cases hmk:m % pd=0
  ·have hml:m=Nat.lcm n pd:=Nat.le_antisymm m3 (Nat.le_of_dvd m1 (Nat.lcm_dvd m2 (Nat.dvd_of_mod_eq_zero hmk)))
   have z1:(((m % pd:Nat):Int) != 0)=false:=by rw [hmk];rfl
   have e2:¬ ((m:Nat):Int) > 9999:=by omega
   repeat ((first | refine ya z1 ?_ | refine ya (decide_eq_false e2) ?_ | refine And.intro rfl (ub (by omega) ?_) | refine And.intro rfl ?_);conv=>whnf)
   refine ⟨i + 1,by show L.length - (i + 1) < L.length - i;omega,hi,rfl,rfl,?_,rfl,?_,trivial⟩
   ·show some (AV.int .i64 ((m:Nat):Int))=some (AV.int .i64 ((gx (L.take (i + 1)):Nat):Int))
    rw [hml,hli]
   ·show some (AV.int .i64 _)=some (AV.int .i64 _)
    congr 2
  ·have z1:(((m % pd:Nat):Int) != 0)=true:=bne_iff_ne.2 (by omega)
   have hlt:m < Nat.lcm n pd:=by
    rcases Nat.lt_or_ge m (Nat.lcm n pd) with h | h
    ·exact h
    ·have:m=Nat.lcm n pd:=Nat.le_antisymm m3 h
     exact absurd (Nat.mod_eq_zero_of_dvd (this ▸ Nat.dvd_lcm_right n pd)) hmk
   have hstep:m + n≤Nat.lcm n pd:=by
    obtain ⟨q,hq⟩:=m2
    obtain ⟨r,hr⟩:=Nat.dvd_lcm_left n pd
    have:q < r:=Nat.lt_of_mul_lt_mul_left (a:=n) (by omega)
    have h2:=Nat.mul_le_mul_left n (Nat.succ_le_of_lt this)
    rw [Nat.mul_succ] at h2
    omega
   repeat ((first | refine ua z1 ?_ | refine And.intro rfl (zi (m + n) (by push_cast;rfl) (wm _ (by omega)) ?_) | refine And.intro rfl ?_);conv=>whnf)
   exact ⟨m + n,by show Nat.lcm n pd - (m + n) < Nat.lcm n pd - m;omega,⟨by omega,Nat.dvd_add m2 (Nat.dvd_refl n),hstep⟩,rfl,rfl,rfl,rfl,rfl,rfl,rfl,trivial⟩
 ·have e5:decide (((i:Nat):Int) < ((L.length:Nat):Int))=false:=decide_eq_false (by omega)
  obtain rfl:i=L.length:=by omega
  rw [List.take_length] at hn
  repeat ((first | refine ya e5 ?_ | refine ya ((congrArg (· == true) e5).trans rfl) ?_ | refine ya rfl ?_ | refine And.intro rfl ?_);conv=>whnf)
  rw [hn]
  exact .pure _ (.int _ _)
end
end Go.Abs

namespace Go.Abs
noncomputable section
open Go.Proofs
set_option maxRecDepth 100000
structure Ch where
 a:List UInt8
 n:Nat
 d:Nat
 W:Nat
 l:List Br
 c:Option Nat
def chV (x:Ch):List AV:=[.str x.a,.str (qt x.n x.d),.vs (x.l.map brV) x.c]
def yb (rows:List (List Ch × Option Nat)):List ChR:=rows.map fun r=>(r.1.map chV,r.2)
structure wB (N:Nat) (x:Ch):Prop where
 name:uax x.a
 gain:(x.n,x.d)∈uq
 dvd:x.d∣300
 brs:BrsOK N x.W x.l
 dvds:∀ b∈x.l,b.d∣300
def xg (x:Ch):List (Nat × Nat):=x.l.map fun b=>(b.n,b.d)
def probs (X:List Ch):List (Nat × Nat):=X.flatMap xg
def vm (X:List Ch):List (Nat × Nat):=X.map fun x=>(x.n,x.d)
def qo (rows:List (List Ch × Option Nat)) (s:Nat):List Ch:=(rows.take s).flatMap (·.1)
theorem ga8 {rows:List (List Ch × Option Nat)} {s:Nat} (hs:s < rows.length):qo rows (s + 1)=qo rows s ++ rows[s].1:=by
 unfold qo
 rw [List.take_succ_eq_append_getElem hs,List.flatMap_append]
 simp
theorem qaF {rows:List (List Ch × Option Nat)} (hc:∀ r∈rows,1≤r.1.length∧r.1.length≤4):∀ {s:Nat},s≤rows.length→(qo rows s).length≤4 * s
 | 0,_=>by simp [qo]
 | s + 1,hs=>by
  rw [ga8 hs,List.length_append]
  have:=qaF hc (s:=s) (by omega)
  have:=(hc _ (List.getElem_mem (l:=rows) hs)).2
  omega
theorem jaF:∀ {X:List Ch},(∀ x∈X,x.l.length≤12)→(probs X).length≤12 * X.length
 | [],_=>by simp [probs]
 | x :: X,h=>by
  have h1:=h x (List.mem_cons_self ..)
  have h2:=jaF (X:=X) fun y hy=>h y (List.mem_cons_of_mem _ hy)
  have e:probs (x :: X)=xg x ++ probs X:=by simp [probs]
  rw [e,List.length_append,List.length_cons]
  have:(xg x).length=x.l.length:=by simp [xg]
  omega
theorem yat (a b:List (Nat × Nat)):frV (a ++ b)=frV a ++ frV b:=by simp [frV]
theorem gaO (a:List (Nat × Nat)):(frV a).length=a.length:=by simp [frV]
theorem zat (a:List (Nat × Nat)):∀ r∈frV a,r.length=1∧r.all okc=true:=fun r hr=>by
 obtain ⟨p,_,rfl⟩:=List.mem_map.1 hr
 exact ⟨rfl,rfl⟩
theorem gas (a:List (Nat × Nat)):∀ r∈frV a,∀ x∈r,Pure x:=fun r hr x hx=>by
 obtain ⟨p,_,rfl⟩:=List.mem_map.1 hr
 rw [List.mem_singleton.1 hx];exact .str _
theorem jF (x:Ch):∀ y∈chV x,Pure y:=fun y hy=>by
 simp only [chV,List.mem_cons,List.not_mem_nil,or_false] at hy
 rcases hy with rfl | rfl | rfl
 ·exact .str _
 ·exact .str _
 ·exact xW _ _
theorem gN {h:Heap} {b:Nat} {es:List (List AV)} {g fz:Bool} {c:Option Nat} (hb:h.blk? b=some (.rows es g fz)) (hp:∀ r∈es,∀ x∈r,Pure x) {len:Nat} (hl:es.length=len):Frz h (.ms b 0 len c) (.vs es c) :=
 .ms b 0 len c es g fz es hb hl (by omega) (fun t ht hr=>by congr 1;simp) fun t ht hr j h1 h2=>by
  have e:es[0 + t][j]=es[t][j]:=by congr 1;simp
  rw [e]
  exact .pure _ (hp _ (List.getElem_mem ht) _ (List.getElem_mem h1))
theorem xo {n m:Nat} {rs:List (List AV)} {g fz:Bool} (h:∀ r∈rs,∀ y∈r,Pure y):(Blk.rows rs g fz).Lt n m:=fun r hr y hy=>(h r hr y hy).lt _ _
section
variable (os:List Nat) (oc:Option Nat) (rows:List (List Ch × Option Nat)) (cc:Option Nat)
def ye:List AV:=[.vs (osV os) oc,.vs (ja (yb rows)) cc]
theorem yW:∀ y∈ye os oc rows cc,Pure y:=fun y hy=>by
 simp only [ye,List.mem_cons,List.not_mem_nil,or_false] at hy
 rcases hy with rfl | rfl
 ·exact wi os oc
 ·refine .vs _ _ fun i hi j hj => ?_
  have hi':i < rows.length:=by simpa [ja,yb] using hi
  have e:(ja (yb rows))[i]=[.vs (rows[i].1.map chV) rows[i].2]:=by simp [ja,yb]
  have hm:(ja (yb rows))[i][j]∈[AV.vs (rows[i].1.map chV) rows[i].2]:=by rw [← e];exact List.getElem_mem _
  rw [List.mem_singleton.1 hm]
  refine .vs _ _ fun k hk t ht => ?_
  have hk':k < rows[i].1.length:=by simpa using hk
  have e2:(rows[i].1.map chV)[k]=chV rows[i].1[k]:=by simp
  have hm2:(rows[i].1.map chV)[k][t]∈chV rows[i].1[k]:=by rw [← e2];exact List.getElem_mem _
  exact jF _ _ hm2
theorem zk:Pure (.agg (ye os oc rows cc)):=.agg _ fun i hi=>yW os oc rows cc _ (List.getElem_mem hi)
def vaI:List Ch→List (Option Blk)
 | []=>[]
 | x :: X=>[some (.rows [chV x] false false),some (.rows (frV (vm (x :: X))) true false),some (.rows (frV (probs (x :: X))) true false)]
def xH (X:List Ch):List (Option Blk):=some (.rows [ye os oc rows cc] false false) :: vaI X
end
def jaI:List Ch→AV
 | []=>.nils
 | x :: X=>.ms 2 0 (vm (x :: X)).length none
def uaI:List Ch→AV
 | []=>.nils
 | x :: X=>.ms 3 0 (probs (x :: X)).length none
theorem gbc (os oc rows cc) (X:List Ch):LtB (xH os oc rows cc X):=by
 intro b x hb
 cases X with
 | nil =>
  match b,hb with
  | 0,hb=>injection hb with hb;subst hb;exact xo fun r hr=>by rw [List.mem_singleton.1 hr];exact yW _ _ _ _
 | cons y Y =>
  match b,hb with
  | 0,hb=>injection hb with hb;subst hb;exact xo fun r hr=>by rw [List.mem_singleton.1 hr];exact yW _ _ _ _
  | 1,hb=>injection hb with hb;subst hb;exact xo fun r hr=>by rw [List.mem_singleton.1 hr];exact jF _
  | 2,hb=>injection hb with hb;subst hb;exact xo (gas _)
  | 3,hb=>injection hb with hb;subst hb;exact xo (gas _)
theorem zbd (os oc rows cc) (X:List Ch):Lt (xH os oc rows cc X).length 0 (jaI X):=by
 cases X with
 | nil=>exact .nils
 | cons y Y=>exact .ms _ _ _ _ (by simp [xH,vaI])
theorem qbc (os oc rows cc) (X:List Ch):Lt (xH os oc rows cc X).length 0 (uaI X):=by
 cases X with
 | nil=>exact .nils
 | cons y Y=>exact .ms _ _ _ _ (by simp [xH,vaI])
set_option maxHeartbeats 4000000 in
theorem ybW {os:List Nat} {oc cc:Option Nat} {rows:List (List Ch × Option Nat)} {N:Nat} (hok:∀ r∈rows,∀ x∈r.1,wB N x) (hn:rows.length≤12) (hN:N≤12) (hc:∀ r∈rows,1≤r.1.length∧r.1.length≤4) (h0:1≤rows.length) :
  zb Tryz.prog 64 [.agg (ye os oc rows cc)] (.tup [.vs (frV (probs (qo rows rows.length))) none,.vs (frV (vm (qo rows rows.length))) none]):=by
 letI:FH:=gZ
 have hlr:(ja (yb rows)).length=rows.length:=by simp [ja,yb]
 refine yc (vb (zk ..)) (xz (qab _ _) (qab _ _)) (jb yd mixed Tryz.func64 rfl (by decide +kernel) ?_)
 conv=>whnf
 repeat ((first | refine And.intro ⟨rfl,by decide,rfl⟩ ?_ | refine And.intro rfl ?_);conv=>whnf)
 refine jz yd mixed 58 (fun z:Nat × List Ch=>rows.length - z.1) (fun z=>z.1≤rows.length∧z.2=qo rows z.1)
  (fun z=>[(1,.ptr 0 0 0),(4,uaI z.2),(5,jaI z.2),(6,.int .i64 ((z.1:Nat):Int))]) (fun z=>⟨xH os oc rows cc z.2,[]⟩) ?_ ?_ (0,[]) _ ⟨Nat.zero_le _,rfl⟩ rfl rfl ⟨rfl,rfl,rfl,rfl,trivial⟩
 ·rintro ⟨s,X⟩ -
  refine ⟨rfl,fun q hq => ?_,⟨gbc _ _ _ _ _,fun l r h=>by simp [Heap.loop?] at h⟩,Nat.zero_le _⟩
  simp only [List.mem_cons,List.not_mem_nil,or_false] at hq
  rcases hq with rfl | rfl | rfl | rfl
  ·exact .ptr _ _ _ (by simp [xH])
  ·exact qbc ..
  ·exact zbd ..
  ·exact .int _ _
 ·rintro ⟨s,X⟩ g1 ⟨i1,i2⟩
  replace i1:s≤rows.length:=i1
  replace i2:X=qo rows s:=i2
  conv=>whnf
  refine za rfl ?_
  conv=>whnf
  refine qc hlr ?_
  conv=>whnf
  refine yf (fun h4 => ?_) (fun h4 => ?_) <;> conv=>whnf
  ·have hs:s < rows.length:=by have:((s:Nat):Int) < ((rows.length:Nat):Int):=h4;omega
   obtain ⟨r,hr⟩:∃ r,rows[s]=r:=⟨_,rfl⟩
   have hmem:r∈rows:=hr ▸ List.getElem_mem hs
   have hri:(ja (yb rows))[s]? = some [.vs (r.1.map chV) r.2]:=by simp [ja,yb,hs,hr]
   have hrl:(r.1.map chV).length=r.1.length:=by simp
   have hcr:=hc r hmem
   repeat ((first | refine And.intro rfl ?_);conv=>whnf)
   refine jz yd mixed 58 (fun z:Nat × List Ch=>r.1.length - z.1) (fun z=>z.1≤r.1.length∧z.2=X ++ r.1.take z.1)
    (fun z=>[(1,.ptr 0 0 0),(4,uaI z.2),(5,jaI z.2),(6,.int .i64 ((s:Nat):Int)),(7,.int .i64 ((z.1:Nat):Int))]) (fun z=>⟨xH os oc rows cc z.2,[]⟩) ?_ ?_ (0,X) _ ⟨Nat.zero_le _,by simp⟩ rfl rfl ⟨rfl,rfl,rfl,rfl,rfl,trivial⟩
   ·rintro ⟨k,X⟩ -
    refine ⟨rfl,fun q hq => ?_,⟨gbc _ _ _ _ _,fun l r h=>by simp [Heap.loop?] at h⟩,Nat.zero_le _⟩
    simp only [List.mem_cons,List.not_mem_nil,or_false] at hq
    rcases hq with rfl | rfl | rfl | rfl | rfl
    ·exact .ptr _ _ _ (by simp [xH])
    ·exact qbc ..
    ·exact zbd ..
    ·exact .int _ _
    ·exact .int _ _
   ·rintro ⟨k,Y⟩ g2 ⟨j1,j2⟩
    replace j1:k≤r.1.length:=j1
    replace j2:Y=X ++ r.1.take k:=j2
    conv=>whnf
    repeat ((first | refine za rfl ?_ | refine uc s rfl hri rfl ?_ | refine qc hrl ?_ | refine And.intro rfl ?_);conv=>whnf)
    refine yf (fun h5 => ?_) (fun h5 => ?_) <;> conv=>whnf
    ·have hk:k < r.1.length:=by have:((k:Nat):Int) < ((r.1.length:Nat):Int):=h5;omega
     obtain ⟨ch,hch⟩:∃ ch,r.1[k]=ch:=⟨_,rfl⟩
     have hchm:ch∈r.1:=hch ▸ List.getElem_mem hk
     have hO:=hok r hmem ch hchm
     have hki:(r.1.map chV)[k]? = some [.str ch.a,.str (qt ch.n ch.d),.vs (ch.l.map brV) ch.c]:=by simp [hk,hch,chV]
     have hXl:X.length≤4 * s:=by rw [i2];exact qaF hc (by omega)
     have hYl:Y.length≤52:=by rw [j2,List.length_append,List.length_take];omega
     have hGl:(vm Y).length=Y.length:=by simp [vm]
     have hPl:(probs Y).length≤12 * Y.length:=jaF fun x hx=>by
      have hxm:x∈X ++ r.1:=by rw [j2] at hx;exact (List.mem_append.1 hx).elim (fun h=>List.mem_append_left _ h) fun h=>List.mem_append_right _ (List.mem_of_mem_take h)
      have hxo:wB N x:=(List.mem_append.1 hxm).elim (fun h=>by
       rw [i2] at h
       obtain ⟨q,hq,hx⟩:=List.mem_flatMap.1 h
       exact hok q (List.mem_of_mem_take hq) x hx) fun h=>hok r hmem x h
      have:=hxo.brs.len
      omega
     have hbl:(ch.l.map brV).length=ch.l.length:=by simp
     have hbrl:=hO.brs.len
     rcases Y with _ | ⟨y,Y⟩
     ·repeat ((first | refine za rfl ?_ | refine uc s rfl hri rfl ?_ | refine uc k rfl hki rfl ?_ | refine And.intro ⟨by decide,rfl⟩ ?_ | refine qa rfl ?_ | refine zB (by decide) ⟨rfl,rfl⟩ ?_ | refine ⟨by decide,by decide,rfl,?_⟩ | refine And.intro rfl ?_ | refine And.intro ⟨rfl,trivial⟩ ?_ | refine Or.inr ?_);conv=>whnf)
      refine gf yd mixed 58 (fun i:Nat=>ch.l.length - i) (fun i=>i≤ch.l.length)
       (fun i=>[(1,.ptr 0 0 0),(4,match i with | 0=>.nils | i + 1=>.ms 3 0 (i + 1) none),(5,.ms 2 0 1 none),(6,.int .i64 ((s:Nat):Int)),(7,.int .i64 ((k:Nat):Int)),(8,.ptr 1 0 0),(9,.int .i64 ((i:Nat):Int))])
       (fun i=>⟨[some (.rows [ye os oc rows cc] false false),some (.rows [chV ch] false false),some (.rows [[.str (qt ch.n ch.d)]] true false)] ++ (match i with | 0=>[] | i + 1=>[some (.rows (frV ((xg ch).take (i + 1))) true false)]),[]⟩) ?_ 0 _ (Nat.zero_le _) rfl rfl ⟨rfl,rfl,rfl,rfl,rfl,rfl,rfl,trivial⟩
      rintro i g3 l1
      replace l1:i≤ch.l.length:=l1
      conv=>whnf
      repeat ((first | refine za rfl ?_ | refine qc hbl ?_ | refine And.intro rfl ?_);conv=>whnf)
      refine yf (fun h6 => ?_) (fun h6 => ?_) <;> conv=>whnf
      ·have hi:i < ch.l.length:=by have:((i:Nat):Int) < ((ch.l.length:Nat):Int):=h6;omega
       obtain ⟨b,hb⟩:∃ b,ch.l[i]=b:=⟨_,rfl⟩
       have hbm:b∈ch.l:=hb ▸ List.getElem_mem hi
       have hbi:(ch.l.map brV)[i]? = some [.int .i64 ((b.to:Nat):Int),.str (qt b.n b.d)]:=by simp [hi,hb,brV,(hO.brs.ok b hbm).1]
       have htk:frV ((xg ch).take (i + 1))=frV ((xg ch).take i) ++ [[.str (qt b.n b.d)]]:=by
        have hi2:i < (xg ch).length:=by simp [xg,hi]
        rw [List.take_succ_eq_append_getElem hi2,yat]
        simp [frV,xg,hb]
       rcases i with _ | i
       ·repeat ((first | refine za rfl ?_ | refine uc 0 rfl hbi rfl ?_ | refine qc hbl ?_ | refine And.intro rfl (ub (by omega) ?_) | refine zB (by decide) ⟨rfl,rfl⟩ ?_ | refine ⟨by decide,by decide,rfl,?_⟩ | refine And.intro rfl ?_ | refine And.intro ⟨rfl,trivial⟩ ?_ | refine Or.inr ?_);conv=>whnf)
        refine ⟨1,by show ch.l.length - 1 < ch.l.length - 0;omega,hi,?_,rfl,rfl,rfl,rfl,rfl,rfl,rfl,rfl,trivial⟩
        exact congrArg (fun z=>Heap.mk [some (.rows [ye os oc rows cc] false false),some (.rows [chV ch] false false),some (.rows [[.str (qt ch.n ch.d)]] true false),some (.rows z true false)] []) htk.symm
       ·have hlt:(frV ((xg ch).take (i + 1))).length=i + 1:=by simp [frV,xg];omega
        repeat ((first | refine za rfl ?_ | refine uc (i + 1) rfl hbi rfl ?_ | refine qc hbl ?_ | refine And.intro rfl (ub (by omega) ?_) | refine wy (rs:=frV ((xg ch).take (i + 1))) rfl (by decide) ⟨rfl,rfl⟩ (zat _) ⟨Nat.succ_pos _,hlt.symm,by show (_ + 1) * 16≤_;omega⟩ ?_ | refine ⟨by decide,by decide,rfl,?_⟩ | refine And.intro rfl ?_ | refine And.intro ⟨rfl,trivial⟩ ?_ | refine Or.inr ?_);conv=>whnf)
        refine ⟨i + 2,by show ch.l.length - (i + 2) < ch.l.length - (i + 1);omega,hi,?_,rfl,rfl,rfl,rfl,rfl,rfl,rfl,?_,trivial⟩
        ·exact congrArg (fun z=>Heap.mk [some (.rows [ye os oc rows cc] false false),some (.rows [chV ch] false false),some (.rows [[.str (qt ch.n ch.d)]] true false),some (.rows z true false)] []) htk.symm
        ·show some (AV.int .i64 _)=some (AV.int .i64 _)
         congr 2
      ·have hi:¬ ((i:Nat):Int) < ((ch.l.length:Nat):Int):=h6
       obtain rfl:i=ch.l.length:=by omega
       have hl1:=hO.brs.len.1
       obtain ⟨q,hq⟩:∃ q,ch.l.length=q + 1:=⟨ch.l.length - 1,by omega⟩
       have htk:(xg ch).take (q + 1)=xg ch:=List.take_of_length_le (by simp [xg,hq])
       have hpl:(xg ch).length=q + 1:=by simp [xg,hq]
       rw [hq] at *
       repeat ((first | refine And.intro rfl (ub (by omega) ?_) | refine And.intro rfl ?_);conv=>whnf)
       refine ⟨(k + 1,[ch]),[],by show r.1.length - (k + 1) < r.1.length - k;omega,⟨hk,?_⟩,?_,rfl,rfl,?_,rfl,rfl,?_,trivial⟩
       ·show [ch]=X ++ r.1.take (k + 1)
        rw [List.take_succ_eq_append_getElem hk,hch,← List.append_assoc,← j2];rfl
       ·have e:frV (probs [ch])=frV ((xg ch).take (q + 1)):=by rw [htk];simp [probs]
        exact congrArg (fun z=>Heap.mk [some (.rows [ye os oc rows cc] false false),some (.rows [chV ch] false false),some (.rows [[.str (qt ch.n ch.d)]] true false),some (.rows z true false)] []) e.symm
       ·show some (AV.ms 3 0 (q + 1) none)=some (AV.ms 3 0 (probs [ch]).length none)
        have:(probs [ch]).length=q + 1:=by simp [probs,hpl]
        rw [this]
       ·show some (AV.int .i64 _)=some (AV.int .i64 _)
        congr 2
     ·repeat ((first | refine za rfl ?_ | refine uc s rfl hri rfl ?_ | refine uc k rfl hki rfl ?_ | refine And.intro ⟨by decide,rfl⟩ ?_ | refine qa rfl ?_ | refine wy (rs:=frV (vm (y :: Y))) rfl (by decide) ⟨rfl,rfl⟩ (zat _) ⟨by simp [vm],(gaO _).symm,by show (_ + 1) * 16≤_;omega⟩ ?_ | refine ⟨by decide,by decide,rfl,?_⟩ | refine And.intro rfl ?_ | refine And.intro ⟨rfl,trivial⟩ ?_ | refine Or.inr ?_);conv=>whnf)
      have hP1:1≤(probs (y :: Y)).length:=by
       have hym:y∈X ++ r.1.take k:=by rw [← j2];exact List.mem_cons_self ..
       have hyo:wB N y:=(List.mem_append.1 hym).elim (fun h=>by
        rw [i2] at h
        obtain ⟨q,hq,hx⟩:=List.mem_flatMap.1 h
        exact hok q (List.mem_of_mem_take hq) y hx) fun h=>hok r hmem y (List.mem_of_mem_take h)
       have:=hyo.brs.len
       simp only [probs,List.flatMap_cons,List.length_append,xg,List.length_map]
       omega
      refine gf yd mixed 58 (fun i:Nat=>ch.l.length - i) (fun i=>i≤ch.l.length)
       (fun i=>[(1,.ptr 0 0 0),(4,.ms 3 0 ((probs (y :: Y)).length + i) none),(5,.ms 2 0 ((vm (y :: Y)).length + 1) none),(6,.int .i64 ((s:Nat):Int)),(7,.int .i64 ((k:Nat):Int)),(8,.ptr 4 0 0),(9,.int .i64 ((i:Nat):Int))])
       (fun i=>Heap.mk [some (.rows [ye os oc rows cc] false false),some (.rows [chV y] false false),some (.rows (frV (vm (y :: Y)) ++ [[.str (qt ch.n ch.d)]]) true false),some (.rows (frV (probs (y :: Y)) ++ frV ((xg ch).take i)) true false),some (.rows [chV ch] false false)] []) ?_ 0 _ (Nat.zero_le _) ?_ rfl ⟨rfl,rfl,rfl,rfl,rfl,rfl,rfl,trivial⟩
      ·rintro i g3 l1
       replace l1:i≤ch.l.length:=l1
       conv=>whnf
       repeat ((first | refine za rfl ?_ | refine qc hbl ?_ | refine And.intro rfl ?_);conv=>whnf)
       refine yf (fun h6 => ?_) (fun h6 => ?_) <;> conv=>whnf
       ·have hi:i < ch.l.length:=by have:((i:Nat):Int) < ((ch.l.length:Nat):Int):=h6;omega
        obtain ⟨b,hb⟩:∃ b,ch.l[i]=b:=⟨_,rfl⟩
        have hbm:b∈ch.l:=hb ▸ List.getElem_mem hi
        have hbi:(ch.l.map brV)[i]? = some [.int .i64 ((b.to:Nat):Int),.str (qt b.n b.d)]:=by simp [hi,hb,brV,(hO.brs.ok b hbm).1]
        have htk:frV ((xg ch).take (i + 1))=frV ((xg ch).take i) ++ [[.str (qt b.n b.d)]]:=by
         have hi2:i < (xg ch).length:=by simp [xg,hi]
         rw [List.take_succ_eq_append_getElem hi2,yat]
         simp [frV,xg,hb]
        have hlt:(frV (probs (y :: Y)) ++ frV ((xg ch).take i)).length=(probs (y :: Y)).length + i:=by simp [frV,xg];omega
        have hokc:∀ r∈frV (probs (y :: Y)) ++ frV ((xg ch).take i),r.length=1∧r.all okc=true:=fun r hr=>(List.mem_append.1 hr).elim (zat _ r) (zat _ r)
        repeat ((first | refine za rfl ?_ | refine uc i rfl hbi rfl ?_ | refine qc hbl ?_ | refine And.intro rfl (ub (by omega) ?_) | refine wy (rs:=frV (probs (y :: Y)) ++ frV ((xg ch).take i)) rfl (by decide) ⟨rfl,rfl⟩ hokc ⟨by omega,hlt.symm,by show (_ + 1) * 16≤_;omega⟩ ?_ | refine ⟨by decide,by decide,rfl,?_⟩ | refine And.intro rfl ?_ | refine And.intro ⟨rfl,trivial⟩ ?_ | refine Or.inr ?_);conv=>whnf)
        refine ⟨i + 1,by show ch.l.length - (i + 1) < ch.l.length - i;omega,hi,?_,rfl,rfl,rfl,rfl,rfl,rfl,rfl,?_,trivial⟩
        ·exact congrArg (fun z=>Heap.mk [some (.rows [ye os oc rows cc] false false),some (.rows [chV y] false false),some (.rows (frV (vm (y :: Y)) ++ [[.str (qt ch.n ch.d)]]) true false),some (.rows (z) true false),some (.rows [chV ch] false false)] []) ((List.append_assoc ..).trans (congrArg (frV (probs (y :: Y)) ++ ·) htk.symm))
        ·show some (AV.int .i64 _)=some (AV.int .i64 _)
         congr 2
       ·have hi:¬ ((i:Nat):Int) < ((ch.l.length:Nat):Int):=h6
        obtain rfl:i=ch.l.length:=by omega
        have htk:(xg ch).take ch.l.length=xg ch:=List.take_of_length_le (by simp [xg])
        have hpl:(xg ch).length=ch.l.length:=by simp [xg]
        have ep:probs (y :: (Y ++ [ch]))=probs (y :: Y) ++ xg ch:=by simp [probs]
        have eg:vm (y :: (Y ++ [ch]))=vm (y :: Y) ++ [(ch.n,ch.d)]:=by simp [vm]
        repeat ((first | refine And.intro rfl (ub (by omega) ?_) | refine And.intro rfl ?_);conv=>whnf)
        refine ⟨(k + 1,y :: (Y ++ [ch])),[some (.rows [chV ch] false false)],by show r.1.length - (k + 1) < r.1.length - k;omega,⟨hk,?_⟩,?_,rfl,rfl,?_,?_,rfl,?_,trivial⟩
        ·show y :: (Y ++ [ch])=X ++ r.1.take (k + 1)
         rw [List.take_succ_eq_append_getElem hk,hch,← List.append_assoc,← j2];rfl
        ·have e1:frV (vm (y :: Y)) ++ [[.str (qt ch.n ch.d)]]=frV (vm (y :: (Y ++ [ch]))):=by rw [eg,yat];rfl
         have e2:frV (probs (y :: Y)) ++ frV ((xg ch).take ch.l.length)=frV (probs (y :: (Y ++ [ch]))):=by rw [ep,yat,htk]
         exact (congrArg (fun z=>Heap.mk [some (.rows [ye os oc rows cc] false false),some (.rows [chV y] false false),some (.rows (z) true false),some (.rows (frV (probs (y :: Y)) ++ frV ((xg ch).take ch.l.length)) true false),some (.rows [chV ch] false false)] []) e1).trans (congrArg (fun z=>Heap.mk [some (.rows [ye os oc rows cc] false false),some (.rows [chV y] false false),some (.rows (frV (vm (y :: (Y ++ [ch])))) true false),some (.rows (z) true false),some (.rows [chV ch] false false)] []) e2)
        ·show some (AV.ms 3 0 _ none)=some (AV.ms 3 0 (probs (y :: (Y ++ [ch]))).length none)
         have:(probs (y :: (Y ++ [ch]))).length=(probs (y :: Y)).length + ch.l.length:=by rw [ep,List.length_append,hpl]
         rw [this]
        ·show some (AV.ms 2 0 _ none)=some (AV.ms 2 0 (vm (y :: (Y ++ [ch]))).length none)
         have:(vm (y :: (Y ++ [ch]))).length=(vm (y :: Y)).length + 1:=by rw [eg];simp
         rw [this]
        ·show some (AV.int .i64 _)=some (AV.int .i64 _)
         congr 2
      ·exact congrArg (fun z=>Heap.mk [some (.rows [ye os oc rows cc] false false),some (.rows [chV y] false false),some (.rows (frV (vm (y :: Y)) ++ [[.str (qt ch.n ch.d)]]) true false),some (.rows (z) true false),some (.rows [chV ch] false false)] []) (show frV (probs (y :: Y))=frV (probs (y :: Y)) ++ frV ((xg ch).take 0) by simp [frV])
    ·have hk:¬ ((k:Nat):Int) < ((r.1.length:Nat):Int):=h5
     obtain rfl:k=r.1.length:=by omega
     rw [List.take_length] at j2
     repeat ((first | refine And.intro rfl (ub (by omega) ?_) | refine And.intro rfl ?_);conv=>whnf)
     refine ⟨(s + 1,Y),[],by show rows.length - (s + 1) < rows.length - s;omega,⟨hs,?_⟩,by show Heap.mk _ _=Heap.mk _ _;rw [List.append_nil],rfl,rfl,rfl,rfl,?_,trivial⟩
     ·show Y=qo rows (s + 1)
      rw [ga8 hs,j2,i2,hr]
     ·show some (AV.int .i64 _)=some (AV.int .i64 _)
      congr 2
  ·have hs:¬ ((s:Nat):Int) < ((rows.length:Nat):Int):=h4
   obtain rfl:s=rows.length:=by omega
   repeat ((first | refine And.intro rfl ?_);conv=>whnf)
   rw [← i2]
   have hX:1≤X.length:=by
    obtain ⟨r,hr⟩:∃ r,rows[0]'h0=r:=⟨_,rfl⟩
    have h1:=(hc r (hr ▸ List.getElem_mem _)).1
    have h2:X.length=(rows.flatMap (·.1)).length:=by rw [i2];simp [qo]
    rw [h2]
    cases rows with
    | nil=>simp at h0
    | cons a l =>
     obtain rfl:a=r:=hr
     simp only [List.flatMap_cons,List.length_append]
     omega
   rcases X with _ | ⟨x,X⟩
   ·simp at hX
   ·refine .tup _ _ rfl fun i hi hj => ?_
    match i,hi with
    | 0,_=>exact gN rfl (gas _) (gaO _)
    | 1,_=>exact gN rfl (gas _) (gaO _)
end
end Go.Abs

namespace Go.Abs
noncomputable section
open Go.Proofs
set_option maxRecDepth 100000
structure ModOK (os:List Nat) (rows:List (List Ch × Option Nat)):Prop where
 states:1≤os.length∧os.length≤12
 owners:∀ o∈os,o=0∨o=1
 width:rows.length=os.length
 count:∀ r∈rows,1≤r.1.length∧r.1.length≤4
 chs:∀ r∈rows,∀ x∈r.1,wB os.length x
theorem ModOK.probs {os:List Nat} {rows:List (List Ch × Option Nat)} (h:ModOK os rows):∀ p∈probs (qo rows rows.length),p∈uq∧p.2∣300:=fun p hp=>by
 obtain ⟨x,hx,hp⟩:=List.mem_flatMap.1 hp
 obtain ⟨r,hr,hx⟩:=List.mem_flatMap.1 hx
 obtain ⟨b,hb,rfl⟩:=List.mem_map.1 hp
 have hO:=h.chs r (List.mem_of_mem_take hr) x hx
 exact ⟨(hO.brs.ok b hb).2.1,hO.dvds b hb⟩
theorem ModOK.gains {os:List Nat} {rows:List (List Ch × Option Nat)} (h:ModOK os rows):∀ p∈vm (qo rows rows.length),p∈uq∧p.2∣300:=fun p hp=>by
 obtain ⟨x,hx,rfl⟩:=List.mem_map.1 hp
 obtain ⟨r,hr,hx⟩:=List.mem_flatMap.1 hx
 have hO:=h.chs r (List.mem_of_mem_take hr) x hx
 exact ⟨hO.gain,hO.dvd⟩
theorem ModOK.len {os:List Nat} {rows:List (List Ch × Option Nat)} (h:ModOK os rows):(qo rows rows.length).length≤48:=by
 have:=qaF h.count (Nat.le_refl _)
 have:=h.states
 have:=h.width
 omega
theorem wbh {L:List (Nat × Nat)} (h:∀ p∈L,p∈uq∧p.2∣300):0 < gx L:=by
 have:=qaL (fun p hp=>(h p hp).2) L.length (Nat.le_refl _)
 rw [List.take_length] at this
 exact Nat.pos_of_dvd_of_pos this (by decide)
theorem vb5 {os:List Nat} {oc cc:Option Nat} {rows:List (List Ch × Option Nat)} (h:ModOK os rows) :
  zb Tryz.prog 47 [.agg (ye os oc rows cc)] (.tup [.int .i64 ((gx (probs (qo rows rows.length)):Nat):Int),.int .i64 ((gx (vm (qo rows rows.length)):Nat):Int)]):=by
 have hl:=h.len
 have hs:=h.states
 have hw:=h.width
 have hn:=ybW (os:=os) (oc:=oc) (cc:=cc) h.chs (by omega) hs.2 h.count (by omega)
 have hp:=ubt (c:=none) h.probs (by
  have:(Abs.probs (qo rows rows.length)).length≤12 * (qo rows rows.length).length:=jaF fun x hx=>by
   obtain ⟨r,hr,hx⟩:=List.mem_flatMap.1 hx
   have:=(h.chs r (List.mem_of_mem_take hr) x hx).brs.len
   omega
  omega)
 have hg:=ubt (c:=none) h.gains (by simp only [vm,List.length_map];omega)
 refine yc (vb (zk ..)) (xz (.int _ _) (.int _ _)) (jb yd mixed Tryz.func47 rfl (by decide +kernel) ?_)
 conv=>whnf
 repeat ((first | refine And.intro ⟨rfl,by decide,rfl⟩ ?_ | refine za rfl ?_ | refine wa hn (vb (zk ..)) ?_ | refine wa hp (wb (.int _ _) (qab _ _)) ?_ | refine wa hg (wb (.int _ _) (qab _ _)) ?_ | refine And.intro rfl ?_);conv=>whnf)
 exact .pure _ (xz (.int _ _) (.int _ _))
set_option maxHeartbeats 4000000 in
theorem gbM {os:List Nat} {oc cc:Option Nat} {rows:List (List Ch × Option Nat)} (h:ModOK os rows) :
  zb Tryz.prog 29 [.agg (ye os oc rows cc)] (.bool true):=by
 have hs:=h.states
 have hw:=h.width
 have hlo:(osV os).length=os.length:=by simp [osV]
 have hlr:(ja (yb rows)).length=rows.length:=by simp [ja,yb]
 have hgr:=vb5 (oc:=oc) (cc:=cc) h
 have hp0:=wbh h.probs
 have hg0:=wbh h.gains
 obtain ⟨p,hp⟩:∃ p,gx (probs (qo rows rows.length))=p:=⟨_,rfl⟩
 obtain ⟨g,hg⟩:∃ g,gx (vm (qo rows rows.length))=g:=⟨_,rfl⟩
 rw [hp,hg] at hgr
 rw [hp] at hp0
 rw [hg] at hg0
 have e1:¬ ((os.length:Nat):Int) < 1:=by omega
 have e2:¬ ((os.length:Nat):Int) > 12:=by omega
 have e3:(((rows.length:Nat):Int) != ((os.length:Nat):Int))=false:=by rw [hw];simp
 refine yc (vb (zk ..)) (.bool _) (jb yd mixed Tryz.func29 rfl (by decide +kernel) ?_)
 conv=>whnf
 repeat ((first | refine And.intro ⟨rfl,by decide,rfl⟩ ?_ | refine za rfl ?_ | refine qc hlo ?_ | refine qc hlr ?_ | refine ua (by rw [decide_eq_false e1];rfl) ?_ | refine ua (by rw [decide_eq_false e2];rfl) ?_ | refine ya (decide_eq_false e1) ?_ | refine ya (decide_eq_false e2) ?_ | refine ya e3 ?_ | refine And.intro rfl ?_);conv=>whnf)
 refine gf yd mixed 93 (fun s:Nat=>os.length - s) (fun s=>s≤os.length)
  (fun s=>[(1,.ptr 0 0 0),(3,.int .i64 ((os.length:Nat):Int)),(4,.int .i64 ((s:Nat):Int))]) (fun _=>⟨[some (.rows [ye os oc rows cc] false false)],[]⟩) ?_ 0 _ (Nat.zero_le _) rfl rfl ⟨rfl,rfl,rfl,trivial⟩
 rintro s g1 i1
 replace i1:s≤os.length:=i1
 conv=>whnf
 refine yf (fun h4 => ?_) (fun h4 => ?_) <;> conv=>whnf
 ·have hs2:s < os.length:=by have:((s:Nat):Int) < ((os.length:Nat):Int):=h4;omega
  have hs3:s < rows.length:=by omega
  obtain ⟨r,hr⟩:∃ r,rows[s]=r:=⟨_,rfl⟩
  have hmem:r∈rows:=hr ▸ List.getElem_mem hs3
  obtain ⟨o,ho⟩:∃ o,os[s]=o:=⟨_,rfl⟩
  have hoi:(osV os)[s]? = some [.int .i64 ((o:Nat):Int)]:=by simp [osV,hs2,ho]
  have hri:(ja (yb rows))[s]? = some [.vs (r.1.map chV) r.2]:=by simp [ja,yb,hs3,hr]
  have hrl:(r.1.map chV).length=r.1.length:=by simp
  have hcr:=h.count r hmem
  have f1:¬ ((r.1.length:Nat):Int) < 1:=by omega
  have f2:¬ ((r.1.length:Nat):Int) > 4:=by omega
  rcases h.owners o (ho ▸ List.getElem_mem hs2) with rfl | rfl
  all_goals
   repeat ((first | refine za rfl ?_ | refine uc s rfl hoi rfl ?_ | refine uc s rfl hri rfl ?_ | refine qc hrl ?_ | refine ua rfl ?_ | refine ya rfl ?_ | refine ua (by rw [decide_eq_false f1];rfl) ?_ | refine ua (by rw [decide_eq_false f2];rfl) ?_ | refine ya (decide_eq_false f1) ?_ | refine ya (decide_eq_false f2) ?_ | refine And.intro rfl ?_);conv=>whnf)
   refine gf yd mixed 93 (fun k:Nat=>r.1.length - k) (fun k=>k≤r.1.length)
    (fun k=>[(1,.ptr 0 0 0),(3,.int .i64 ((os.length:Nat):Int)),(4,.int .i64 ((s:Nat):Int)),(5,.int .i64 ((k:Nat):Int))]) (fun _=>⟨[some (.rows [ye os oc rows cc] false false)],[]⟩) ?_ 0 _ (Nat.zero_le _) rfl rfl ⟨rfl,rfl,rfl,rfl,trivial⟩
   rintro k g2 j1
   replace j1:k≤r.1.length:=j1
   conv=>whnf
   repeat ((first | refine za rfl ?_ | refine uc s rfl hri rfl ?_ | refine qc hrl ?_ | refine And.intro rfl ?_);conv=>whnf)
   refine yf (fun h5 => ?_) (fun h5 => ?_) <;> conv=>whnf
   ·have hk:k < r.1.length:=by have:((k:Nat):Int) < ((r.1.length:Nat):Int):=h5;omega
    obtain ⟨ch,hch⟩:∃ ch,r.1[k]=ch:=⟨_,rfl⟩
    have hchm:ch∈r.1:=hch ▸ List.getElem_mem hk
    have hO:=h.chs r hmem ch hchm
    have hki:(r.1.map chV)[k]? = some [.str ch.a,.str (qt ch.n ch.d),.vs (ch.l.map brV) ch.c]:=by simp [hk,hch,chV]
    have hcho:=wcc (c:=ch.c) hO.name hO.gain hO.brs hs.2
    repeat ((first | refine za rfl ?_ | refine uc s rfl hri rfl ?_ | refine uc k rfl hki rfl ?_ | refine wa hcho (wb (za8 ..) (.int _ _)) ?_ | refine ya rfl ?_ | refine And.intro rfl (ub (by omega) ?_) | refine And.intro rfl ?_);conv=>whnf)
    refine ⟨k + 1,by show r.1.length - (k + 1) < r.1.length - k;omega,hk,rfl,rfl,rfl,rfl,rfl,?_,trivial⟩
    show some (AV.int .i64 _)=some (AV.int .i64 _)
    congr 2
   ·have hk:¬ ((k:Nat):Int) < ((r.1.length:Nat):Int):=h5
    repeat ((first | refine And.intro rfl (ub (by omega) ?_) | refine And.intro rfl ?_);conv=>whnf)
    refine ⟨s + 1,by show os.length - (s + 1) < os.length - s;omega,hs2,rfl,rfl,rfl,rfl,?_,trivial⟩
    show some (AV.int .i64 _)=some (AV.int .i64 _)
    congr 2
 ·have e4:decide (((p:Nat):Int) > 0)=true:=decide_eq_true (by omega)
  have e5:decide (((g:Nat):Int) > 0)=true:=decide_eq_true (by omega)
  repeat ((first | refine za rfl ?_ | refine wa hgr (vb (zk ..)) ?_ | refine ua e4 ?_ | refine ua ((congrArg (· == true) e4).trans rfl) ?_ | refine And.intro rfl ?_);conv=>whnf)
  rw [e5]
  exact .pure _ (.bool _)
def gac (rows:List (List Ch × Option Nat)):Bool:=rows.all fun r=>r.1.length == 1
set_option maxHeartbeats 4000000 in
theorem gbt {os:List Nat} {oc cc:Option Nat} {rows:List (List Ch × Option Nat)} (h:ModOK os rows) :
  zb Tryz.prog 18 [.agg (ye os oc rows cc)] (.bool (gac rows)):=by
 have hs:=h.states
 have hw:=h.width
 have hlr:(ja (yb rows)).length=rows.length:=by simp [ja,yb]
 have hri:=gbM (oc:=oc) (cc:=cc) h
 refine yc (vb (zk ..)) (.bool _) (jb yd mixed Tryz.func18 rfl (by decide +kernel) ?_)
 conv=>whnf
 repeat ((first | refine And.intro ⟨rfl,by decide,rfl⟩ ?_ | refine za rfl ?_ | refine wa hri (vb (zk ..)) ?_ | refine ya rfl ?_ | refine And.intro rfl ?_);conv=>whnf)
 refine gf yd mixed 21 (fun s:Nat=>rows.length - s) (fun s=>s≤rows.length∧∀ r∈rows.take s,r.1.length=1)
  (fun s=>[(1,.ptr 0 0 0),(3,.int .i64 ((s:Nat):Int))]) (fun _=>⟨[some (.rows [ye os oc rows cc] false false)],[]⟩) ?_ 0 _ ⟨Nat.zero_le _,by simp⟩ rfl rfl ⟨rfl,rfl,trivial⟩
 rintro s g1 ⟨i1,i2⟩
 replace i1:s≤rows.length:=i1
 conv=>whnf
 repeat ((first | refine za rfl ?_ | refine qc hlr ?_ | refine And.intro rfl ?_);conv=>whnf)
 refine yf (fun h4 => ?_) (fun h4 => ?_) <;> conv=>whnf
 ·have hs3:s < rows.length:=by have:((s:Nat):Int) < ((rows.length:Nat):Int):=h4;omega
  obtain ⟨r,hr⟩:∃ r,rows[s]=r:=⟨_,rfl⟩
  have hmem:r∈rows:=hr ▸ List.getElem_mem hs3
  have hri:(ja (yb rows))[s]? = some [.vs (r.1.map chV) r.2]:=by simp [ja,yb,hs3,hr]
  have hrl:(r.1.map chV).length=r.1.length:=by simp
  repeat ((first | refine za rfl ?_ | refine uc s rfl hri rfl ?_ | refine qc hrl ?_ | refine And.intro rfl ?_);conv=>whnf)
  by_cases h1:r.1.length=1
  ·have e1:(((r.1.length:Nat):Int) != 1)=false:=by rw [h1];rfl
   repeat ((first | refine ya e1 ?_ | refine And.intro rfl (ub (by omega) ?_) | refine And.intro rfl ?_);conv=>whnf)
   refine ⟨s + 1,by show rows.length - (s + 1) < rows.length - s;omega,⟨hs3,fun q hq => ?_⟩,rfl,rfl,rfl,?_,trivial⟩
   ·rw [List.take_succ_eq_append_getElem hs3,hr] at hq
    rcases List.mem_append.1 hq with h | h
    ·exact i2 q h
    ·rw [List.mem_singleton.1 h];exact h1
   ·show some (AV.int .i64 _)=some (AV.int .i64 _)
    congr 2
  ·have e1:(((r.1.length:Nat):Int) != 1)=true:=bne_iff_ne.2 (by omega)
   have eb:gac rows=false:=by
    cases hb:gac rows with
    | false=>rfl
    | true=>exact absurd (by simpa using List.all_eq_true.1 hb r hmem) h1
   repeat ((first | refine ua e1 ?_ | refine And.intro rfl ?_);conv=>whnf)
   rw [eb]
   exact .pure _ (.bool _)
 ·have hs3:¬ ((s:Nat):Int) < ((rows.length:Nat):Int):=h4
  obtain rfl:s=rows.length:=by omega
  rw [List.take_length] at i2
  have eb:gac rows=true:=List.all_eq_true.2 fun r hr=>by simpa using i2 r hr
  repeat ((first | refine And.intro rfl ?_);conv=>whnf)
  rw [eb]
  exact .pure _ (.bool _)
end
end Go.Abs

namespace Go.Abs
noncomputable section
open Go.Proofs
set_option maxRecDepth 100000
def jn (p:Nat):List Nat→List Nat→List Nat→Option (List Nat)
 | o :: os,l :: ls,c :: cs=>if o=p then (if c + 1 < l then some ((c + 1) :: cs) else (jn p os ls cs).map (0 :: ·)) else (jn p os ls cs).map (c :: ·)
 | _,_,_=>none
def xk (rows:List (List Ch × Option Nat)):List Nat:=rows.map fun r=>r.1.length
def yao:Option (List Nat)→AV
 | none=>.nils
 | some c=>.vs (osV c) none
theorem ubR (z:Option (List Nat)):Pure (yao z):=by
 cases z with
 | none=>exact .nils
 | some c=>exact wi c none
theorem gba (l:List Nat):∀ r∈osV l,r.length=1∧r.all okc=true:=fun r hr=>by
 obtain ⟨b,_,rfl⟩:=List.mem_map.1 hr
 exact ⟨rfl,rfl⟩
theorem uaH {l:List Nat} {i:Nat} (hi:i < l.length):(osV l)[i]? = some [.int .i64 ((l[i]:Nat):Int)]:=by simp [osV,hi]
theorem zbb {l:List Nat} {i:Nat} (hi:i < l.length):(osV l)[0 + i]? = some [.int .i64 ((l[i]:Nat):Int)]:=by rw [Nat.zero_add];exact uaH hi
theorem qba {l:List Nat} {i k:Nat} {z:Int} (hz:z=((k:Nat):Int)):(osV l).set (0 + i) [.int .i64 z]=osV (l.set i k):=by
 subst hz
 simp [osV,List.map_set]
structure jK (p:Nat) (os lens c:List Nat) (s:Nat) (cur:List Nat):Prop where
 le:s≤os.length
 len:cur.length=os.length
 drop:cur.drop s=c.drop s
 res:jn p os lens c=(jn p (os.drop s) (lens.drop s) (c.drop s)).map (cur.take s ++ ·)
theorem wap {p:Nat} {os lens c cur:List Nat} {s:Nat} (h:jK p os lens c s cur) (hl:lens.length=os.length) (hc:c.length=os.length) (hs:s < os.length) :
  cur[s]'(by rw [h.len];exact hs)=c[s]'(by omega)∧os.drop s=os[s] :: os.drop (s + 1)∧lens.drop s=lens[s] :: lens.drop (s + 1)∧c.drop s=c[s] :: c.drop (s + 1):=by
 refine ⟨?_,List.drop_eq_getElem_cons hs,List.drop_eq_getElem_cons (by omega),List.drop_eq_getElem_cons (by omega)⟩
 have hcur:s < cur.length:=by rw [h.len];exact hs
 have h1:(cur.drop s)[0]? = some cur[s]:=by rw [List.getElem?_drop];simp [hcur]
 have h2:(c.drop s)[0]? = some (c[s]'(by omega)):=by rw [List.getElem?_drop];simp [show s < c.length by omega]
 rw [h.drop,h2] at h1
 exact (Option.some.inj h1).symm
theorem xbf {α β γ:Type} (f:α→β) (g:β→γ) (x:Option α):(x.map f).map g=x.map (fun y=>g (f y)):=by cases x <;> rfl
theorem jbW {p:Nat} {os lens c cur:List Nat} {s:Nat} (h:jK p os lens c s cur) (hl:lens.length=os.length) (hc:c.length=os.length) (hs:s < os.length) (ho:os[s]≠p):jK p os lens c (s + 1) cur:=by
 obtain ⟨e0,e1,e2,e3⟩:=wap h hl hc hs
 have hcur:s < cur.length:=by rw [h.len];exact hs
 refine ⟨hs,h.len,?_,?_⟩
 ·have:=h.drop
  rw [e3,List.drop_eq_getElem_cons hcur] at this
  injection this
 ·rw [h.res,e1,e2,e3,jn,if_neg ho,xbf]
  congr 1
  funext y
  rw [List.take_succ_eq_append_getElem hcur,e0]
  simp
theorem zbX {p:Nat} {os lens c cur:List Nat} {s:Nat} (h:jK p os lens c s cur) (hl:lens.length=os.length) (hc:c.length=os.length) (hs:s < os.length) (ho:os[s]=p) (hx:¬ c[s]'(by omega) + 1 < lens[s]'(by omega)):jK p os lens c (s + 1) (cur.set s 0):=by
 obtain ⟨e0,e1,e2,e3⟩:=wap h hl hc hs
 have hcur:s < cur.length:=by rw [h.len];exact hs
 refine ⟨hs,by simp [h.len],?_,?_⟩
 ·rw [List.drop_set_of_lt (Nat.lt_succ_self s)]
  have:=h.drop
  rw [e3,List.drop_eq_getElem_cons hcur] at this
  injection this
 ·rw [h.res,e1,e2,e3,jn,if_pos ho,if_neg hx,xbf]
  congr 1
  funext y
  have hcs:s < (cur.set s 0).length:=by simpa using hcur
  rw [List.take_succ_eq_append_getElem hcs]
  simp [List.take_set_of_le]
theorem qbW {p:Nat} {os lens c cur:List Nat} {s:Nat} (h:jK p os lens c s cur) (hl:lens.length=os.length) (hc:c.length=os.length) (hs:s < os.length) (ho:os[s]=p) (hx:c[s]'(by omega) + 1 < lens[s]'(by omega)):jn p os lens c=some (cur.set s (c[s]'(by omega) + 1)):=by
 obtain ⟨e0,e1,e2,e3⟩:=wap h hl hc hs
 have hcur:s < cur.length:=by rw [h.len];exact hs
 rw [h.res,e1,e2,e3,jn,if_pos ho,if_pos hx]
 show some (cur.take s ++ (c[s] + 1) :: c.drop (s + 1))=_
 congr 1
 have hd:cur.drop (s + 1)=c.drop (s + 1):=by
  have:=h.drop
  rw [e3,List.drop_eq_getElem_cons hcur] at this
  injection this
 rw [List.set_eq_take_append_cons_drop,if_pos hcur,hd]
theorem gbW {p:Nat} {os lens c cur:List Nat} (h:jK p os lens c os.length cur):jn p os lens c=none:=by
 rw [h.res,List.drop_length]
 cases lens.drop os.length <;> rfl
end
end Go.Abs

namespace Go.Abs
noncomputable section
open Go.Proofs
set_option maxRecDepth 100000
theorem jx {x y z:AV} (h:Pure x) (h':Pure y) (h'':Pure z):∀ w∈[x,y,z],Pure w:=fun w hw=>by
 simp only [List.mem_cons,List.not_mem_nil,or_false] at hw
 rcases hw with rfl | rfl | rfl
 ·exact h
 ·exact h'
 ·exact h''
theorem waW {T:Tab} {h:Heap} {t e:TypeId} {ei:TI} {rows:List (List AV)} {cc:Option Nat} {K:AV→Heap→Prop} {sz by':Nat} {ze:List AV} {cm:Bool} (ht:T t=some ⟨.slice e,sz,by',ze,cm⟩) (he:T e=some ei) (hs:0 < ei.size∧0 < ei.bytes)
  (hr:∀ row∈rows,row.length=ei.size∧row.all okc=true) (hl:0 < rows.length∧rows.length * ei.bytes≤140737488355328) (hk:K (.ms (h.blks.length + 1) 0 rows.length none) ⟨h.blks ++ [none,some (.rows rows false false)],h.loops⟩) :
  zai T h t (.vs [] (some 0)) (.vs rows cc) (fun r h'=>K r h'∨vC h' r K):=by
 refine .inl ?_
 unfold zr
 simp only [ht,he,jo]
 refine ⟨hs,hr,?_⟩
 rw [if_neg (by omega)]
 refine ⟨⟨0,rfl,by simpa using hl.1⟩,fun r hr=>(by cases hr),by simpa using hl.2,.inr ?_⟩
 have hb:(h.push (.rows ([] ++ rows) true false)).blk? h.blks.length=some (.rows rows true false):=by simp [Heap.push,Heap.blk?]
 unfold vC
 simp only
 rw [hb]
 refine ⟨by simp,?_⟩
 have e1:(h.push (.rows ([] ++ rows) true false)).blks.length=h.blks.length + 1:=by simp [Heap.push]
 have e2:((h.push (.rows ([] ++ rows) true false)).kill h.blks.length).push (.rows rows false false)=⟨h.blks ++ [none,some (.rows rows false false)],h.loops⟩:=by simp [Heap.push,Heap.kill]
 rw [e1,e2]
 simpa using hk
set_option maxHeartbeats 4000000 in
theorem xaJ {os:List Nat} {oc cc kc:Option Nat} {rows:List (List Ch × Option Nat)} {c:List Nat} {p:Nat} (h:ModOK os rows) (hc:c.length=os.length) (hlt:∀ s (h1:s < c.length) (h2:s < rows.length),c[s] < rows[s].1.length) :
  zb Tryz.prog 34 [.agg (ye os oc rows cc),.vs (osV c) kc,.int .i64 ((p:Nat):Int)] (yao (jn p os (xk rows) c)):=by
 have hs0:=h.states
 have hw:=h.width
 have hln:(xk rows).length=os.length:=by simp [xk,hw]
 have hlo:(osV os).length=os.length:=by simp [osV]
 have hlc:(osV c).length=os.length:=by simp [osV,hc]
 refine yc (jx (zk ..) (wi c kc) (.int _ _)) (ubR _) (jb yd mixed Tryz.func34 rfl (by decide +kernel) ?_)
 conv=>whnf
 repeat ((first | refine And.intro ⟨rfl,by decide,rfl⟩ ?_ | refine ⟨by decide,by decide,rfl,?_⟩ | refine And.intro ⟨rfl,trivial⟩ ?_ | refine Or.inr ?_ | refine And.intro rfl ?_);conv=>whnf)
 rw [y3]
 conv=>whnf
 refine And.intro ⟨rfl,trivial⟩ (waW rfl rfl (by decide) (gba c) ⟨by omega,by rw [hlc];show os.length * 8≤_;omega⟩ ?_)
 rw [hlc]
 conv=>whnf
 repeat ((first | refine And.intro rfl ?_);conv=>whnf)
 refine gf yd mixed 48 (fun z:Nat × List Nat=>os.length - z.1) (fun z=>jK p os (xk rows) c z.1 z.2)
  (fun z=>[(2,.int .i64 ((p:Nat):Int)),(3,.ptr 0 0 0),(7,.ms 2 0 os.length none),(8,.int .i64 ((z.1:Nat):Int))])
  (fun z=>⟨[some (.rows [ye os oc rows cc] false false),none,some (.rows (osV z.2) false false)],[]⟩) ?_ (0,c) _ ⟨Nat.zero_le _,hc,rfl,by simp⟩ rfl rfl ⟨rfl,rfl,rfl,rfl,trivial⟩
 rintro ⟨s,cur⟩ g1 hI
 replace hI:jK p os (xk rows) c s cur:=hI
 have hsle:=hI.le
 have hcl:=hI.len
 conv=>whnf
 refine qc rfl ?_
 conv=>whnf
 refine yf (fun h4 => ?_) (fun h4 => ?_) <;> conv=>whnf
 ·have hs:s < os.length:=by have:((s:Nat):Int) < ((os.length:Nat):Int):=h4;omega
  have hs3:s < rows.length:=by omega
  have hsc:s < c.length:=by omega
  have hcur:s < cur.length:=by omega
  obtain ⟨e0,_⟩:=wap hI hln hc hs
  obtain ⟨r,hr⟩:∃ r,rows[s]=r:=⟨_,rfl⟩
  have hmem:r∈rows:=hr ▸ List.getElem_mem hs3
  obtain ⟨o,ho⟩:∃ o,os[s]=o:=⟨_,rfl⟩
  have hoi:(osV os)[s]? = some [.int .i64 ((o:Nat):Int)]:=by simp [osV,hs,ho]
  have hri:(ja (yb rows))[s]? = some [.vs (r.1.map chV) r.2]:=by simp [ja,yb,hs3,hr]
  have hrl:(r.1.map chV).length=r.1.length:=by simp
  have hcr:=h.count r hmem
  have hlens:(xk rows)[s]'(by omega)=r.1.length:=by simp [xk,hr]
  have hcs:=hlt s hsc hs3
  rw [hr] at hcs
  have hci:(osV cur)[0 + s]? = some [.int .i64 ((c[s]:Nat):Int)]:=by rw [zbb hcur,e0]
  have hci2:(osV (cur.set s (c[s] + 1)))[0 + s]? = some [.int .i64 ((c[s] + 1:Nat):Int)]:=by rw [zbb (by simpa using hcur)];simp
  repeat ((first | refine za rfl ?_ | refine uc s rfl hoi rfl ?_ | refine And.intro rfl ?_);conv=>whnf)
  by_cases hop:o=p
  ·have b1:(((o:Nat):Int) != ((p:Nat):Int))=false:=by rw [hop];simp
   refine ya b1 ?_
   conv=>whnf
   repeat ((first | refine gg s rfl hs (by decide) hci rfl ?_ | refine za (r:=.int .i64 ((c[s]:Nat):Int)) (by rw [hci];rfl) ?_ | refine And.intro rfl (zi (c[s] + 1) (by push_cast;rfl) (wm _ (by omega)) ?_) | refine vn (rs':=osV (cur.set s (c[s] + 1))) hci rfl (qba rfl) ?_ | refine And.intro rfl ?_);conv=>whnf)
   refine Or.inl ⟨by decide +kernel,?_⟩
   conv=>whnf
   repeat ((first | (refine ⟨_,_,fun K hK=>(by (conv=>whnf);first | exact hK | exact za rfl hK | exact gg s rfl hs (by decide) hci2 rfl hK | exact za (r:=.int .i64 ((c[s] + 1:Nat):Int)) (by rw [hci2];rfl) hK | exact uc s rfl hri rfl hK | exact qc hrl hK | (refine qa rfl ?_;(conv=>whnf);exact hK)),?_⟩;first | exact Or.inl ⟨rfl,trivial,?_⟩ | refine Or.inl ⟨rfl,trivial,?_⟩ | refine Or.inr ⟨trivial,(by repeat' (first | exact True.intro | refine And.intro ?_ ?_ | exact Or.inl (by decide +kernel))),?_⟩));conv=>whnf)
   refine yf (fun h5 => ?_) (fun h5 => ?_) <;> conv=>whnf
   ·have hx:c[s] + 1 < r.1.length:=by have:((c[s] + 1:Nat):Int) < ((r.1.length:Nat):Int):=h5;omega
    repeat ((first | refine And.intro rfl ?_);conv=>whnf)
    rw [qbW hI hln hc hs (ho.trans hop) (by rw [hlens];exact hx)]
    exact gN rfl yC (by simp [osV,hcl])
   ·have hx:¬ c[s] + 1 < r.1.length:=by have:¬ ((c[s] + 1:Nat):Int) < ((r.1.length:Nat):Int):=h5;omega
    repeat ((first | refine gg s rfl hs (by decide) hci2 rfl ?_ | refine vn (rs':=osV (cur.set s 0)) hci2 rfl ((qba rfl).trans (by rw [List.set_set])) ?_ | refine And.intro rfl (ub (by omega) ?_) | refine And.intro rfl ?_);conv=>whnf)
    refine ⟨(s + 1,cur.set s 0),by show os.length - (s + 1) < os.length - s;omega,zbX hI hln hc hs (ho.trans hop) (by rw [hlens];exact hx),rfl,rfl,rfl,rfl,rfl,?_,trivial⟩
    show some (AV.int .i64 _)=some (AV.int .i64 _)
    congr 2
  ·have b1:(((o:Nat):Int) != ((p:Nat):Int))=true:=bne_iff_ne.2 (by omega)
   refine ua b1 ?_
   conv=>whnf
   repeat ((first | refine And.intro rfl (ub (by omega) ?_) | refine And.intro rfl ?_);conv=>whnf)
   refine ⟨(s + 1,cur),by show os.length - (s + 1) < os.length - s;omega,jbW hI hln hc hs (fun e=>hop (ho.symm.trans e)),rfl,rfl,rfl,rfl,rfl,?_,trivial⟩
   show some (AV.int .i64 _)=some (AV.int .i64 _)
   congr 2
 ·have hs:¬ ((s:Nat):Int) < ((os.length:Nat):Int):=h4
  obtain rfl:s=os.length:=by omega
  repeat ((first | refine And.intro rfl ?_);conv=>whnf)
  rw [gbW hI]
  exact .pure _ .nils
end
end Go.Abs
