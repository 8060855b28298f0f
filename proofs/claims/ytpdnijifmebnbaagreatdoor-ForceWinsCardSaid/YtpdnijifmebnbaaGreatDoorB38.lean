/-
  Steps to a law of this program: SMg2, SWn6, SWn7, SWn8, SWn9, SWn10.
  Conditions: none.
-/
import Derived.Test.YtpdnijifmebnbaaGreatDoorB23
import Derived.Test.YtpdnijifmebnbaaGreatDoorB17
import Derived.Test.YtpdnijifmebnbaaGreatDoorB37
import Derived.Test.YtpdnijifmebnbaaGreatDoorB36
set_option linter.unusedVariables false
set_option linter.unusedSimpArgs false
set_option linter.unusedSectionVars false
namespace Go.Abs
noncomputable section
open Go.Proofs
attribute [local irreducible] Heap.blk?
set_option maxHeartbeats 1000000 in
theorem qch {O:AV} {rows:List ChR} {cc:Option Nat} (hc:∀ r∈rows,∀ ch∈r.1,ChC ch) (hn:rows.length < 4611686018427387904) (hn2:∀ r∈rows,r.1.length < 4611686018427387904) :
  ybz Tryz.prog 87 [.vp [O,.vs (ja rows) cc] 0] (jp 0 rows):=⟨fun B L lp K hR=>by
 letI:FH:=gZ
 refine jb jd mixed Tryz.func87 rfl (by decide +kernel) ?_
 conv=>whnf
 have hlr:(ja rows).length=rows.length:=by simp [ja]
 repeat ((first | refine qc hlr ?_ | refine And.intro rfl ?_);conv=>whnf)
 refine gf jd mixed 28 (fun a:Nat × Nat × List (Option Blk) × List (Option jc)=>rows.length - a.1)
  (fun a=>a.1≤rows.length∧B.length≤a.2.2.1.length∧zaj Tryz.prog lp (jp a.1 (rows.drop a.1)) a.2.2.1 a.2.2.2 K)
  (fun a=>[(0,.yld lp),(8,.vs (ja rows) cc),(9,.int .i64 ((rows.length:Nat):Int)),(10,.int .i64 ((a.1:Nat):Int))]) (fun a=>⟨a.2.2.1 ++ nones a.2.1,a.2.2.2⟩) ?_ (0,0,B,L) _
  ⟨Nat.zero_le _,Nat.le_refl _,hR⟩ (by show (Heap.mk B L)=⟨B ++ [],L⟩;rw [List.append_nil]) rfl ⟨rfl,rfl,rfl,rfl,trivial⟩
 rintro ⟨s,k,B1,L1⟩ g ⟨h1,h2,h3⟩
 simp only at h1 h2 h3
 conv=>whnf
 refine yf (fun h4 => ?_) (fun h4 => ?_) <;> conv=>whnf
 ·have hs:s < rows.length:=by have:((s:Nat):Int) < ((rows.length:Nat):Int):=h4;omega
  obtain ⟨⟨cs,cap⟩,hrw⟩:∃ r:ChR,rows[s]=r:=⟨_,rfl⟩
  have hi:(ja rows)[s]? = some [.vs cs cap]:=by simp [ja,hs,hrw]
  have hmem:((cs,cap):ChR)∈rows:=hrw ▸ List.getElem_mem hs
  have hd:rows.drop s=(cs,cap) :: rows.drop (s + 1):=by rw [List.drop_eq_getElem_cons hs,hrw]
  rw [hd] at h3
  refine uc s rfl hi rfl ?_
  conv=>whnf
  refine qc rfl ?_
  conv=>whnf
  refine gf jd mixed 28 (fun a:Nat × Nat × List (Option Blk) × List (Option jc)=>cs.length - a.1)
   (fun a=>a.1≤cs.length∧B.length≤a.2.2.1.length∧zaj Tryz.prog lp (((cs.drop a.1).map fun ch=>[.int .i64 ((s:Nat):Int),.agg ch]) ++ jp (s + 1) (rows.drop (s + 1))) a.2.2.1 a.2.2.2 K)
   (fun a=>[(0,.yld lp),(3,.int .i64 ((s:Nat):Int)),(8,.vs (ja rows) cc),(9,.int .i64 ((rows.length:Nat):Int)),(10,.int .i64 ((s:Nat):Int)),(15,.vs cs cap),(16,.int .i64 ((cs.length:Nat):Int)),(17,.int .i64 ((a.1:Nat):Int))])
   (fun a=>⟨a.2.2.1 ++ nones a.2.1,a.2.2.2⟩) ?_ (0,k,B1,L1) _ ⟨Nat.zero_le _,h2,h3⟩ rfl rfl ⟨rfl,rfl,rfl,rfl,rfl,rfl,rfl,rfl,trivial⟩
  rintro ⟨j,k2,B2,L2⟩ g2 ⟨i1,i2,i3⟩
  simp only at i1 i2 i3
  conv=>whnf
  refine yf (fun h5 => ?_) (fun h5 => ?_) <;> conv=>whnf
  ·have hj:j < cs.length:=by have:((j:Nat):Int) < ((cs.length:Nat):Int):=h5;omega
   obtain ⟨ch,hch⟩:∃ ch,cs[j]=ch:=⟨_,rfl⟩
   have hcj:cs[j]? = some ch:=by rw [List.getElem?_eq_getElem hj,hch]
   have hck:=hc _ hmem ch (hch ▸ List.getElem_mem hj)
   obtain ⟨ca,cg,ns,nc,rfl,hns⟩:=hck
   refine uc j rfl hcj rfl ?_
   conv=>whnf
   refine And.intro ⟨by decide,rfl⟩ ?_
   conv=>whnf
   generalize hq:Heap.blk? _ _=q
   obtain rfl:=hq.symm.trans (x7 (B2 ++ nones k2) L2 _)
   conv=>whnf
   refine qa rfl ?_
   conv=>whnf
   generalize hq:Heap.blk? _ _=q
   obtain rfl:=hq.symm.trans (jO (B2 ++ nones k2) L2 _ _)
   conv=>whnf
   refine za rfl ?_
   conv=>whnf
   have hd2:cs.drop j=[.str ca,.str cg,.vs ns nc] :: cs.drop (j + 1):=by rw [List.drop_eq_getElem_cons hj,hch]
   rw [hd2,List.map_cons,List.cons_append] at i3
   refine ⟨ybv (ybh B2 k2 L2 _ _) (jaT (fun r h' hq => ?_) (i3 (k2 + 1)))⟩
   obtain ⟨B',L',e1,rfl,hq⟩:=hq
   have e2:B.length≤B'.length:=by omega
   have e3:Heap.mk B' L'=⟨B' ++ nones 0,L'⟩:=by show Heap.mk B' L'=⟨B' ++ [],L'⟩;rw [List.append_nil]
   have hcl:=hn2 _ hmem
   simp only at hcl
   rcases hq with ⟨rfl,hq⟩ | ⟨rfl,hq⟩ <;> conv=>whnf
   ·repeat ((first | refine xbt ?_ | refine ya rfl ?_ | refine And.intro rfl ?_ | refine ub (by omega) ?_);conv=>whnf)
    refine ⟨(j + 1,0,B',L'),by show cs.length - (j + 1) < cs.length - j;omega,⟨hj,e2,hq⟩,e3,rfl,rfl,rfl,rfl,rfl,rfl,rfl,rfl,?_,trivial⟩
    show some (AV.int .i64 _)=some (AV.int .i64 _)
    congr 2
   ·repeat ((first | refine ybt ?_ | refine ua rfl ?_);conv=>whnf)
    exact ⟨rfl,B',L',0,e2,e3,hq⟩
  ·have hj:¬ ((j:Nat):Int) < ((cs.length:Nat):Int):=h5
   obtain rfl:j=cs.length:=by omega
   rw [List.drop_length] at i3
   repeat ((first | refine And.intro rfl ?_ | refine ub (by omega) ?_);conv=>whnf)
   refine ⟨(s + 1,k2,B2,L2),by show rows.length - (s + 1) < rows.length - s;omega,⟨hs,i2,i3⟩,rfl,rfl,rfl,rfl,rfl,rfl,trivial⟩
 ·have hs:¬ ((s:Nat):Int) < ((rows.length:Nat):Int):=h4
  obtain rfl:s=rows.length:=by omega
  rw [List.drop_length] at h3
  exact ⟨rfl,B1,L1,k,h2,rfl,h3⟩⟩
end
end Go.Abs

namespace Go.Abs
noncomputable section
open Go.Proofs
set_option maxRecDepth 100000
def clr (x:Ch):Ch:={ x with c:=none }
def zd (rows:List (List Ch × Option Nat)) (t:Nat):List Ch:=match rows[t]? with
 | some r=>r.1
 | none=>[]
def jh (rows:List (List Ch × Option Nat)) (s k t:Nat):Nat:=if t < s then (zd rows t).length else if t=s then k else 0
def gn (rows:List (List Ch × Option Nat)) (t j:Nat):List (List AV):=((zd rows t).take j).map fun x=>chV (clr x)
def zv (rows:List (List Ch × Option Nat)) (s k:Nat) (bs:Nat→Nat) (t:Nat):AV:=if jh rows s k t=0 then .nils else .ms (bs t) 0 (jh rows s k t) none
def qh (n:Nat) (rows:List (List Ch × Option Nat)) (s k:Nat) (bs:Nat→Nat):List (List AV):=(List.range n).map fun t=>[zv rows s k bs t]
def qy (rows:List (List Ch × Option Nat)) (s k:Nat):List (List AV):=((zd rows s).drop k).map (fun x=>[.int .i64 ((s:Nat):Int),.agg (chV x)]) ++ jp (s + 1) ((yb rows).drop (s + 1))
theorem vD {rows:List (List Ch × Option Nat)} {t:Nat} (h:t < rows.length):zd rows t=rows[t].1:=by unfold zd;rw [List.getElem?_eq_getElem h]
theorem zbN {rows:List (List Ch × Option Nat)} (h:0 < rows.length):jp 0 (yb rows)=qy rows 0 0:=by
 cases rows with
 | nil=>simp at h
 | cons r rest =>
  show (r.1.map chV).map (fun ch=>[AV.int .i64 ((0:Nat):Int),AV.agg ch]) ++ jp (0 + 1) (yb rest)=_
  simp [qy,zd,yb]
theorem xa6 {rows:List (List Ch × Option Nat)} {s:Nat} (h:s + 1 < rows.length):qy rows s (zd rows s).length=qy rows (s + 1) 0:=by
 unfold qy
 have h2:s + 1 < (yb rows).length:=by simpa [yb] using h
 rw [List.drop_length,List.map_nil,List.nil_append,List.drop_eq_getElem_cons h2]
 show ((yb rows)[s + 1].1.map fun ch=>[AV.int .i64 ((s + 1:Nat):Int),AV.agg ch]) ++ jp (s + 1 + 1) ((yb rows).drop (s + 1 + 1))=_
 rw [vD h]
 simp [yb]
theorem ybN {rows:List (List Ch × Option Nat)} {s:Nat} (h:s + 1=rows.length):qy rows s (zd rows s).length=[]:=by
 unfold qy
 rw [List.drop_length,List.map_nil,List.nil_append,List.drop_of_length_le (by simp [yb];omega)]
 rfl
theorem vam {rows:List (List Ch × Option Nat)} {s k:Nat} (h:k < (zd rows s).length):qy rows s k=[.int .i64 ((s:Nat):Int),.agg (chV (zd rows s)[k])] :: qy rows s (k + 1):=by
 unfold qy
 rw [List.drop_eq_getElem_cons h]
 rfl
structure KeepT (rows:List (List Ch × Option Nat)) (s k:Nat) (bs:Nat→Nat) (T:List (Option Blk)):Prop where
 lt:∀ (i:Nat) (x:Blk),(T[i]?).join=some x→x.Lt 0 0
 at':∀ t,0 < jh rows s k t→4≤bs t∧T[bs t - 4]? = some (some (.rows (gn rows t (jh rows s k t)) true false))
 inj:∀ t u,0 < jh rows s k t→0 < jh rows s k u→bs t=bs u→t=u
theorem xaT {rows:List (List Ch × Option Nat)} {s:Nat} (t:Nat):jh rows s (zd rows s).length t=jh rows (s + 1) 0 t:=by
 unfold jh
 by_cases h1:t < s
 ·rw [if_pos h1,if_pos (by omega)]
 ·rw [if_neg h1]
  by_cases h2:t=s
  ·rw [if_pos h2,if_pos (by omega),h2]
  ·rw [if_neg h2,if_neg (by omega)]
   split <;> rfl
theorem KeepT.step {rows:List (List Ch × Option Nat)} {s:Nat} {bs:Nat→Nat} {T:List (Option Blk)} (h:KeepT rows s (zd rows s).length bs T):KeepT rows (s + 1) 0 bs T :=
 ⟨h.lt,fun t ht=>by rw [← xaT] at ht ⊢;exact h.at' t ht,fun t u ht hu e=>by rw [← xaT] at ht hu;exact h.inj t u ht hu e⟩
theorem ybi (n:Nat) (rows:List (List Ch × Option Nat)) (s:Nat) (bs:Nat→Nat):qh n rows s (zd rows s).length bs=qh n rows (s + 1) 0 bs:=by
 unfold qh
 refine List.map_congr_left fun t _ => ?_
 unfold zv
 rw [xaT]
def KeepJ (n:Nat) (rows:List (List Ch × Option Nat)) (b0 b1 b3:Option Blk) (vs:List (List AV)) (B:List (Option Blk)):Prop :=
 ∃ (s k:Nat) (bs:Nat→Nat) (T:List (Option Blk)),s < rows.length∧k≤(zd rows s).length∧vs=qy rows s k∧B=b0 :: b1 :: some (.rows (qh n rows s k bs) false false) :: b3 :: T∧KeepT rows s k bs T
theorem KeepJ.nones {n:Nat} {rows:List (List Ch × Option Nat)} {b0 b1 b3:Option Blk} {vs:List (List AV)} {B:List (Option Blk)} (h:KeepJ n rows b0 b1 b3 vs B) (j:Nat):KeepJ n rows b0 b1 b3 vs (B ++ Abs.nones j):=by
 obtain ⟨s,k,bs,T,h1,h2,h3,rfl,h5⟩:=h
 refine ⟨s,k,bs,T ++ Abs.nones j,h1,h2,h3,rfl,fun i x hx => ?_,fun t ht => ?_,h5.inj⟩
 ·rw [List.getElem?_append] at hx
  split at hx
  ·exact h5.lt i x hx
  ·cases hh:(Abs.nones j)[i - T.length]? with
   | none=>rw [hh] at hx;cases hx
   | some y =>
    rw [hh] at hx
    have:=List.mem_of_getElem? hh
    have:y=none:=by simpa [Abs.nones] using (List.mem_replicate.1 this).2
    rw [this] at hx;cases hx
 ·obtain ⟨q1,q2⟩:=h5.at' t ht
  refine ⟨q1,?_⟩
  rw [List.getElem?_append_left]
  ·exact q2
  ·rcases Nat.lt_or_ge (bs t - 4) T.length with hh | hh
   ·exact hh
   ·rw [List.getElem?_eq_none hh] at q2;cases q2
theorem KeepJ.head {n:Nat} {rows:List (List Ch × Option Nat)} {b0 b1 b3:Option Blk} {v:List AV} {vs:List (List AV)} {B:List (Option Blk)} (h:KeepJ n rows b0 b1 b3 (v :: vs) B) (hc:∀ t,t < rows.length→0 < (zd rows t).length) :
  ∃ (s k:Nat) (bs:Nat→Nat) (T:List (Option Blk)) (hs:s < rows.length) (hk:k < (zd rows s).length),v=[.int .i64 ((s:Nat):Int),.agg (chV (zd rows s)[k])]∧vs=qy rows s (k + 1)∧B=b0 :: b1 :: some (.rows (qh n rows s k bs) false false) :: b3 :: T∧KeepT rows s k bs T:=by
 obtain ⟨s,k,bs,T,h1,h2,h3,h4,h5⟩:=h
 rcases Nat.lt_or_ge k (zd rows s).length with hk | hk
 ·rw [vam hk] at h3
  injection h3 with e1 e2
  exact ⟨s,k,bs,T,h1,hk,e1,e2,h4,h5⟩
 ·have hk2:k=(zd rows s).length:=by omega
  subst hk2
  rcases Nat.lt_or_ge (s + 1) rows.length with hs | hs
  ·rw [xa6 hs,vam (hc (s + 1) hs)] at h3
   injection h3 with e1 e2
   exact ⟨s + 1,0,bs,T,hs,hc (s + 1) hs,e1,e2,by rw [h4,ybi],h5.step⟩
  ·rw [ybN (by omega)] at h3
   cases h3
theorem KeepJ.done {n:Nat} {rows:List (List Ch × Option Nat)} {b0 b1 b3:Option Blk} {B:List (Option Blk)} (h:KeepJ n rows b0 b1 b3 [] B) (hc:∀ t,t < rows.length→0 < (zd rows t).length) :
  ∃ (bs:Nat→Nat) (T:List (Option Blk)),B=b0 :: b1 :: some (.rows (qh n rows rows.length 0 bs) false false) :: b3 :: T∧KeepT rows rows.length 0 bs T:=by
 obtain ⟨s,k,bs,T,h1,h2,h3,h4,h5⟩:=h
 rcases Nat.lt_or_ge k (zd rows s).length with hk | hk
 ·rw [vam hk] at h3;cases h3
 ·have hk2:k=(zd rows s).length:=by omega
  subst hk2
  rcases Nat.lt_or_ge (s + 1) rows.length with hs | hs
  ·rw [xa6 hs,vam (hc (s + 1) hs)] at h3;cases h3
  ·have hs2:s + 1=rows.length:=by omega
   rw [← hs2]
   exact ⟨bs,T,by rw [h4,ybi],h5.step⟩
end
end Go.Abs

namespace Go.Abs
noncomputable section
open Go.Proofs
set_option maxRecDepth 100000
theorem jag {rows:List (List Ch × Option Nat)} {s k j t:Nat} (h:t≠s):jh rows s k t=jh rows s j t:=by
 unfold jh;simp [h]
theorem vA {rows:List (List Ch × Option Nat)} {s k:Nat}:jh rows s k s=k:=by unfold jh;simp
theorem KeepT.below {rows:List (List Ch × Option Nat)} {s k t:Nat} {bs:Nat→Nat} {T:List (Option Blk)} (h:KeepT rows s k bs T) (ht:0 < jh rows s k t):4≤bs t∧bs t - 4 < T.length:=by
 obtain ⟨q1,q2⟩:=h.at' t ht
 refine ⟨q1,?_⟩
 rcases Nat.lt_or_ge (bs t - 4) T.length with hh | hh
 ·exact hh
 ·rw [List.getElem?_eq_none hh] at q2;cases q2
def yt (bs:Nat→Nat) (s b:Nat):Nat→Nat:=fun t=>if t=s then b else bs t
theorem wb0 {rows:List (List Ch × Option Nat)} {s:Nat} {bs:Nat→Nat} {T:List (Option Blk)} {cell:Blk} (h:KeepT rows s 0 bs T) (hk:0 < (zd rows s).length) (hcell:cell.Lt 0 0) :
  KeepT rows s 1 (yt bs s (T.length + 5)) (T ++ [some cell,some (.rows [chV (clr (zd rows s)[0])] true false)]):=by
 have hcl:gn rows s 1=[chV (clr (zd rows s)[0])]:=by
  unfold gn
  rw [List.take_succ_eq_append_getElem hk];rfl
 have hold:∀ t,t≠s→0 < jh rows s 1 t→0 < jh rows s 0 t:=fun t h1 h2=>by rw [jag (j:=1) h1];exact h2
 refine ⟨fun i x hx => ?_,fun t ht => ?_,fun t u ht hu e => ?_⟩
 ·rw [List.getElem?_append] at hx
  split at hx
  ·exact h.lt i x hx
  ·match i - T.length,hx with
   | 0,hx=>injection hx with hx;subst hx;exact hcell
   | 1,hx =>
    injection hx with hx;subst hx
    exact xo fun r hr=>by rw [List.mem_singleton.1 hr];exact jF _
   | j + 2,hx=>simp at hx
 ·by_cases hts:t=s
  ·subst hts
   rw [vA,hcl]
   simp only [yt,if_true]
   refine ⟨by omega,?_⟩
   rw [List.getElem?_append_right (by omega)]
   have:T.length + 5 - 4 - T.length=1:=by omega
   rw [this];rfl
  ·have ht0:=hold t hts ht
   obtain ⟨q1,q2⟩:=h.at' t ht0
   obtain ⟨_,q3⟩:=h.below ht0
   simp only [yt,if_neg hts]
   rw [jag (j:=0) hts,List.getElem?_append_left q3]
   exact ⟨q1,q2⟩
 ·by_cases h1:t=s <;> by_cases h2:u=s
  ·rw [h1,h2]
  ·have q:=h.below (hold u h2 hu)
   simp only [yt,h1,if_true,if_neg h2] at e
   omega
  ·have q:=h.below (hold t h1 ht)
   simp only [yt,h2,if_true,if_neg h1] at e
   omega
  ·simp only [yt,if_neg h1,if_neg h2] at e
   exact h.inj t u (hold t h1 ht) (hold u h2 hu) e
theorem vb0 {rows:List (List Ch × Option Nat)} {s k:Nat} {bs:Nat→Nat} {T:List (Option Blk)} {cell:Blk} (h:KeepT rows s k bs T) (hk0:0 < k) (hk:k < (zd rows s).length) (hcell:cell.Lt 0 0) :
  KeepT rows s (k + 1) bs ((T ++ [some cell]).set (bs s - 4) (some (.rows (gn rows s k ++ [chV (clr (zd rows s)[k])]) true false))):=by
 have hcl:gn rows s (k + 1)=gn rows s k ++ [chV (clr (zd rows s)[k])]:=by
  unfold gn
  rw [List.take_succ_eq_append_getElem hk,List.map_append];rfl
 have hss:0 < jh rows s k s:=by rw [vA];exact hk0
 obtain ⟨p1,p2⟩:=h.below hss
 have hold:∀ t,0 < jh rows s (k + 1) t→0 < jh rows s k t:=fun t h2=>by
  by_cases h1:t=s
  ·rw [h1];exact hss
  ·rw [jag (j:=k + 1) h1];exact h2
 refine ⟨fun i x hx => ?_,fun t ht => ?_,fun t u ht hu e=>h.inj t u (hold t ht) (hold u hu) e⟩
 ·rw [List.getElem?_set] at hx
  split at hx
  ·split at hx
   ·injection hx with hx;subst hx
    exact xo fun r hr=>by
     rcases List.mem_append.1 hr with hr | hr
     ·obtain ⟨y,_,rfl⟩:=List.mem_map.1 hr;exact jF _
     ·rw [List.mem_singleton.1 hr];exact jF _
   ·cases hx
  ·rw [List.getElem?_append] at hx
   split at hx
   ·exact h.lt i x hx
   ·match i - T.length,hx with
    | 0,hx=>injection hx with hx;subst hx;exact hcell
    | j + 1,hx=>simp at hx
 ·have ht0:=hold t ht
  obtain ⟨q1,q2⟩:=h.at' t ht0
  obtain ⟨_,q3⟩:=h.below ht0
  refine ⟨q1,?_⟩
  by_cases hts:t=s
  ·subst hts
   rw [vA,hcl,List.getElem?_set_self (by simp;omega)]
  ·have hne:bs s - 4≠bs t - 4:=fun e=>hts (h.inj t s ht0 hss (by omega))
   rw [jag (j:=k) hts,List.getElem?_set_ne hne,List.getElem?_append_left q3]
   exact q2
theorem uY {n:Nat} {rows:List (List Ch × Option Nat)} {s k k':Nat} {bs bs':Nat→Nat} {x:AV} (hx:x=zv rows s k' bs' s) (hb:∀ t,t≠s→bs t=bs' t):(qh n rows s k bs).set (0 + s) [x]=qh n rows s k' bs':=by
 refine List.ext_getElem (by simp [qh]) fun t h1 h2 => ?_
 rw [List.getElem_set]
 split
 ·rename_i e
  rw [Nat.zero_add] at e
  subst e
  simp [qh,hx]
 ·rename_i e
  rw [Nat.zero_add] at e
  have e':t≠s:=fun h=>e h.symm
  simp only [qh,List.getElem_map,List.getElem_range]
  unfold zv
  rw [jag (j:=k') e',hb t e']
theorem xbi {n:Nat} {rows:List (List Ch × Option Nat)} {s k t:Nat} {bs:Nat→Nat} (h:t < n):(qh n rows s k bs)[0 + t]? = some [zv rows s k bs t]:=by simp [qh,h]
end
end Go.Abs

namespace Go.Abs
noncomputable section
open Go.Proofs
set_option maxRecDepth 100000
def uae (rows:List (List Ch × Option Nat)) (c:List Nat) (s:Nat):List Ch × Option Nat:=match (zd rows s)[c.getD s 0]? with
 | some x=>([clr x],none)
 | none=>([],none)
def zg (rows:List (List Ch × Option Nat)) (c:List Nat):List (List Ch × Option Nat):=(List.range rows.length).map (uae rows c)
def uat:AV:=.fn (.func 52) [] []
theorem pure_fixF:Pure uat:=gy _
theorem yar (n:Nat) (rows:List (List Ch × Option Nat)) (bs:Nat→Nat):List.replicate n [AV.nils]=qh n rows 0 0 bs:=by
 refine List.ext_getElem (by simp [qh]) fun i h1 h2 => ?_
 have:jh rows 0 0 i=0:=by unfold jh;simp
 simp [qh,zv,this]
def xN (os:List Nat) (n:Nat):Option Blk:=some (.rows [[.vs (osV os) none,.ms 2 0 n (some n)]] false false)
abbrev yj (os:List Nat) (oc cc:Option Nat) (rows:List (List Ch × Option Nat)) (s k:Nat) (bs:Nat→Nat) (T:List (Option Blk)):List (Option Blk) :=
 some (.rows [ye os oc rows cc] false false) :: some (.rows [[.nils,.nils]] false false) :: some (.rows (qh os.length rows s k bs) false false) :: xN os os.length :: T
theorem vaM {os:List Nat} {oc cc:Option Nat} {rows:List (List Ch × Option Nat)} {s k:Nat} {bs:Nat→Nat} {T:List (Option Blk)} {n:Nat} (h:KeepT rows s k bs T) :
  LtB (some (.rows [ye os oc rows cc] false false) :: some (.rows [[.nils,.nils]] false false) :: some (.rows (qh n rows s k bs) false false) :: xN os n :: T):=by
 intro b x hb
 match b,hb with
 | 0,hb=>injection hb with hb;subst hb;exact xo fun r hr=>by rw [List.mem_singleton.1 hr];exact yW _ _ _ _
 | 1,hb=>injection hb with hb;subst hb;exact xo fun r hr=>by rw [List.mem_singleton.1 hr];exact xaF
 | 2,hb =>
  injection hb with hb;subst hb
  intro r hr y hy
  obtain ⟨t,_,rfl⟩:=List.mem_map.1 hr
  rw [List.mem_singleton.1 hy]
  unfold zv
  split
  ·exact .nils
  ·rename_i hne
   have:=h.below (t:=t) (by omega)
   exact .ms _ _ _ _ (by simp;omega)
 | 3,hb =>
  injection hb with hb;subst hb
  exact gL fun y hy=>by
   simp only [List.mem_cons,List.not_mem_nil,or_false] at hy
   rcases hy with rfl | rfl
   ·exact (wi os none).lt _ _
   ·exact .ms _ _ _ _ (by simp)
 | i + 4,hb=>exact (h.lt i x hb).mono (Nat.zero_le _) (Nat.zero_le _)
theorem zbi {rows:List (List Ch × Option Nat)}:KeepT rows 0 0 (fun _=>0) []:=by
 have hc:∀ t,jh rows 0 0 t=0:=fun t=>by unfold jh;simp
 exact ⟨fun i x hx=>by simp at hx,fun t ht=>by rw [hc] at ht;omega,fun t u ht _ _=>by rw [hc] at ht;omega⟩
theorem gbp {A:List (Option Blk)} {L:List (Option jc)} {u v w:AV}:xD (qv yad) (Heap.mk (A ++ [some (.rows [[u,v,w]] false false)]) L) 64 (.ptr A.length 0 0) 2=some (.ptr A.length 0 2) :=
 (show xD (qv yad) (Heap.mk (A ++ [some (.rows [[u,v,w]] false false)]) L) 64 (.ptr A.length 0 0) 2=(match (Heap.mk (A ++ [some (.rows [[u,v,w]] false false)]) L).blk? A.length with | some (.rows rs _ _)=>(match rs[0]? with | some row=>if Nat.blt (0 + 2) row.length then some (.ptr A.length 0 (0 + 2)) else none | none=>none) | _=>none) from rfl).trans (by rw [x7];rfl)
theorem xaM (os:List Nat) (oc cc:Option Nat) (rows:List (List Ch × Option Nat)) (s:Nat) (bs:Nat→Nat) (T:List (Option Blk)) (x y:Option Blk) :
  AV.ms (List.set (yj os oc cc rows s 0 bs T ++ [x]) (yj os oc cc rows s 0 bs T).length y).length 0 1 none=zv rows s 1 (yt bs s (T.length + 5)) s:=by
 simp [zv,vA,yt]
theorem x6 (rows:List (List Ch × Option Nat)) (s k:Nat):∀ r∈gn rows s k,r.length=3∧r.all okc=true:=fun r hr=>by
 obtain ⟨b,_,rfl⟩:=List.mem_map.1 hr
 exact ⟨rfl,rfl⟩
theorem xb0 {os:List Nat} {oc cc:Option Nat} {rows:List (List Ch × Option Nat)} {s k:Nat} {bs:Nat→Nat} {T:List (Option Blk)} {L:List (Option jc)} (h:KeepT rows s k bs T) (hk:0 < k) (x y:Option Blk) :
  (Heap.mk (List.set (yj os oc cc rows s k bs T ++ [x]) (yj os oc cc rows s k bs T).length y) L).blk? (bs s)=some (.rows (gn rows s k) true false):=by
 have hs:0 < jh rows s k s:=by rw [vA];exact hk
 obtain ⟨q1,q2⟩:=h.at' s hs
 have q3:=(h.below hs).2
 rw [vA] at q2
 obtain ⟨j,hj⟩:∃ j,bs s=j + 4:=⟨bs s - 4,by omega⟩
 rw [hj] at q2 q3 ⊢
 have e:(yj os oc cc rows s k bs T).length=T.length + 4:=rfl
 show ((List.set (yj os oc cc rows s k bs T ++ [x]) (yj os oc cc rows s k bs T).length y)[j + 4]?).join=_
 rw [List.getElem?_set_ne (by rw [e];omega),List.getElem?_append_left (by rw [e];omega)]
 show (T[j]?).join=_
 have:j + 4 - 4=j:=rfl
 rw [this] at q2
 rw [q2];rfl
theorem yb0 (os:List Nat) (oc cc:Option Nat) (rows:List (List Ch × Option Nat)) (s:Nat) (bs:Nat→Nat) (T:List (Option Blk)) (x:Option Blk) (y z:Blk) (w:List (List AV)) (L:List (Option jc)) :
  Heap.mk ((List.set (yj os oc cc rows s 0 bs T ++ [x]) (yj os oc cc rows s 0 bs T).length (some y) ++ [some z]).set 2 (some (.rows w false false))) L =
   Heap.mk ((some (Blk.rows [ye os oc rows cc] false false) :: some (.rows [[.nils,.nils]] false false) :: some (.rows w false false) :: xN os os.length :: (T ++ [some y,some z])) ++ []) L:=by
 simp [yj]
theorem zb0 (os:List Nat) (oc cc:Option Nat) (rows:List (List Ch × Option Nat)) (s k j:Nat) (bs:Nat→Nat) (T:List (Option Blk)) (x:Option Blk) (y z:Blk) (w:List (List AV)) (L:List (Option jc)) :
  Heap.mk (((List.set (yj os oc cc rows s k bs T ++ [x]) (yj os oc cc rows s k bs T).length (some y)).set (j + 4) (some z)).set 2 (some (.rows w false false))) L =
   Heap.mk ((some (Blk.rows [ye os oc rows cc] false false) :: some (.rows [[.nils,.nils]] false false) :: some (.rows w false false) :: xN os os.length :: ((T ++ [some y]).set (j + 4 - 4) (some z))) ++ []) L:=by
 simp [yj]
def uJ (rows:List (List Ch × Option Nat)) (c:List Nat) (u:Nat) (bs:Nat→Nat) (t:Nat):AV:=if t < u then .ms (bs t) (c.getD t 0) 1 none else .ms (bs t) 0 (zd rows t).length none
def xp (n:Nat) (rows:List (List Ch × Option Nat)) (c:List Nat) (u:Nat) (bs:Nat→Nat):List (List AV):=(List.range n).map fun t=>[uJ rows c u bs t]
theorem ub0 {n:Nat} {rows:List (List Ch × Option Nat)} (hw:rows.length=n) (h0:∀ t,t < rows.length→0 < (zd rows t).length) (c:List Nat) (bs:Nat→Nat):qh n rows rows.length 0 bs=xp n rows c 0 bs:=by
 unfold qh xp
 refine List.map_congr_left fun t ht => ?_
 have ht':t < rows.length:=by have:=List.mem_range.1 ht;omega
 have hc:jh rows rows.length 0 t=(zd rows t).length:=by unfold jh;rw [if_pos ht']
 have:=h0 t ht'
 unfold zv uJ
 rw [hc,if_neg (by omega),if_neg (by omega)]
theorem jca {n:Nat} {rows:List (List Ch × Option Nat)} {c:List Nat} {u t:Nat} {bs:Nat→Nat} (h:t < n):(xp n rows c u bs)[0 + t]? = some [uJ rows c u bs t]:=by simp [xp,h]
theorem vaS {n:Nat} {rows:List (List Ch × Option Nat)} {c:List Nat} {u:Nat} {bs:Nat→Nat} {x:AV} (hx:x=uJ rows c (u + 1) bs u):(xp n rows c u bs).set (0 + u) [x]=xp n rows c (u + 1) bs:=by
 refine List.ext_getElem (by simp [xp]) fun t h1 h2 => ?_
 rw [List.getElem_set]
 split
 ·rename_i e
  rw [Nat.zero_add] at e
  subst e
  simp [xp,hx]
 ·rename_i e
  rw [Nat.zero_add] at e
  simp only [xp,List.getElem_map,List.getElem_range]
  unfold uJ
  by_cases h:t < u
  ·rw [if_pos h,if_pos (by omega)]
  ·rw [if_neg h,if_neg (by omega)]
theorem jb7 (t:Nat):zb Tryz.prog 52 [.int .i64 ((t:Nat):Int)] (.bool true):=by
 refine yc (vb (.int _ _)) (.bool _) (jb jd mixed Tryz.func52 rfl (by decide +kernel) ?_)
 conv=>whnf
 repeat ((first | refine And.intro ⟨rfl,by decide,rfl⟩ ?_ | refine za rfl ?_ | refine And.intro rfl ?_);conv=>whnf)
 exact .pure _ (.bool _)
theorem gbh {b0 b1 b2 b3:Option Blk} {rows:List (List Ch × Option Nat)} {s k t:Nat} {bs:Nat→Nat} {T:List (Option Blk)} {L:List (Option jc)} (h:KeepT rows s k bs T) (ht:0 < jh rows s k t) :
  (Heap.mk (b0 :: b1 :: b2 :: b3 :: T) L).blk? (bs t)=some (.rows (gn rows t (jh rows s k t)) true false):=by
 obtain ⟨q1,q2⟩:=h.at' t ht
 obtain ⟨j,hj⟩:∃ j,bs t=j + 4:=⟨bs t - 4,by omega⟩
 rw [hj] at q2 ⊢
 show (T[j]?).join=_
 have:j + 4 - 4=j:=rfl
 rw [this] at q2
 rw [q2];rfl
theorem qaN {rows:List (List Ch × Option Nat)} {c:List Nat} {t:Nat} (h:c.getD t 0 < (zd rows t).length):uae rows c t=([clr ((zd rows t)[c.getD t 0])],none):=by
 unfold uae
 rw [List.getElem?_eq_getElem h]
theorem gbZ {os:List Nat} {rows:List (List Ch × Option Nat)} {c:List Nat} {bs:Nat→Nat} {h:Heap} {n:Nat} {g fz:Bool} (hb:h.blk? 2=some (.rows (xp n rows c n bs) g fz)) (hn:n=n) (hr:rows.length=n) (hc:c.length=n)
  (hlt:∀ t,t < n→c.getD t 0 < (zd rows t).length) (ht:∀ t,t < n→h.blk? (bs t)=some (.rows (gn rows t (zd rows t).length) true false)) :
  Frz h (.agg [.vs (osV os) none,.ms 2 0 n (some n)]) (.agg (ye os none (zg rows c) (some n))):=by
 have hl:(ja (yb (zg rows c))).length=n:=by simp [ja,yb,zg,hr]
 refine .agg _ _ rfl fun i hi => ?_
 match i,hi with
 | 0,_=>exact fun _=>.pure _ (wi os none)
 | 1,_ =>
  intro _
  refine .ms 2 0 n _ _ g fz _ hb hl (by simp [xp]) (fun t h1 h2 => ?_) fun t h1 h2 j h3 h4 => ?_
  ·simp [ja,yb,zg,xp]
  ·have htn:t < n:=by omega
   have hlt':=hlt t htn
   have e2:(ja (yb (zg rows c)))[t]=[.vs [chV (clr ((zd rows t)[c.getD t 0]))] none]:=by
    simp only [ja,yb,zg,List.getElem_map,List.getElem_range]
    rw [qaN hlt']
    rfl
   have hj:j=0:=by rw [e2] at h3;simp at h3;exact h3
   subst hj
   have e3:((xp n rows c n bs)[0 + t])[0]=.ms (bs t) (c.getD t 0) 1 none:=by simp [xp,uJ,htn]
   have e4:((ja (yb (zg rows c)))[t])[0]=.vs [chV (clr ((zd rows t)[c.getD t 0]))] none:=by simp [e2]
   rw [e3,e4]
   have hl3:(gn rows t (zd rows t).length).length=(zd rows t).length:=by simp [gn]
   refine .ms _ _ _ _ _ true false _ (ht t htn) rfl (by omega) (fun i h5 h6 => ?_) fun i h5 h6 j h7 h8 => ?_
   ·have:i=0:=by simp at h5;exact h5
    subst this
    simp [gn,chV]
   ·have:i=0:=by simp at h5;exact h5
    subst this
    have e:(gn rows t (zd rows t).length)[c.getD t 0 + 0]=chV (clr ((zd rows t)[c.getD t 0])):=by simp [gn]
    have e5:((gn rows t (zd rows t).length)[c.getD t 0 + 0])[j]=(chV (clr ((zd rows t)[c.getD t 0])))[j]'(by rw [← e];exact h8):=by simp [gn]
    rw [e5]
    exact .pure _ (jF _ _ (List.getElem_mem _))
theorem yce {σ:Nat→Nat} {N:Nat} {g fz:Bool} {x:AV} {j k:Nat} {e:Option Nat} (hx:Pure x) (b:Nat):zP σ N (some (.rows [[x,.ms b j k e]] g fz)) (some (.rows [[x,.ms (σ b) j k e]] g fz)):=by
 refine .rows _ _ _ _ rfl (fun i hi hj => ?_) fun i hi hj t h1 h2 => ?_
 ·match i,hi with
  | 0,_=>rfl
 ·match i,hi with
  | 0,_ =>
   match t,h1 with
   | 0,_=>exact .same _ 0 (hx.lt _ _)
   | 1,_=>exact .ms _ _ _ _
set_option maxHeartbeats 8000000 in
theorem qbZ {os:List Nat} {oc cc kc:Option Nat} {rows:List (List Ch × Option Nat)} {c:List Nat} (h:ModOK os rows) (hc:c.length=os.length) (hlt:∀ s (h1:s < c.length) (h2:s < rows.length),c[s] < rows[s].1.length) :
  zb Tryz.prog 51 [.agg (ye os oc rows cc),.vs (osV c) kc,uat] (.agg (ye os none (zg rows c) (some os.length))):=by
 have hs0:=h.states
 have hw:=h.width
 have hlo:(osV os).length=os.length:=by simp [osV]
 have hlr:(ja (yb rows)).length=os.length:=by simp [ja,yb,hw]
 have hcl:=zcc (kc:=oc) hs0.1 hs0.2
 have hV:=zay h
 have pM:=zk os oc rows cc
 have hall:=uai (os:=osV os) (oc:=oc) (cc:=cc) (rows:=yb rows) yC hV.cells
 have hit:=qch (O:=.vs (osV os) oc) (cc:=cc) hV.cells (by simp [yb];omega) hV.chs
 have hlen0:∀ t,t < rows.length→0 < (zd rows t).length:=fun t ht=>by
  rw [vD ht];exact (h.count _ (List.getElem_mem ht)).1
 letI:FH:=gZ
 refine yc (jx pM (wi c kc) pure_fixF) (zk ..) (jb jd mixed Tryz.func51 rfl (by decide +kernel) ?_)
 conv=>whnf
 repeat ((first | refine And.intro ⟨rfl,by decide,rfl⟩ ?_ | refine And.intro ⟨by decide,rfl⟩ ?_ | refine And.intro rfl ?_);conv=>whnf)
 refine Or.inr (ubN jd mixed 6 8 2 69 [(1,.vs (osV c) kc),(2,uat),(3,.ptr 0 0 0),(6,.ptr 1 0 0),(7,.ptr 3 0 0)]
  (Heap.mk [some (.rows [ye os oc rows cc] false false),some (.rows [[.nils,.nils]] false false),some (.rows (qh os.length rows 0 0 fun _=>0) false false),xN os os.length] []) (Nat.le_of_ble_eq_true rfl) (by decide +kernel) (by decide +kernel) ?_ [0,1,2,3] [0,1,3,2] ?_ ?_)
 rotate_left
 iterate 2
  ·conv=>whnf
   repeat ((first | (refine ⟨_,_,fun K hK=>(by (conv=>whnf);first | exact hK | exact za rfl hK | exact wa hcl (vb (wi os oc)) hK | exact qc hlr hK | exact uC (n:=os.length) (m:=os.length) (rs:=qh os.length rows 0 0 fun _=>0) rfl rfl ⟨Nat.le_refl _,by show 24 * os.length≤_;omega,by omega⟩ ⟨by decide,rfl⟩ (yar ..) hK | exact And.intro ⟨by decide,rfl⟩ hK | (refine qa rfl ?_;(conv=>whnf);exact hK)),?_⟩;first | refine Or.inl ⟨rfl,(by repeat' (first | exact True.intro | refine And.intro ?_ ?_ | exact Or.inl (by decide +kernel) | decide +kernel | exact Or.inr (fun K hK=>(by (conv=>whnf);first | exact hK | exact za rfl hK | exact wa hcl (vb (wi os oc)) hK | exact qc hlr hK | exact uC (n:=os.length) (m:=os.length) (rs:=qh os.length rows 0 0 fun _=>0) rfl rfl ⟨Nat.le_refl _,by show 24 * os.length≤_;omega,by omega⟩ ⟨by decide,rfl⟩ (yar ..) hK | exact And.intro ⟨by decide,rfl⟩ hK | (refine qa rfl ?_;(conv=>whnf);exact hK))))),?_⟩ | refine Or.inr (zo (by repeat' (first | exact True.intro | refine And.intro ?_ ?_ | exact Or.inl (by decide +kernel) | decide +kernel | exact Or.inr (fun K hK=>(by (conv=>whnf);first | exact hK | exact za rfl hK | exact wa hcl (vb (wi os oc)) hK | exact qc hlr hK | exact uC (n:=os.length) (m:=os.length) (rs:=qh os.length rows 0 0 fun _=>0) rfl rfl ⟨Nat.le_refl _,by show 24 * os.length≤_;omega,by omega⟩ ⟨by decide,rfl⟩ (yar ..) hK | exact And.intro ⟨by decide,rfl⟩ hK | (refine qa rfl ?_;(conv=>whnf);exact hK))))) ?_)));conv=>whnf)
   refine ⟨rfl,rfl,rfl,Nat.le_of_ble_eq_true rfl,fun b hb => ?_,⟨rfl,rfl⟩,rfl,⟨_,rfl,.same _ 0 ((wi c kc).lt _ _)⟩,⟨_,rfl,.same _ 0 (pure_fixF.lt _ _)⟩,⟨_,rfl,.same _ 0 (.ptr _ _ _ (by decide))⟩,⟨_,rfl,.same _ 0 (.ptr _ _ _ (by decide))⟩,⟨_,rfl,.ptr _ _ _⟩,trivial⟩
   match b,hb with
   | 0,_=>exact .same _ 0 (xo fun r hr=>by rw [List.mem_singleton.1 hr];exact yW _ _ _ _)
   | 1,_=>exact .same _ 0 (xo fun r hr=>by rw [List.mem_singleton.1 hr];exact xaF)
   | 2,_=>exact .same _ 0 (xo fun r hr=>by
     rw [← yar,List.mem_replicate] at hr
     rw [hr.2];intro x hx;rw [List.mem_singleton.1 hx];exact .nils)
   | 3,_=>exact yce (wi os none) _
 intro g0
 conv=>whnf
 repeat ((first | refine za rfl ?_ | refine wa hall (vb pM) ?_ | refine And.intro rfl ?_);conv=>whnf)
 refine zbO hit rfl (fun _ h=>by cases h) (KeepJ os.length rows (some (.rows [ye os oc rows cc] false false)) (some (.rows [[.nils,.nils]] false false)) (xN os os.length))
  ⟨0,0,fun _=>0,[],by omega,Nat.zero_le _,zbN (by omega),rfl,zbi⟩ (vaM zbi) (fun vs B k hJ=>hJ.nones k) ?_ ?_
 ·intro v vs B hJ _
  obtain ⟨s,k,bs,T,hs,hk,rfl,rfl,rfl,hT⟩:=hJ.head hlen0
  have hkm:(zd rows s)[k]∈rows[s].1:=by
   have:=List.getElem_mem hk
   exact (vD hs) ▸ this
  have hok:=h.chs _ (List.getElem_mem hs) _ hkm
  obtain ⟨x,hx⟩:∃ x,(zd rows s)[k]=x:=⟨_,rfl⟩
  rw [hx] at hok ⊢
  refine ⟨rfl,fun y hy => ?_,fun r=>zn jd mixed ?_⟩
  ·simp only [List.mem_cons,List.not_mem_nil,or_false] at hy
   rcases hy with rfl | rfl
   ·exact .int _ _
   ·exact .agg _ fun i hi=>jF _ _ (List.getElem_mem hi)
  conv=>whnf
  repeat ((first | refine And.intro ⟨by decide,rfl⟩ ?_ | refine za rfl ?_ | refine qa rfl ?_);conv=>whnf)
  generalize hq:Heap.blk? _ _=q
  obtain rfl:=hq.symm.trans (x7 (yj os oc cc rows s k bs T) [some r] _)
  conv=>whnf
  refine qa rfl ?_
  conv=>whnf
  refine ⟨rfl,_,ubO _ [some r] _ _,fun r'=>zn jd mixed ?_⟩
  conv=>whnf
  generalize hq:xD _ _ _ _ _=q
  obtain rfl:=hq.symm.trans (gbp (A:=yj os oc cc rows s k bs T) (L:=[some r']) (u:=.str x.a) (v:=.str (qt x.n x.d)) (w:=.vs (x.l.map brV) x.c))
  conv=>whnf
  generalize hq:Heap.blk? _ _=q
  obtain rfl:=hq.symm.trans (x7 (yj os oc cc rows s k bs T) [some r'] _)
  conv=>whnf
  repeat ((first | refine za rfl ?_ | refine wa (ycc (kc:=x.c) hok.brs.len.1 (by have:=hok.brs.len.2;omega)) (vb (xW x.l x.c)) ?_);conv=>whnf)
  generalize hq:xD _ _ _ _ _=q
  obtain rfl:=hq.symm.trans (gbp (A:=yj os oc cc rows s k bs T) (L:=[some r']) (u:=.str x.a) (v:=.str (qt x.n x.d)) (w:=.vs (x.l.map brV) x.c))
  conv=>whnf
  generalize hq:Heap.blk? _ _=q
  obtain rfl:=hq.symm.trans (x7 (yj os oc cc rows s k bs T) [some r'] _)
  conv=>whnf
  refine qa rfl ?_
  conv=>whnf
  have hsn:s < os.length:=by omega
  refine Or.inl ⟨by decide +kernel,?_⟩
  conv=>whnf
  have hcell:(Blk.rows [chV (clr x)] false false).Lt 0 0:=xo fun r hr=>by rw [List.mem_singleton.1 hr];exact jF (clr x)
  rcases Nat.eq_zero_or_pos k with rfl | hk0
  ·have rk:(qh os.length rows s 0 bs)[0 + s]? = some [.nils]:=by rw [xbi hsn];simp [zv,vA]
   repeat ((first | (refine ⟨_,_,fun K hK=>(by (conv=>whnf);first | exact hK | exact za rfl hK | exact gg s rfl hsn (by decide) rk rfl hK | exact za (r:=.nils) (by rw [rk];rfl) hK | (generalize hq:Heap.blk? _ _=q;obtain rfl:=hq.symm.trans (jO (yj os oc cc rows s 0 bs T) [some r'] _ _);(conv=>whnf);exact za rfl hK) | (refine ⟨by decide,by decide,rfl,?_⟩;(conv=>whnf);exact Or.inr hK) | (refine And.intro ⟨rfl,trivial⟩ ?_;(conv=>whnf);exact zB (by decide) ⟨rfl,rfl⟩ hK) | exact vn (rs':=qh os.length rows s 1 (yt bs s (T.length + 5))) rk rfl (uY (xaM os oc cc rows s bs T _ _) fun t ht=>(by simp [yt,ht])) hK | (refine qa rfl ?_;(conv=>whnf);exact hK)),?_⟩;first | refine Or.inl ⟨rfl,(by repeat' (first | exact True.intro | refine And.intro ?_ ?_ | exact Or.inl (by decide +kernel) | decide +kernel | exact Or.inr (fun K hK=>(by (conv=>whnf);first | exact hK | exact za rfl hK | exact gg s rfl hsn (by decide) rk rfl hK | exact za (r:=.nils) (by rw [rk];rfl) hK | (generalize hq:Heap.blk? _ _=q;obtain rfl:=hq.symm.trans (jO (yj os oc cc rows s 0 bs T) [some r'] _ _);(conv=>whnf);exact za rfl hK) | (refine ⟨by decide,by decide,rfl,?_⟩;(conv=>whnf);exact Or.inr hK) | (refine And.intro ⟨rfl,trivial⟩ ?_;(conv=>whnf);exact zB (by decide) ⟨rfl,rfl⟩ hK) | exact vn (rs':=qh os.length rows s 1 (yt bs s (T.length + 5))) rk rfl (uY (xaM os oc cc rows s bs T _ _) fun t ht=>(by simp [yt,ht])) hK | (refine qa rfl ?_;(conv=>whnf);exact hK))))),?_⟩ | refine Or.inr (zo (by repeat' (first | exact True.intro | refine And.intro ?_ ?_ | exact Or.inl (by decide +kernel) | decide +kernel | exact Or.inr (fun K hK=>(by (conv=>whnf);first | exact hK | exact za rfl hK | exact gg s rfl hsn (by decide) rk rfl hK | exact za (r:=.nils) (by rw [rk];rfl) hK | (generalize hq:Heap.blk? _ _=q;obtain rfl:=hq.symm.trans (jO (yj os oc cc rows s 0 bs T) [some r'] _ _);(conv=>whnf);exact za rfl hK) | (refine ⟨by decide,by decide,rfl,?_⟩;(conv=>whnf);exact Or.inr hK) | (refine And.intro ⟨rfl,trivial⟩ ?_;(conv=>whnf);exact zB (by decide) ⟨rfl,rfl⟩ hK) | exact vn (rs':=qh os.length rows s 1 (yt bs s (T.length + 5))) rk rfl (uY (xaM os oc cc rows s bs T _ _) fun t ht=>(by simp [yt,ht])) hK | (refine qa rfl ?_;(conv=>whnf);exact hK))))) ?_)));conv=>whnf)
   have hT2:=wb0 hT hk hcell
   rw [hx] at hT2
   refine ⟨yj os oc cc rows s 1 (yt bs s (T.length + 5)) (T ++ [some (.rows [chV (clr x)] false false),some (.rows [chV (clr x)] true false)]),[],?_,by simp [yj],vaM hT2,s,1,_,_,hs,hk,rfl,rfl,hT2⟩
   exact yb0 os oc cc rows s bs T _ (.rows [chV (clr x)] false false) (.rows [chV (clr x)] true false) (qh os.length rows s 1 (yt bs s (T.length + 5))) [some r']
  ·obtain ⟨j,hj⟩:∃ j,bs s=j + 4:=⟨bs s - 4,by have:=(hT.below (t:=s) (by rw [vA];exact hk0)).1;omega⟩
   have rk:(qh os.length rows s k bs)[0 + s]? = some [.ms (j + 4) 0 k none]:=by rw [xbi hsn];simp [zv,vA,Nat.ne_of_gt hk0,hj]
   have hcl:(gn rows s k).length=k:=by simp [gn];omega
   have hk4:k≤4:=by have:=(h.count _ (List.getElem_mem hs)).2;rw [← vD hs] at this;omega
   have hb:=fun x y=>xb0 (os:=os) (oc:=oc) (cc:=cc) (L:=[some r']) hT hk0 x y
   rw [hj] at hb
   repeat ((first | (refine ⟨_,_,fun K hK=>(by (conv=>whnf);first | exact hK | exact za rfl hK | exact gg s rfl hsn (by decide) rk rfl hK | exact za (r:=.ms (j + 4) 0 k none) (by rw [rk];rfl) hK | (generalize hq:Heap.blk? _ _=q;obtain rfl:=hq.symm.trans (jO (yj os oc cc rows s k bs T) [some r'] _ _);(conv=>whnf);exact za rfl hK) | (refine ⟨by decide,by decide,rfl,?_⟩;(conv=>whnf);exact Or.inr hK) | (refine And.intro ⟨rfl,trivial⟩ ?_;(conv=>whnf);exact wy (hb _ _) (by decide) ⟨rfl,rfl⟩ (x6 _ _ _) ⟨hk0,hcl.symm,by show (k + 1) * 56≤_;omega⟩ hK) | exact vn (rs':=qh os.length rows s (k + 1) bs) rk rfl (uY (by simp [zv,vA,hj]) fun t ht=>rfl) hK | (refine qa rfl ?_;(conv=>whnf);exact hK)),?_⟩;first | refine Or.inl ⟨rfl,(by repeat' (first | exact True.intro | refine And.intro ?_ ?_ | exact Or.inl (by decide +kernel) | decide +kernel | exact Or.inr (fun K hK=>(by (conv=>whnf);first | exact hK | exact za rfl hK | exact gg s rfl hsn (by decide) rk rfl hK | exact za (r:=.ms (j + 4) 0 k none) (by rw [rk];rfl) hK | (generalize hq:Heap.blk? _ _=q;obtain rfl:=hq.symm.trans (jO (yj os oc cc rows s k bs T) [some r'] _ _);(conv=>whnf);exact za rfl hK) | (refine ⟨by decide,by decide,rfl,?_⟩;(conv=>whnf);exact Or.inr hK) | (refine And.intro ⟨rfl,trivial⟩ ?_;(conv=>whnf);exact wy (hb _ _) (by decide) ⟨rfl,rfl⟩ (x6 _ _ _) ⟨hk0,hcl.symm,by show (k + 1) * 56≤_;omega⟩ hK) | exact vn (rs':=qh os.length rows s (k + 1) bs) rk rfl (uY (by simp [zv,vA,hj]) fun t ht=>rfl) hK | (refine qa rfl ?_;(conv=>whnf);exact hK))))),?_⟩ | refine Or.inr (zo (by repeat' (first | exact True.intro | refine And.intro ?_ ?_ | exact Or.inl (by decide +kernel) | decide +kernel | exact Or.inr (fun K hK=>(by (conv=>whnf);first | exact hK | exact za rfl hK | exact gg s rfl hsn (by decide) rk rfl hK | exact za (r:=.ms (j + 4) 0 k none) (by rw [rk];rfl) hK | (generalize hq:Heap.blk? _ _=q;obtain rfl:=hq.symm.trans (jO (yj os oc cc rows s k bs T) [some r'] _ _);(conv=>whnf);exact za rfl hK) | (refine ⟨by decide,by decide,rfl,?_⟩;(conv=>whnf);exact Or.inr hK) | (refine And.intro ⟨rfl,trivial⟩ ?_;(conv=>whnf);exact wy (hb _ _) (by decide) ⟨rfl,rfl⟩ (x6 _ _ _) ⟨hk0,hcl.symm,by show (k + 1) * 56≤_;omega⟩ hK) | exact vn (rs':=qh os.length rows s (k + 1) bs) rk rfl (uY (by simp [zv,vA,hj]) fun t ht=>rfl) hK | (refine qa rfl ?_;(conv=>whnf);exact hK))))) ?_)));conv=>whnf)
   have hT2:=vb0 hT hk0 hk hcell
   rw [hx,hj] at hT2
   refine ⟨yj os oc cc rows s (k + 1) bs ((T ++ [some (Blk.rows [chV (clr x)] false false)]).set (j + 4 - 4) (some (Blk.rows (gn rows s k ++ [chV (clr x)]) true false))),[],?_,by simp [yj],vaM hT2,s,k + 1,_,_,hs,hk,rfl,rfl,hT2⟩
   exact zb0 os oc cc rows s k j bs T _ (.rows [chV (clr x)] false false) (.rows (gn rows s k ++ [chV (clr x)]) true false) (qh os.length rows s (k + 1) bs) [some r']
 ·intro B hJ _
  obtain ⟨bs,T,rfl,hT⟩:=hJ.done hlen0
  have hfix:=fun t:Nat=>jb7 t
  rw [ub0 hw hlen0 c bs]
  conv=>whnf
  repeat ((first | refine za rfl ?_ | refine qc rfl ?_ | refine And.intro rfl ?_);conv=>whnf)
  refine gf jd mixed 69 (fun u:Nat=>os.length - u) (fun u=>u≤os.length) (fun u=>[(1,.vs (osV c) kc),(2,uat),(6,.ptr 1 0 0),(7,.ptr 3 0 0),(41,.int .i64 ((os.length:Nat):Int)),(42,.int .i64 ((u:Nat):Int))])
   (fun u=>Heap.mk (some (Blk.rows [ye os oc rows cc] false false) :: some (.rows [[.nils,.nils]] false false) :: some (.rows (xp os.length rows c u bs) false false) :: xN os os.length :: T) [none]) ?_ 0 _ (Nat.zero_le _) rfl rfl ⟨rfl,rfl,rfl,rfl,rfl,rfl,trivial⟩
  rintro u g2 i1
  replace i1:u≤os.length:=i1
  conv=>whnf
  refine yf (fun h5 => ?_) (fun h5 => ?_) <;> conv=>whnf
  ·have hu:u < os.length:=by have:((u:Nat):Int) < ((os.length:Nat):Int):=h5;omega
   repeat ((first | refine wa (hfix u) (vb (.int _ _)) ?_ | refine ua rfl ?_ | refine And.intro rfl ?_);conv=>whnf)
   refine Or.inl ⟨by decide +kernel,?_⟩
   conv=>whnf
   have hur:u < rows.length:=by omega
   have huc:u < c.length:=by omega
   have hcu:(osV c)[u]? = some [.int .i64 ((c[u]:Nat):Int)]:=uaH huc
   have hcl:c[u] < (zd rows u).length:=by rw [vD hur];exact hlt u huc hur
   have hcnt:jh rows rows.length 0 u=(zd rows u).length:=by unfold jh;rw [if_pos hur]
   have hpos:0 < jh rows rows.length 0 u:=by rw [hcnt];exact hlen0 u hur
   have hbk:=gbh (b0:=some (Blk.rows [ye os oc rows cc] false false)) (b1:=some (.rows [[.nils,.nils]] false false)) (b2:=some (.rows (xp os.length rows c u bs) false false)) (b3:=xN os os.length) (L:=[none]) hT hpos
   have hk4:(zd rows u).length≤4:=by have:=(h.count _ (List.getElem_mem hur)).2;rw [vD hur];exact this
   have rk:(xp os.length rows c u bs)[0 + u]? = some [.ms (bs u) 0 (zd rows u).length none]:=by rw [jca hu];simp [uJ]
   have hx:AV.ms (bs u) (0 + ((c[u]:Nat):Int).toNat) ((((c[u] + 1:Nat):Int)).toNat - ((c[u]:Nat):Int).toNat) (none.map (· - ((c[u]:Nat):Int).toNat))=uJ rows c (u + 1) bs u:=by
    have e:c.getD u 0=c[u]:=by simp [List.getD,huc]
    unfold uJ
    rw [if_pos (by omega),e]
    simp
   repeat ((first | (refine ⟨_,_,fun K hK=>(by (conv=>whnf);first | exact hK | exact za rfl hK | exact gg u rfl hu (by decide) rk rfl hK | exact uc u rfl hcu rfl hK | exact za (r:=.ms (bs u) 0 (zd rows u).length none) (by rw [rk];rfl) hK | exact And.intro rfl (ub (by omega) hK) | exact ⟨⟨by omega,by omega,by omega⟩,(by rw [hbk];exact fun r hr=>(x6 _ _ _ r hr).1),Or.inl ⟨Or.inr (by omega),hK⟩⟩ | exact vn (rs':=xp os.length rows c (u + 1) bs) rk rfl (vaS hx) hK | (refine qa rfl ?_;(conv=>whnf);exact hK)),?_⟩;first | refine Or.inl ⟨rfl,(by repeat' (first | exact True.intro | refine And.intro ?_ ?_ | exact Or.inl (by decide +kernel) | decide +kernel | exact Or.inr (fun K hK=>(by (conv=>whnf);first | exact hK | exact za rfl hK | exact gg u rfl hu (by decide) rk rfl hK | exact uc u rfl hcu rfl hK | exact za (r:=.ms (bs u) 0 (zd rows u).length none) (by rw [rk];rfl) hK | exact And.intro rfl (ub (by omega) hK) | exact ⟨⟨by omega,by omega,by omega⟩,(by rw [hbk];exact fun r hr=>(x6 _ _ _ r hr).1),Or.inl ⟨Or.inr (by omega),hK⟩⟩ | exact vn (rs':=xp os.length rows c (u + 1) bs) rk rfl (vaS hx) hK | (refine qa rfl ?_;(conv=>whnf);exact hK))))),?_⟩ | refine Or.inr (zo (by repeat' (first | exact True.intro | refine And.intro ?_ ?_ | exact Or.inl (by decide +kernel) | decide +kernel | exact Or.inr (fun K hK=>(by (conv=>whnf);first | exact hK | exact za rfl hK | exact gg u rfl hu (by decide) rk rfl hK | exact uc u rfl hcu rfl hK | exact za (r:=.ms (bs u) 0 (zd rows u).length none) (by rw [rk];rfl) hK | exact And.intro rfl (ub (by omega) hK) | exact ⟨⟨by omega,by omega,by omega⟩,(by rw [hbk];exact fun r hr=>(x6 _ _ _ r hr).1),Or.inl ⟨Or.inr (by omega),hK⟩⟩ | exact vn (rs':=xp os.length rows c (u + 1) bs) rk rfl (vaS hx) hK | (refine qa rfl ?_;(conv=>whnf);exact hK))))) ?_)));conv=>whnf)
   repeat ((first | refine And.intro rfl (ub (by omega) ?_) | refine And.intro rfl ?_);conv=>whnf)
   refine ⟨u + 1,by show os.length - (u + 1) < os.length - u;omega,hu,rfl,rfl,rfl,rfl,rfl,rfl,rfl,?_,trivial⟩
   show some (AV.int .i64 _)=some (AV.int .i64 _)
   congr 2
  ·have hu:¬ ((u:Nat):Int) < ((os.length:Nat):Int):=h5
   obtain rfl:u=os.length:=by omega
   repeat ((first | refine za rfl ?_ | refine qa rfl ?_ | refine And.intro rfl ?_);conv=>whnf)
   exact gbZ rfl rfl (by omega) (by omega) (fun t ht=>by rw [vD (by omega)];have:=hlt t (by omega) (by omega);simpa [List.getD,show t < c.length by omega] using this) fun t ht=>by
    have hcnt:jh rows rows.length 0 t=(zd rows t).length:=by unfold jh;rw [if_pos (by omega)]
    have hp:0 < jh rows rows.length 0 t:=by rw [hcnt];exact hlen0 t (by omega)
    rw [← hcnt]
    exact gbh hT hp
end
end Go.Abs

namespace Go.Abs
noncomputable section
open Go.Proofs
set_option maxRecDepth 100000
structure StratOK (os:List Nat) (rows:List (List Ch × Option Nat)) (c:List Nat):Prop where
 len:c.length=os.length
 lt:∀ s (h1:s < c.length) (h2:s < rows.length),c[s] < rows[s].1.length
theorem StratOK.getD {os:List Nat} {rows:List (List Ch × Option Nat)} {c:List Nat} (h:StratOK os rows c) (hw:rows.length=os.length) {t:Nat} (ht:t < os.length):c.getD t 0 < (zd rows t).length:=by
 have h1:t < c.length:=by have:=h.len;omega
 rw [vD (by omega)]
 have:=h.lt t h1 (by omega)
 simpa [List.getD,h1] using this
theorem gcb {N:Nat} {x:Ch} (h:wB N x):wB N (clr x):=⟨h.name,h.gain,h.dvd,h.brs,h.dvds⟩
theorem qY {os:List Nat} {rows:List (List Ch × Option Nat)} {c:List Nat} (h:ModOK os rows) (hc:StratOK os rows c):ModOK os (zg rows c):=by
 have hw:=h.width
 have key:∀ r∈zg rows c,∃ x,r=([clr x],none)∧wB os.length x:=fun r hr=>by
  obtain ⟨t,ht,rfl⟩:=List.mem_map.1 hr
  have ht:=List.mem_range.1 ht
  have hlt:=hc.getD hw (t:=t) (by omega)
  refine ⟨_,qaN hlt,?_⟩
  have hm:(zd rows t)[c.getD t 0]∈rows[t].1:=by
   have:=List.getElem_mem hlt
   exact (vD ht) ▸ this
  exact h.chs _ (List.getElem_mem ht) _ hm
 refine ⟨h.states,h.owners,by simp [zg,hw],fun r hr => ?_,fun r hr x hx => ?_⟩
 ·obtain ⟨x,rfl,_⟩:=key r hr
  simp
 ·obtain ⟨y,rfl,hy⟩:=key r hr
  rw [List.mem_singleton.1 hx]
  exact gcb hy
theorem ubk {rows:List (List Ch × Option Nat)} {c:List Nat} {os:List Nat} (h:ModOK os rows) (hc:StratOK os rows c):gac (zg rows c)=true:=by
 refine List.all_eq_true.2 fun r hr => ?_
 obtain ⟨t,ht,rfl⟩:=List.mem_map.1 hr
 have ht:=List.mem_range.1 ht
 rw [qaN (hc.getD h.width (by have:=h.width;omega))]
 rfl
set_option maxHeartbeats 4000000 in
theorem zbk {os:List Nat} {oc cc kc:Option Nat} {rows:List (List Ch × Option Nat)} {c:List Nat} (h:ModOK os rows) (hc:StratOK os rows c) :
  zb Tryz.prog 35 [.agg (ye os oc rows cc),.vs (osV c) kc] (.tup [.agg (ye os none (zg rows c) (some os.length)),.int .i64 0]):=by
 have hst:=qbE (oc:=oc) (cc:=cc) (kc:=kc) h hc.len hc.lt
 have hke:=qbZ (oc:=oc) (cc:=cc) (kc:=kc) h hc.len hc.lt
 have pM:=zk os oc rows cc
 refine yc (wb pM (wi c kc)) (jE (zk ..) (.int _ _)) (jb jd mixed Tryz.func35 rfl (by decide +kernel) ?_)
 conv=>whnf
 repeat ((first | refine And.intro ⟨rfl,by decide,rfl⟩ ?_ | refine And.intro ⟨by decide,rfl⟩ ?_ | refine qa rfl ?_ | refine za rfl ?_ | refine wa hst (wb pM (wi c kc)) ?_ | refine wa hke (jx pM (wi c kc) pure_fixF) ?_ | refine ya rfl ?_ | refine And.intro rfl ?_);conv=>whnf)
 exact .pure _ (jE (zk ..) (.int _ _))
end
end Go.Abs

namespace Go.Abs
noncomputable section
open Go.Proofs
set_option maxRecDepth 100000
def uh (p:Nat):List Nat→List Nat→List Nat→Nat→List Nat
 | o :: os,l :: ls,c :: cs,k=>if o=p then (k % l) :: uh p os ls cs (k / l) else c :: uh p os ls cs k
 | _,_,_,_=>[]
def vh (p:Nat):List Nat→List Nat→Nat
 | o :: os,l :: ls=>if o=p then l * vh p os ls else vh p os ls
 | _,_=>1
theorem vap (p:Nat):∀ (os ls cs:List Nat) (k:Nat),ls.length=os.length→cs.length=os.length→(∀ l∈ls,0 < l)→k < vh p os ls →
  jn p os ls (uh p os ls cs k)=if k + 1 < vh p os ls then some (uh p os ls cs (k + 1)) else none
 | [],[],[],k,_,_,_,hk=>by
  have:k=0:=by simpa [vh] using hk
  subst this
  simp [uh,jn,vh]
 | o :: os,l :: ls,c :: cs,k,h1,h2,h3,hk=>by
  have h1':ls.length=os.length:=by simpa using h1
  have h2':cs.length=os.length:=by simpa using h2
  have h3':∀ l∈ls,0 < l:=fun x hx=>h3 x (List.mem_cons_of_mem _ hx)
  have hl:0 < l:=h3 l List.mem_cons_self
  have hmd:=Nat.div_add_mod k l
  have hml:=Nat.mod_lt k hl
  by_cases ho:o=p
  ·have hp:vh p (o :: os) (l :: ls)=l * vh p os ls:=by simp [vh,ho]
   have hd:∀ j,uh p (o :: os) (l :: ls) (c :: cs) j=(j % l) :: uh p os ls cs (j / l):=fun j=>by simp [uh,ho]
   rw [hp] at hk ⊢
   rw [hd,hd]
   have hkl:k / l < vh p os ls:=Nat.div_lt_of_lt_mul hk
   by_cases hx:k % l + 1 < l
   ·have e1:jn p (o :: os) (l :: ls) ((k % l) :: uh p os ls cs (k / l))=some ((k % l + 1) :: uh p os ls cs (k / l)):=by simp [jn,ho,hx]
    have e2:(k + 1) / l=k / l:=by
     rw [Nat.div_eq_iff hl]
     have:l * (k / l)=(k / l) * l:=Nat.mul_comm _ _
     omega
    have e3:(k + 1) % l=k % l + 1:=by
     have:=Nat.div_add_mod (k + 1) l
     rw [e2] at this
     omega
    have e4:k + 1 < l * vh p os ls:=by
     have:l * (k / l) + l≤l * vh p os ls:=by rw [← Nat.mul_succ];exact Nat.mul_le_mul_left _ hkl
     omega
    rw [e1,if_pos e4,e2,e3]
   ·have e0:k % l + 1=l:=by omega
    have hk1:k + 1=l * (k / l + 1):=by rw [Nat.mul_succ];omega
    have e2:(k + 1) / l=k / l + 1:=by rw [hk1,Nat.mul_div_cancel_left _ hl]
    have e3:(k + 1) % l=0:=by rw [hk1,Nat.mul_mod_right]
    have e1:jn p (o :: os) (l :: ls) ((k % l) :: uh p os ls cs (k / l))=(jn p os ls (uh p os ls cs (k / l))).map (0 :: ·):=by simp [jn,ho,hx]
    have hiff:k + 1 < l * vh p os ls↔k / l + 1 < vh p os ls:=by
     rw [hk1]
     exact Nat.mul_lt_mul_left hl
    rw [e1,vap p os ls cs (k / l) h1' h2' h3' hkl,e2,e3]
    by_cases hc:k / l + 1 < vh p os ls
    ·rw [if_pos hc,if_pos (hiff.2 hc)];rfl
    ·rw [if_neg hc,if_neg (fun h=>hc (hiff.1 h))];rfl
  ·have hp:vh p (o :: os) (l :: ls)=vh p os ls:=by simp [vh,ho]
   have hd:∀ j,uh p (o :: os) (l :: ls) (c :: cs) j=c :: uh p os ls cs j:=fun j=>by simp [uh,ho]
   rw [hp] at hk ⊢
   have e1:∀ z,jn p (o :: os) (l :: ls) (c :: z)=(jn p os ls z).map (c :: ·):=fun z=>by simp [jn,ho]
   rw [hd,hd,e1,vap p os ls cs k h1' h2' h3' hk]
   split <;> rfl
theorem xaS (p:Nat):∀ (os ls cs:List Nat) (k:Nat),ls.length=os.length→cs.length=os.length→(uh p os ls cs k).length=os.length
 | [],[],[],_,_,_=>rfl
 | o :: os,l :: ls,c :: cs,k,h1,h2=>by
  have h1':ls.length=os.length:=by simpa using h1
  have h2':cs.length=os.length:=by simpa using h2
  unfold uh
  split
  ·simp [xaS p os ls cs _ h1' h2']
  ·simp [xaS p os ls cs _ h1' h2']
theorem yaS (p:Nat):∀ (os ls cs:List Nat) (k:Nat),ls.length=os.length→cs.length=os.length→(∀ l∈ls,0 < l)→(∀ s,s < os.length→cs.getD s 0 < ls.getD s 0)→∀ s,s < os.length→(uh p os ls cs k).getD s 0 < ls.getD s 0
 | [],[],[],_,_,_,_,_=>fun s hs=>by simp at hs
 | o :: os,l :: ls,c :: cs,k,h1,h2,h3,h4=>fun s hs=>by
  have h1':ls.length=os.length:=by simpa using h1
  have h2':cs.length=os.length:=by simpa using h2
  have h3':∀ l∈ls,0 < l:=fun x hx=>h3 x (List.mem_cons_of_mem _ hx)
  have hl:0 < l:=h3 l List.mem_cons_self
  have h4':∀ s,s < os.length→cs.getD s 0 < ls.getD s 0:=fun t ht=>by have:=h4 (t + 1) (by simpa using ht);simpa using this
  unfold uh
  match s,hs with
  | 0,_ =>
   split
   ·simpa using Nat.mod_lt k hl
   ·have:=h4 0 (by simp);simpa using this
  | t + 1,hs =>
   have ht:t < os.length:=by simpa using hs
   split
   ·have:=yaS p os ls cs (k / l) h1' h2' h3' h4' t ht;simpa using this
   ·have:=yaS p os ls cs k h1' h2' h3' h4' t ht;simpa using this
theorem zav (p:Nat):∀ (os ls cs:List Nat) (k:Nat),ls.length=os.length→cs.length=os.length→∀ s,s < os.length→os.getD s 0≠p→(uh p os ls cs k).getD s 0=cs.getD s 0
 | [],[],[],_,_,_=>fun s hs=>by simp at hs
 | o :: os,l :: ls,c :: cs,k,h1,h2=>fun s hs ho=>by
  have h1':ls.length=os.length:=by simpa using h1
  have h2':cs.length=os.length:=by simpa using h2
  unfold uh
  match s,hs with
  | 0,_ =>
   have:o≠p:=by simpa using ho
   rw [if_neg this];rfl
  | t + 1,hs =>
   have ht:t < os.length:=by simpa using hs
   have ho':os.getD t 0≠p:=by simpa using ho
   split
   ·have:=zav p os ls cs (k / l) h1' h2' t ht ho';simpa using this
   ·have:=zav p os ls cs k h1' h2' t ht ho';simpa using this
theorem waS (p:Nat):∀ (os ls cs d:List Nat),ls.length=os.length→cs.length=os.length→d.length=os.length→(∀ s,s < os.length→d.getD s 0 < ls.getD s 0)→(∀ s,s < os.length→os.getD s 0≠p→d.getD s 0=cs.getD s 0) →
  ∃ k,k < vh p os ls∧uh p os ls cs k=d
 | [],[],[],[],_,_,_,_,_=>⟨0,by simp [vh],rfl⟩
 | o :: os,l :: ls,c :: cs,x :: d,h1,h2,h3,h4,h5=>by
  have h1':ls.length=os.length:=by simpa using h1
  have h2':cs.length=os.length:=by simpa using h2
  have h3':d.length=os.length:=by simpa using h3
  obtain ⟨k,hk,he⟩:=waS p os ls cs d h1' h2' h3' (fun t ht=>by have:=h4 (t + 1) (by simpa using ht);simpa using this) (fun t ht ho=>by have:=h5 (t + 1) (by simpa using ht) (by simpa using ho);simpa using this)
  have hx:x < l:=by have:=h4 0 (by simp);simpa using this
  by_cases ho:o=p
  ·refine ⟨l * k + x,?_,?_⟩
   ·have:vh p (o :: os) (l :: ls)=l * vh p os ls:=by simp [vh,ho]
    rw [this]
    have:l * k + l≤l * vh p os ls:=by rw [← Nat.mul_succ];exact Nat.mul_le_mul_left _ hk
    omega
   ·have:uh p (o :: os) (l :: ls) (c :: cs) (l * k + x)=((l * k + x) % l) :: uh p os ls cs ((l * k + x) / l):=by simp [uh,ho]
    rw [this,Nat.mul_add_mod,Nat.mod_eq_of_lt hx,Nat.mul_add_div (by omega),Nat.div_eq_of_lt hx,Nat.add_zero,he]
  ·refine ⟨k,?_,?_⟩
   ·have:vh p (o :: os) (l :: ls)=vh p os ls:=by simp [vh,ho]
    rw [this];exact hk
   ·have:uh p (o :: os) (l :: ls) (c :: cs) k=c :: uh p os ls cs k:=by simp [uh,ho]
    have hc:x=c:=by have:=h5 0 (by simp) (by simpa using ho);simpa using this
    rw [this,he,hc]
theorem ja8 (p:Nat):∀ (os ls:List Nat),(∀ l∈ls,0 < l)→0 < vh p os ls
 | [],_,_=>by simp [vh]
 | _ :: _,[],_=>by simp [vh]
 | o :: os,l :: ls,h=>by
  unfold vh
  have:=ja8 p os ls fun x hx=>h x (List.mem_cons_of_mem _ hx)
  split
  ·exact Nat.mul_pos (h l List.mem_cons_self) this
  ·exact this
theorem zaS (p:Nat):∀ (os ls:List Nat),ls.length=os.length→uh p os ls (List.replicate os.length 0) 0=List.replicate os.length 0
 | [],[],_=>rfl
 | o :: os,l :: ls,h=>by
  have h':ls.length=os.length:=by simpa using h
  have e:List.replicate (o :: os).length 0=0 :: List.replicate os.length 0:=rfl
  rw [e]
  unfold uh
  split
  ·rw [Nat.zero_mod,Nat.zero_div,zaS p os ls h']
  ·rw [zaS p os ls h']
def yB (w:Nat) (f:Nat→Nat):Nat→Nat
 | 0=>w
 | j + 1=>yB w f j &&& f j
def orF (f:Nat→Nat):Nat→Nat
 | 0=>0
 | j + 1=>orF f j ||| f j
theorem uaW {w:Nat} {f:Nat→Nat} (s:Nat):∀ j,(yB w f j).testBit s=true↔w.testBit s=true∧∀ i,i < j→(f i).testBit s=true
 | 0=>by simp [yB]
 | j + 1=>by
  rw [yB,Nat.testBit_and,Bool.and_eq_true,uaW s j]
  constructor
  ·rintro ⟨⟨h1,h2⟩,h3⟩
   refine ⟨h1,fun i hi => ?_⟩
   rcases Nat.lt_or_ge i j with h | h
   ·exact h2 i h
   ·have:i=j:=by omega
    rw [this];exact h3
  ·rintro ⟨h1,h2⟩
   exact ⟨⟨h1,fun i hi=>h2 i (by omega)⟩,h2 j (by omega)⟩
theorem vbb {f:Nat→Nat} (s:Nat):∀ j,(orF f j).testBit s=true↔∃ i,i < j∧(f i).testBit s=true
 | 0=>by simp [orF]
 | j + 1=>by
  rw [orF,Nat.testBit_or,Bool.or_eq_true,vbb s j]
  constructor
  ·rintro (⟨i,h1,h2⟩ | h)
   ·exact ⟨i,by omega,h2⟩
   ·exact ⟨j,by omega,h⟩
  ·rintro ⟨i,h1,h2⟩
   rcases Nat.lt_or_ge i j with h | h
   ·exact Or.inl ⟨i,h,h2⟩
   ·have:i=j:=by omega
    rw [this] at h2;exact Or.inr h2
theorem yby {w:Nat} {f:Nat→Nat}:∀ j,yB w f j≤w
 | 0=>Nat.le_refl _
 | j + 1=>Nat.le_trans Nat.and_le_left (yby j)
theorem wbb {n:Nat} {f:Nat→Nat} (h:∀ i,f i < 2 ^ n):∀ j,orF f j < 2 ^ n
 | 0=>Nat.two_pow_pos n
 | j + 1=>Nat.or_lt_two_pow (wbb h j) (h j)
theorem jaH {f:Nat→Nat} {X i j:Nat} (hi:i < j) (he:f i=X) (hs:∀ k,k < j→Sub (f k) X):orF f j=X:=by
 refine Nat.eq_of_testBit_eq fun s => ?_
 rw [Bool.eq_iff_iff,vbb]
 constructor
 ·rintro ⟨k,h1,h2⟩;exact hs k h1 s h2
 ·exact fun h=>⟨i,hi,by rw [he];exact h⟩
end
end Go.Abs
