/-
  Steps to a law of this program: SDr4, SFc1, SFc2, SFc3, SFc4.
  Conditions: none.
-/
import Derived.Test.YtpdnijifmebnbaaGreatDoorB35
import Derived.Test.YtpdnijifmebnbaaGreatDoorB17
import Derived.Test.YtpdnijifmebnbaaGreatDoorB23
set_option linter.unusedVariables false
set_option linter.unusedSimpArgs false
set_option linter.unusedSectionVars false
namespace Go.Abs
noncomputable section
open Go.Proofs
set_option maxRecDepth 100000
def ux (s:Nat):Ch:=⟨[],0,1,1,[⟨s,[49],1,1⟩],some 1⟩
theorem ubF {n s:Nat} (hs:s < n):wB n (ux s) where
 name:=⟨by simp [ux],by simp [ux]⟩
 gain:=by show (0,1)∈uq;decide +kernel
 dvd:=by show 1∣300;decide
 brs:=by
  refine ⟨by show 0 < 1∧1≤100;decide,fun b hb => ?_,fun i hi => ?_,fun b hb => ?_,by simp [xf,ux],by show 1≤1∧1≤n;omega⟩
  ·rw [List.mem_singleton.1 hb]
   exact ⟨(by decide:[49]=qt 1 1),by show (1,1)∈uq;decide +kernel,(by decide:1≤1),(by decide:1∣1)⟩
  ·have:i=0:=by simp [ux] at hi;exact hi
   subst this
   show (-1:Int) < ((s:Nat):Int)
   omega
  ·rw [List.mem_singleton.1 hb];exact hs
 dvds b hb:=by rw [List.mem_singleton.1 hb];show 1∣300;decide
def wu (R:Nat→List Ch) (s:Nat) (l:List Ch):Nat→List Ch:=fun t=>if t=s then l else R t
structure MS where
 R:Nat→List Ch
 ord:List Nat
def Dr.add (d:Dr) (z:MS) (p:Pk):MS :=
 if (z.R (p.st % d.n)).length < 3 then ⟨wu z.R (p.st % d.n) (z.R (p.st % d.n) ++ [d.cho p]),if z.R (p.st % d.n)=[] then z.ord ++ [p.st % d.n] else z.ord⟩ else z
def Dr.ms (d:Dr) (i:Nat):MS:=(d.picks.take i).foldl d.add ⟨fun _=>[],[]⟩
theorem Dr.ms_succ (d:Dr) {i:Nat} (hi:i < d.picks.length):d.ms (i + 1)=d.add (d.ms i) d.picks[i]:=by
 unfold Dr.ms
 rw [List.take_succ_eq_append_getElem hi,List.foldl_append]
 rfl
structure qK (n:Nat) (z:MS):Prop where
 ord:∀ s∈z.ord,s < n∧z.R s≠[]
 all:∀ s,z.R s≠[]→s∈z.ord
 nod:z.ord.Nodup
 len:∀ s,(z.R s).length≤3
 chs:∀ s,∀ c∈z.R s,wB n c
theorem Dr.add_ok (d:Dr) {z:MS} (h:qK d.n z) (p:Pk):qK d.n (d.add z p):=by
 unfold Dr.add
 have hs:=Nat.mod_lt p.st d.n_pos
 generalize p.st % d.n=s at hs
 split
 ·rename_i hl
  refine ⟨fun t ht => ?_,fun t ht => ?_,?_,fun t => ?_,fun t c hc => ?_⟩
  ·have hm:t=s∨t∈z.ord:=by
    by_cases he:z.R s=[]
    ·simp only [he,if_true] at ht
     rcases List.mem_append.1 ht with h | h
     ·exact .inr h
     ·exact .inl (List.mem_singleton.1 h)
    ·simp only [he,if_false] at ht;exact .inr ht
   simp only [wu]
   by_cases e:t=s
   ·rw [if_pos e,e];exact ⟨hs,by simp⟩
   ·rw [if_neg e]
    rcases hm with h1 | h1
    ·exact absurd h1 e
    ·exact h.ord t h1
  ·simp only [wu] at ht
   by_cases he:z.R s=[]
   ·simp only [he,if_true]
    by_cases e:t=s
    ·rw [e];simp
    ·rw [if_neg e] at ht;exact List.mem_append_left _ (h.all t ht)
   ·simp only [he,if_false]
    by_cases e:t=s
    ·rw [e];exact h.all s he
    ·rw [if_neg e] at ht;exact h.all t ht
  ·by_cases he:z.R s=[]
   ·simp only [he,if_true]
    refine List.nodup_append.2 ⟨h.nod,by simp,fun a ha b hb e => ?_⟩
    rw [List.mem_singleton.1 hb] at e
    subst e
    exact (h.ord a ha).2 he
   ·simp only [he,if_false];exact h.nod
  ·simp only [wu]
   by_cases e:t=s
   ·rw [if_pos e];simp;omega
   ·rw [if_neg e];exact h.len t
  ·simp only [wu] at hc
   by_cases e:t=s
   ·rw [if_pos e] at hc
    rcases List.mem_append.1 hc with h1 | h1
    ·exact h.chs s c h1
    ·rw [List.mem_singleton.1 h1];exact d.cho_ok p
   ·rw [if_neg e] at hc;exact h.chs t c hc
 ·exact h
theorem Dr.ms_ok (d:Dr):∀ i:Nat,i≤d.picks.length→qK d.n (d.ms i)
 | 0,_=>⟨fun s hs=>by simp [Dr.ms] at hs,fun s hs=>by simp [Dr.ms] at hs,by simp [Dr.ms],fun s=>by simp [Dr.ms],fun s c hc=>by simp [Dr.ms] at hc⟩
 | i + 1,hi=>by
  rw [d.ms_succ hi]
  exact d.add_ok (d.ms_ok i (Nat.le_of_succ_le hi)) _
def gi (B k:Nat) (z:MS) (s:Nat):AV :=
 match z.R s with
 | []=>if s < k then .vs [chV (ux s)] (some 1) else .nils
 | c :: l=>.ms (z.ord.idxOf s + B) 0 (c :: l).length none
def we (B k n:Nat) (z:MS):List (List AV):=(List.range n).map fun s=>[gi B k z s]
def jl (z:MS):List (Option Blk):=z.ord.map fun s=>some (.rows ((z.R s).map chV) true false)
theorem ybJ (B k n:Nat) (z:MS):(we B k n z).length=n:=by simp [we]
theorem uaB {B k n s:Nat} {z:MS} (hs:s < n):(we B k n z)[0 + s]? = some [gi B k z s]:=by simp [we,hs]
theorem uP {B B' k k' n:Nat} {z z':MS} {s:Nat} {x:AV} (hx:x=gi B' k' z' s) (h:∀ t,t < n→t≠s→gi B k z t=gi B' k' z' t):(we B k n z).set (0 + s) [x]=we B' k' n z':=by
 refine List.ext_getElem (by simp [we]) fun t h1 h2 => ?_
 have ht:t < n:=by simpa [we] using h2
 rw [List.getElem_set]
 split
 ·rename_i e
  rw [Nat.zero_add] at e
  subst e
  simp [we,hx]
 ·rename_i e
  rw [Nat.zero_add] at e
  simp [we,h t ht (fun e'=>e e'.symm)]
theorem zb3 {l:List Nat} {a b:Nat} (h:a∈l):(l ++ [b]).idxOf a=l.idxOf a:=by
 rw [List.idxOf_append,if_pos h]
theorem waA (z:MS):(jl z).length=z.ord.length:=by simp [jl]
theorem zbE {z:MS} {s:Nat} (hs:s∈z.ord):(jl z)[z.ord.idxOf s]? = some (some (.rows ((z.R s).map chV) true false)):=by
 have hi:=List.idxOf_lt_length_of_mem hs
 simp only [jl,List.getElem?_map,List.getElem?_eq_getElem hi,Option.map_some]
 rw [List.getElem_idxOf hi]
theorem zbJ {B n s:Nat} {z:MS} (hs:s < n) (h:z.R s=[]):(we B 0 n z)[0 + s]? = some [.nils]:=by
 rw [uaB hs];simp [gi,h]
theorem ya3 {B k n s:Nat} {z:MS} {c:Ch} {l:List Ch} (hs:s < n) (h:z.R s=c :: l):(we B k n z)[0 + s]? = some [.ms (z.ord.idxOf s + B) 0 (c :: l).length none]:=by
 rw [uaB hs];simp only [gi,h]
theorem vaT (L:List Ch):∀ r∈L.map chV,r.length=3∧r.all okc=true:=fun r hr=>by
 obtain ⟨b,_,rfl⟩:=List.mem_map.1 hr
 exact ⟨rfl,rfl⟩
theorem add_none {d:Dr} {z:MS} {p:Pk} {s:Nat} (hp:p.st % d.n=s) (hl:¬ (z.R s).length < 3):d.add z p=z:=by
 unfold Dr.add
 rw [hp,if_neg hl]
theorem yci {d:Dr} {z:MS} {p:Pk} {B:Nat} (h:qK d.n z) {s:Nat} (hp:p.st % d.n=s) (hn:z.R s=[]) :
  jl (d.add z p)=jl z ++ [some (.rows [chV (d.cho p)] true false)]∧gi B 0 (d.add z p) s=.ms (z.ord.length + B) 0 1 none∧∀ t,t≠s→gi B 0 z t=gi B 0 (d.add z p) t:=by
 have hno:s ∉ z.ord:=fun hm=>(h.ord s hm).2 hn
 have e:d.add z p=⟨wu z.R s [d.cho p],z.ord ++ [s]⟩:=by
  unfold Dr.add
  rw [hp,if_pos (by rw [hn];decide),if_pos hn,hn]
  rfl
 rw [e]
 refine ⟨?_,?_,fun t ht => ?_⟩
 ·simp only [jl,List.map_append,List.map_cons,List.map_nil]
  congr 1
  ·refine List.map_congr_left fun t ht => ?_
   have:t≠s:=fun e=>hno (e ▸ ht)
   simp [wu,this]
  ·simp [wu]
 ·simp only [gi,wu,if_true]
  rw [List.idxOf_append,if_neg hno]
  simp
 ·simp only [gi,wu,if_neg ht]
  cases hr:z.R t with
  | nil=>rfl
  | cons c l =>
   simp only
   rw [zb3 (h.all t (by rw [hr];simp))]
theorem xci {d:Dr} {z:MS} {p:Pk} {B:Nat} (h:qK d.n z) {s:Nat} (hp:p.st % d.n=s) (hn:z.R s≠[]) (hl:(z.R s).length < 3) :
  jl (d.add z p)=(jl z).set (z.ord.idxOf s) (some (.rows ((z.R s).map chV ++ [chV (d.cho p)]) true false))∧gi B 0 (d.add z p) s=.ms (z.ord.idxOf s + B) 0 ((z.R s).length + 1) none∧∀ t,t≠s→gi B 0 z t=gi B 0 (d.add z p) t:=by
 have e:d.add z p=⟨wu z.R s (z.R s ++ [d.cho p]),z.ord⟩:=by
  unfold Dr.add
  rw [hp,if_pos hl,if_neg hn]
 have hm:=h.all s hn
 rw [e]
 refine ⟨?_,?_,fun t ht => ?_⟩
 ·refine List.ext_getElem (by simp [jl]) fun i h1 h2 => ?_
  have hi:i < z.ord.length:=by simpa [jl] using h1
  rw [List.getElem_set]
  simp only [jl,List.getElem_map]
  split
  ·rename_i hx
   have:z.ord[i]=s:=by subst hx;exact List.getElem_idxOf hi
   rw [this]
   simp [wu]
  ·rename_i hx
   have:z.ord[i]≠s:=fun hs=>hx (by
    subst hs
    exact h.nod.idxOf_getElem i hi)
   simp [wu,this]
 ·simp only [gi,wu,if_true]
  cases hr:z.R s with
  | nil=>exact absurd hr hn
  | cons c l=>simp
 ·simp only [gi,wu,if_neg ht]
def Dr.ownB (d:Dr) (k:Nat):Bool:=IntKind.u8.wrap ((BitVec.ofInt IntKind.u8.bits (((d.ow:Nat):Int).fdiv (2 ^ min ((k:Nat):Int).toNat IntKind.u8.bits)) &&& BitVec.ofInt IntKind.u8.bits 1).toNat) == 1
def Dr.own (d:Dr) (s:Nat):Nat:=if d.ownB s=true then 1 else 0
def yh (d:Dr) (k:Nat):List (List AV):=osV ((List.range d.n).map fun s=>if s < k then d.own s else 0)
theorem ybR {d:Dr} {k:Nat} (hk:k < d.n):(yh d k)[0 + k]? = some [.int .i64 ((0:Nat):Int)]:=by simp [yh,osV,hk]
theorem jbQ {d:Dr} {k:Nat} (h:d.ownB k=true):(yh d k).set (0 + k) [.int .i64 1]=yh d (k + 1):=by
 refine List.ext_getElem (by simp [yh,osV]) fun i h1 h2 => ?_
 rw [List.getElem_set]
 by_cases e:0 + k=i
 ·rw [if_pos e]
  have:i=k:=by omega
  subst this
  simp [yh,osV,Dr.own,h]
 ·rw [if_neg e]
  by_cases hi:i < k
  ·have:i < k + 1:=by omega
   simp [yh,osV,hi,this]
  ·have:¬ i < k + 1:=by omega
   simp [yh,osV,hi,this]
theorem gbQ {d:Dr} {k:Nat} (h:d.ownB k=false):yh d k=yh d (k + 1):=by
 refine List.ext_getElem (by simp [yh,osV]) fun i h1 h2 => ?_
 by_cases e:k=i
 ·subst e
  simp [yh,osV,Dr.own,h]
 ·by_cases hi:i < k
  ·have:i < k + 1:=by omega
   simp [yh,osV,hi,this]
  ·have:¬ i < k + 1:=by omega
   simp [yh,osV,hi,this]
theorem xaH (d:Dr):List.replicate d.n [AV.int .i64 0]=yh d 0:=by
 refine List.ext_getElem (by simp [yh,osV]) fun i h1 h2=>by simp [yh,osV]
theorem qbQ (d:Dr) (k:Nat):∀ r∈yh d k,∀ x∈r,Pure x:=yC
theorem ual (d:Dr) (B:Nat):List.replicate d.n [AV.nils]=we B 0 d.n (d.ms 0):=by
 refine List.ext_getElem (by simp [we]) fun i h1 h2=>by simp [we,gi,Dr.ms]
theorem wbJ (d:Dr) (B:Nat):∀ r∈we B 0 d.n (d.ms 0),∀ x∈r,Pure x:=fun r hr x hx=>by
 rw [← ual,List.mem_replicate] at hr
 rw [hr.2] at hx
 rw [List.mem_singleton.1 hx];exact .nils
theorem xaF:∀ x∈[AV.nils,AV.nils],Pure x:=fun x hx=>by
 simp only [List.mem_cons,List.not_mem_nil,or_false] at hx
 rcases hx with rfl | rfl <;> exact .nils
theorem xce {σ:Nat→Nat} {N:Nat} {g fz:Bool} {i j:Nat} {c e:Option Nat} (a b l k:Nat):zP σ N (some (.rows [[.ms a i l c,.ms b j k e]] g fz)) (some (.rows [[.ms (σ a) i l c,.ms (σ b) j k e]] g fz)):=by
 refine .rows _ _ _ _ rfl (fun i hi hj => ?_) fun i hi hj t h1 h2 => ?_
 ·match i,hi with
  | 0,_=>rfl
 ·match i,hi with
  | 0,_ =>
   match t,h1 with
   | 0,_=>exact .ms _ _ _ _
   | 1,_=>exact .ms _ _ _ _
def Dr.m (d:Dr):MS:=d.ms (min d.picks.length 20)
def Dr.row (d:Dr) (s:Nat):List Ch × Option Nat:=match d.m.R s with
 | []=>([ux s],some 1)
 | c :: l=>(c :: l,none)
def Dr.os (d:Dr):List Nat:=(List.range d.n).map d.own
def Dr.rows (d:Dr):List (List Ch × Option Nat):=(List.range d.n).map d.row
theorem zbR (d:Dr):yh d d.n=osV d.os:=by
 unfold yh Dr.os
 congr 1
 exact List.map_congr_left fun s hs=>by rw [if_pos (List.mem_range.1 hs)]
theorem gbI {B n s:Nat} {z:MS} (hs:s < n) (h:z.R s=[]):(we B s n z)[0 + s]? = some [.nils]:=by
 rw [uaB hs];simp [gi,h]
theorem qbI {B n s:Nat} {z:MS} (h:z.R s=[]):(we B s n z).set (0 + s) [.vs [chV (ux s)] (some 1)]=we B (s + 1) n z :=
 uP (by simp [gi,h]) fun t _ hts=>by
  simp only [gi]
  split
  ·by_cases e:t < s
   ·rw [if_pos e,if_pos (by omega)]
   ·rw [if_neg e,if_neg (by omega)]
  ·rfl
theorem xbJ {B n s:Nat} {z:MS} (h:z.R s≠[]):we B s n z=we B (s + 1) n z:=by
 unfold we
 refine List.map_congr_left fun t _ => ?_
 congr 1
 simp only [gi]
 split
 ·rename_i hr
  have:t≠s:=fun e=>h (e ▸ hr)
  by_cases e:t < s
  ·rw [if_pos e,if_pos (by omega)]
  ·rw [if_neg e,if_neg (by omega)]
 ·rfl
theorem vP {b0 b1 b2 b3 b4:Option Blk} {z:MS} {s:Nat} (hs:s∈z.ord):Heap.blk? (Heap.mk (b0 :: b1 :: b2 :: b3 :: b4 :: jl z) []) (z.ord.idxOf s + 5)=some (.rows ((z.R s).map chV) true false):=by
 show ((jl z)[z.ord.idxOf s]?).join=_
 rw [zbE hs];rfl
theorem zbu (L:List Ch):∀ r∈L.map chV,∀ x∈r,Pure x:=fun r hr x hx=>by
 obtain ⟨c,_,rfl⟩:=List.mem_map.1 hr
 exact jF c x hx
theorem ub6 {d:Dr} {h:Heap} {b B:Nat} {g fz:Bool} (hb:h.blk? b=some (.rows (we B d.n d.n d.m) g fz)) (ht:∀ s∈d.m.ord,h.blk? (d.m.ord.idxOf s + B)=some (.rows ((d.m.R s).map chV) true false)) (hz:qK d.n d.m) :
  Frz h (.ms b 0 d.n (some d.n)) (.vs (ja (yb d.rows)) (some d.n)):=by
 have hl:(ja (yb d.rows)).length=d.n:=by simp [ja,yb,Dr.rows]
 refine .ms b 0 d.n _ _ g fz _ hb hl (by rw [ybJ];omega) (fun t h1 h2 => ?_) fun t h1 h2 j h3 h4 => ?_
 ·simp [ja,yb,we]
 ·have htn:t < d.n:=by omega
  have e1:(we B d.n d.n d.m)[0 + t]=[gi B d.n d.m t]:=by simp [we]
  have e2:(ja (yb d.rows))[t]=[.vs ((d.row t).1.map chV) (d.row t).2]:=by simp [ja,yb,Dr.rows]
  have hj:j=0:=by rw [e2] at h3;simp at h3;exact h3
  subst hj
  have e3:((we B d.n d.n d.m)[0 + t])[0]=gi B d.n d.m t:=by simp [we]
  have e4:((ja (yb d.rows))[t])[0]=.vs ((d.row t).1.map chV) (d.row t).2:=by simp [ja,yb,Dr.rows]
  rw [e3,e4]
  cases hr:d.m.R t with
  | nil =>
   have ea:gi B d.n d.m t=.vs [chV (ux t)] (some 1):=by simp [gi,hr,htn]
   have eb:d.row t=([ux t],some 1):=by simp [Dr.row,hr]
   rw [ea,eb]
   refine .pure _ (.vs _ _ fun i hi k hk => ?_)
   have:([chV (ux t)][i]'hi)[k]∈[chV (ux t)][i]'hi:=List.getElem_mem _
   exact zbu [ux t] _ (List.getElem_mem hi) _ this
  | cons c l =>
   have ea:gi B d.n d.m t=.ms (d.m.ord.idxOf t + B) 0 (c :: l).length none:=by simp only [gi,hr]
   have eb:d.row t=(c :: l,none):=by simp [Dr.row,hr]
   rw [ea,eb]
   have hm:=hz.all t (by rw [hr];simp)
   have hbt:=ht t hm
   rw [hr] at hbt
   exact gN hbt (zbu _) (by simp)
theorem gbX {d:Dr} {h:Heap} {a b B:Nat} {g fz g' fz':Bool} (ha:h.blk? a=some (.rows (yh d d.n) g' fz')) (hb:h.blk? b=some (.rows (we B d.n d.n d.m) g fz)) (ht:∀ s∈d.m.ord,h.blk? (d.m.ord.idxOf s + B)=some (.rows ((d.m.R s).map chV) true false)) (hz:qK d.n d.m) :
  Frz h (.agg [.ms a 0 d.n (some d.n),.ms b 0 d.n (some d.n)]) (.agg (ye d.os (some d.n) d.rows (some d.n))):=by
 refine .agg _ _ rfl fun i hi => ?_
 match i,hi with
 | 0,_=>intro _;rw [zbR] at ha;exact gN ha yC (by simp [osV,Dr.os])
 | 1,_=>intro _;exact ub6 hb ht hz
end
end Go.Abs

namespace Go.Abs
noncomputable section
open Go.Proofs
def waP:List (TypeId × TI):=[
 (36,{ desc:=(.struct #[{ name := "Owner",type:=33,offset:=0,embedded:=false,tag := "",pkgPath := "",byteOffset:=0 },{ name := "Choices",type:=34,offset:=1,embedded:=false,tag := "",pkgPath := "",byteOffset:=24 }]),size:=2,bytes:=48,zero:=[.nils,.nils],cmp:=true }),
 (43,{ desc:=(.int .i64),size:=1,bytes:=8,zero:=[.int .i64 0],cmp:=true }),
 (29,{ desc:=(.int .u64),size:=1,bytes:=8,zero:=[.int .u64 0],cmp:=true }),
 (3,{ desc:=(.int .i64),size:=1,bytes:=8,zero:=[.int .i64 0],cmp:=true }),
 (70,{ desc:=(.func #[64] #[4] false),size:=1,bytes:=8,zero:=[.nilf],cmp:=true }),
 (33,{ desc:=(.slice 3),size:=1,bytes:=24,zero:=[.nils],cmp:=true }),
 (34,{ desc:=(.slice 61),size:=1,bytes:=24,zero:=[.nils],cmp:=true }),
 (61,{ desc:=(.slice 64),size:=1,bytes:=24,zero:=[.nils],cmp:=true }),
 (4,{ desc:=.bool,size:=1,bytes:=1,zero:=[.bool false],cmp:=true }),
 (64,{ desc:=(.struct #[{ name := "Act",type:=9,offset:=0,embedded:=false,tag := "",pkgPath := "",byteOffset:=0 },{ name := "Gain",type:=25,offset:=1,embedded:=false,tag := "",pkgPath := "",byteOffset:=16 },{ name := "Next",type:=62,offset:=2,embedded:=false,tag := "",pkgPath := "",byteOffset:=32 }]),size:=3,bytes:=56,zero:=[.str [],.str [],.nils],cmp:=true }),
 (62,{ desc:=(.slice 67),size:=1,bytes:=24,zero:=[.nils],cmp:=true }),
 (67,{ desc:=(.struct #[{ name := "To",type:=3,offset:=0,embedded:=false,tag := "",pkgPath := "",byteOffset:=0 },{ name := "P",type:=25,offset:=1,embedded:=false,tag := "",pkgPath := "",byteOffset:=8 }]),size:=2,bytes:=24,zero:=[.int .i64 0,.str []],cmp:=true }),
 (145,{ desc:=(.slice 5),size:=1,bytes:=24,zero:=[.nils],cmp:=true }),
 (5,{ desc:=(.int .u8),size:=1,bytes:=1,zero:=[.int .u8 0],cmp:=true }),
 (9,{ desc:=.string,size:=1,bytes:=16,zero:=[.str []],cmp:=true }),
 (25,{ desc:=.string,size:=1,bytes:=16,zero:=[.str []],cmp:=true })]
theorem xh:wc Tryz.prog (qv waP):=gak waP (by
 intro p hp
 simp only [waP,List.mem_cons,List.not_mem_nil,or_false] at hp
 rcases hp with rfl | rfl | rfl | rfl | rfl | rfl | rfl | rfl | rfl | rfl | rfl | rfl | rfl | rfl | rfl | rfl <;> kernel_rfl)
def zp (x:Nat):Nat→Nat→List (List AV)
 | _,0=>[]
 | s,k + 1=>if x.testBit s then [.int .i64 ((s:Nat):Int)] :: zp x (s + 1) k else zp x (s + 1) k
set_option maxHeartbeats 1000000 in
theorem ube {os:List Nat} {oc:Option Nat} {C:AV} {x:Nat} (hn:os.length < 64) :
  jaX Tryz.prog 58 [.vp [.vs (osV os) oc,C] 0,.vp [.int .u64 ((x:Nat):Int)] 0] (zp x 0 os.length):=⟨fun B L lp K hR=>by
 letI:FH:=gZ
 refine jb xh mixed Tryz.func58 rfl (by decide +kernel) ?_
 conv=>whnf
 have hlr:(osV os).length=os.length:=by simp [osV]
 repeat ((first | refine qc hlr ?_ | refine And.intro rfl ?_);conv=>whnf)
 refine gf xh mixed 23 (fun a:Nat × List (Option Blk) × List (Option jc)=>os.length - a.1)
  (fun a=>a.1≤os.length∧a.2.1.length=B.length∧uK Tryz.prog lp (zp x a.1 (os.length - a.1)) a.2.1 a.2.2 K)
  (fun a=>[(0,.yld lp),(2,.vp [.int .u64 ((x:Nat):Int)] 0),(7,.int .i64 ((os.length:Nat):Int)),(8,.int .i64 ((a.1:Nat):Int))]) (fun a=>⟨a.2.1 ++ nones 0,a.2.2⟩) ?_ (0,B,L) _
  ⟨Nat.zero_le _,rfl,hR⟩ (by show (Heap.mk B L)=⟨B ++ [],L⟩;rw [List.append_nil]) rfl ⟨rfl,rfl,rfl,rfl,trivial⟩
 rintro ⟨s,B1,L1⟩ g ⟨h1,h2,h3⟩
 replace h1:s≤os.length:=h1
 replace h2:B1.length=B.length:=h2
 replace h3:uK Tryz.prog lp (zp x s (os.length - s)) B1 L1 K:=h3
 conv=>whnf
 refine yf (fun h4 => ?_) (fun h4 => ?_) <;> conv=>whnf
 ·have hs:s < os.length:=by have:((s:Nat):Int) < ((os.length:Nat):Int):=h4;omega
  obtain ⟨k,hk⟩:∃ k,os.length - s=k + 1:=⟨os.length - s - 1,by omega⟩
  have hk2:os.length - (s + 1)=k:=by omega
  rw [hk] at h3
  have hE:=zaV x s (by omega)
  have hsn:=Int.natCast_nonneg s
  cases hb:x.testBit s with
  | false =>
   rw [hb] at hE
   have h3':uK Tryz.prog lp (zp x (s + 1) k) B1 L1 K:=by
    have e:zp x s (k + 1)=zp x (s + 1) k:=by simp [zp,hb]
    rw [e] at h3;exact h3
   have hE2:((w7 x s == 1) == true)=false:=by rw [hE];rfl
   repeat ((first | refine And.intro hsn ?_ | refine ya hE2 ?_ | refine ya hE ?_ | refine ya rfl ?_ | refine And.intro rfl (ub (by omega) ?_));conv=>whnf)
   refine ⟨(s + 1,B1,L1),by show os.length - (s + 1) < os.length - s;omega,⟨hs,h2,by rw [hk2];exact h3'⟩,rfl,rfl,rfl,rfl,rfl,?_,trivial⟩
   show some (AV.int .i64 _)=some (AV.int .i64 _)
   congr 2
  | true =>
   rw [hb] at hE
   have hE2:((w7 x s == 1) == true)=true:=by rw [hE];rfl
   have h3':∀ k',uo Tryz.prog ⟨B1 ++ nones k',L1⟩ (.yld lp) [.int .i64 ((s:Nat):Int)] fun r h'=>∃ B' L',B'.length=B1.length∧h'=⟨B' ++ nones k',L'⟩∧((r=.bool true∧uK Tryz.prog lp (zp x (s + 1) k) B' L' K)∨(r=.bool false∧K B' L')):=by
    have e:zp x s (k + 1)=[.int .i64 ((s:Nat):Int)] :: zp x (s + 1) k:=by simp [zp,hb]
    rw [e] at h3;exact h3
   repeat ((first | refine And.intro hsn ?_ | refine ua hE2 ?_ | refine ua hE ?_);conv=>whnf)
   refine ⟨jaT (fun r h' hq => ?_) (h3' 0)⟩
   obtain ⟨B',L',e1,rfl,hq⟩:=hq
   rcases hq with ⟨rfl,hq⟩ | ⟨rfl,hq⟩ <;> conv=>whnf
   ·repeat ((first | refine ua hE2 ?_ | refine ua hE ?_ | refine ya rfl ?_ | refine And.intro rfl (ub (by omega) ?_));conv=>whnf)
    refine ⟨(s + 1,B',L'),by show os.length - (s + 1) < os.length - s;omega,⟨hs,e1.trans h2,by rw [hk2];exact hq⟩,rfl,rfl,rfl,rfl,rfl,?_,trivial⟩
    show some (AV.int .i64 _)=some (AV.int .i64 _)
    congr 2
   ·repeat ((first | refine ua hE2 ?_ | refine ua hE ?_ | refine ua rfl ?_);conv=>whnf)
    exact ⟨rfl,B',L',0,e1.trans h2,rfl,hq⟩
 ·have hs:¬ ((s:Nat):Int) < ((os.length:Nat):Int):=h4
  obtain rfl:s=os.length:=by omega
  rw [Nat.sub_self] at h3
  exact ⟨rfl,B1,L1,0,h2,rfl,h3⟩⟩
end
end Go.Abs

namespace Go.Abs
noncomputable section
open Go.Proofs
def vo {α:Type} (φ:α→Bool):List α→Nat→Int
 | [],_ => -1
 | z :: l,i=>if φ z then (i:Int) else vo φ l (i + 1)
theorem qaP {α:Type} (φ:α→Bool) (z:α) (l:List α) (i:Nat):vo φ (z :: l) i=if φ z then (i:Int) else vo φ l (i + 1):=rfl
theorem jat {α:Type} (φ:α→Bool):∀ (l:List α) (i:Nat),decide (vo φ l i ≥ 0)=l.any φ
 | [],i=>by simp [vo]
 | z :: l,i=>by
  unfold vo
  cases h:φ z with
  | true=>simp [h]
  | false =>
   rw [if_neg (by simp),jat φ l (i + 1)]
   simp [h]
def ChB (ch:List AV) (l:List Br):Prop:=∃ a g c,ch=[.str a,.str g,.vs (l.map brV) c]
theorem ChB.pure {ch:List AV} {l:List Br} (h:ChB ch l):Pure (.agg ch):=by
 obtain ⟨a,g,c,rfl⟩:=h
 exact .agg _ fun i hi=>by
  match i,hi with
  | 0,_=>exact .str _
  | 1,_=>exact .str _
  | 2,_=>exact yX l c
theorem qk {g:FuncId} {caps:List AV} (h:∀ x∈caps,Pure x):Pure (.fn (.func g) [] caps):=.fn _ _ _ (fun i hi=>by simp at hi) fun i hi=>h _ (List.getElem_mem hi)
set_option maxHeartbeats 1000000 in
theorem qb2 {l:List Br} {c:Option Nat} {g:FuncId} {r0:List AV} (φ:Br→Bool) (hl:l.length < 4611686018427387904) (hp:Pure (.vs (l.map brV) c)) (hc:∀ x∈[AV.vp r0 0],Pure x) 
  (hg:∀ z∈l,zb Tryz.prog g [.agg (brV z),.vp r0 0] (.bool (φ z))) :
  zb Tryz.prog 45 [.vs (l.map brV) c,.fn (.func g) [] [.vp r0 0]] (.int .i64 (vo φ l 0)):=by
 have hlen:(l.map brV).length=l.length:=by simp
 refine yc (wb hp (qk hc)) (.int _ _) (jb xh mixed Tryz.func45 rfl (by decide +kernel) ?_)
 conv=>whnf
 refine qc hlen ?_
 conv=>whnf
 refine gf xh mixed 19 (fun i:Nat=>l.length - i) (fun i=>i≤l.length∧vo φ (l.drop i) i=vo φ l 0) (fun i=>[(0,.vs (l.map brV) c),(1,.fn (.func g) [] [.vp r0 0]),(7,.int .i64 ((l.length:Nat):Int)),(8,.int .i64 ((i:Nat):Int))])
  (fun _=>⟨[],[]⟩) ?_ 0 _ ⟨Nat.zero_le _,rfl⟩ rfl rfl ⟨rfl,rfl,rfl,rfl,trivial⟩
 rintro i g1 ⟨i1,i2⟩
 replace i1:i≤l.length:=i1
 replace i2:vo φ (l.drop i) i=vo φ l 0:=i2
 conv=>whnf
 refine yf (fun h4 => ?_) (fun h4 => ?_) <;> conv=>whnf
 ·have hi:i < l.length:=by have:((i:Nat):Int) < ((l.length:Nat):Int):=h4;omega
  obtain ⟨z,hzi⟩:∃ z,l[i]=z:=⟨_,rfl⟩
  have hm:z∈l:=hzi ▸ List.getElem_mem hi
  have hgz:=hg z hm
  have hd:l.drop i=z :: l.drop (i + 1):=by rw [List.drop_eq_getElem_cons hi,hzi]
  rw [hd,qaP] at i2
  obtain ⟨bv,hbv⟩:∃ bv,φ z=bv:=⟨_,rfl⟩
  rw [hbv] at hgz i2
  have hbi:(l.map brV)[i]? = some [.int .i64 ((z.to:Nat):Int),.str z.p]:=by simp [hi,hzi,brV]
  have pz:Pure (.agg [.int .i64 ((z.to:Nat):Int),.str z.p]):=xan (.int _ _) (.str _)
  have hpz:∀ x∈(AV.agg [.int .i64 ((z.to:Nat):Int),.str z.p]) :: [.vp r0 0],Pure x:=fun x hx=>by
   rcases List.mem_cons.1 hx with rfl | hx
   ·exact pz
   ·exact hc x hx
  refine uc i rfl hbi rfl ?_
  conv=>whnf
  repeat ((first | refine za rfl ?_ | refine And.intro ⟨by decide,rfl⟩ ?_ | refine And.intro rfl ?_ | refine wa hgz hpz ?_);conv=>whnf)
  cases bv with
  | true =>
   rw [if_pos rfl] at i2
   refine ua rfl ?_
   conv=>whnf
   rw [← i2]
   exact .pure _ (.int _ _)
  | false =>
   rw [if_neg (by simp)] at i2
   refine ya rfl ?_
   conv=>whnf
   refine And.intro rfl (ub (by omega) ?_)
   conv=>whnf
   refine ⟨i + 1,by show l.length - (i + 1) < l.length - i;omega,⟨hi,i2⟩,rfl,rfl,rfl,rfl,rfl,?_,trivial⟩
   show some (AV.int .i64 _)=some (AV.int .i64 _)
   congr 2
 ·have hi:¬ ((i:Nat):Int) < ((l.length:Nat):Int):=h4
  obtain rfl:i=l.length:=by omega
  rw [List.drop_length] at i2
  rw [← i2]
  exact .pure _ (.int _ _)
theorem zaT {l:List Br} {c:Option Nat} {g:FuncId} {r0:List AV} (φ:Br→Bool) (hl:l.length < 4611686018427387904) (hp:Pure (.vs (l.map brV) c)) (hc:∀ x∈[AV.vp r0 0],Pure x) 
  (hg:∀ z∈l,zb Tryz.prog g [.agg (brV z),.vp r0 0] (.bool (φ z))) :
  zb Tryz.prog 27 [.vs (l.map brV) c,.fn (.func g) [] [.vp r0 0]] (.bool (l.any φ)):=by
 have hi:=qb2 φ hl hp hc hg
 refine yc (wb hp (qk hc)) (.bool _) (jb xh mixed Tryz.func27 rfl (by decide +kernel) ?_)
 conv=>whnf
 refine wa hi (wb hp (qk hc)) ?_
 conv=>whnf
 rw [jat]
 exact .pure _ (.bool _)
set_option maxHeartbeats 1000000 in
theorem jb2 {l:List (List AV)} {c:Option Nat} {g:FuncId} {r0:List AV} (φ:(List AV)→Bool) (hl:l.length < 4611686018427387904) (hp:Pure (.vs (l) c)) (hc:∀ x∈[AV.vp r0 0],Pure x) (hz:∀ z∈l,∃ lb,ChB z lb)
  (hg:∀ z∈l,zb Tryz.prog g [.agg z,.vp r0 0] (.bool (φ z))) :
  zb Tryz.prog 59 [.vs (l) c,.fn (.func g) [] [.vp r0 0]] (.int .i64 (vo φ l 0)):=by
 have hlen:(l).length=l.length:=by simp
 refine yc (wb hp (qk hc)) (.int _ _) (jb xh mixed Tryz.func59 rfl (by decide +kernel) ?_)
 conv=>whnf
 refine qc hlen ?_
 conv=>whnf
 refine gf xh mixed 19 (fun i:Nat=>l.length - i) (fun i=>i≤l.length∧vo φ (l.drop i) i=vo φ l 0) (fun i=>[(0,.vs (l) c),(1,.fn (.func g) [] [.vp r0 0]),(7,.int .i64 ((l.length:Nat):Int)),(8,.int .i64 ((i:Nat):Int))])
  (fun _=>⟨[],[]⟩) ?_ 0 _ ⟨Nat.zero_le _,rfl⟩ rfl rfl ⟨rfl,rfl,rfl,rfl,trivial⟩
 rintro i g1 ⟨i1,i2⟩
 replace i1:i≤l.length:=i1
 replace i2:vo φ (l.drop i) i=vo φ l 0:=i2
 conv=>whnf
 refine yf (fun h4 => ?_) (fun h4 => ?_) <;> conv=>whnf
 ·have hi:i < l.length:=by have:((i:Nat):Int) < ((l.length:Nat):Int):=h4;omega
  obtain ⟨z,hzi⟩:∃ z,l[i]=z:=⟨_,rfl⟩
  have hm:z∈l:=hzi ▸ List.getElem_mem hi
  have hgz:=hg z hm
  have hd:l.drop i=z :: l.drop (i + 1):=by rw [List.drop_eq_getElem_cons hi,hzi]
  rw [hd,qaP] at i2
  obtain ⟨bv,hbv⟩:∃ bv,φ z=bv:=⟨_,rfl⟩
  rw [hbv] at hgz i2
  have pz:=(hz z hm).elim fun l' h=>h.pure
  obtain ⟨lb,a,gq,cq,rfl⟩:=hz z hm
  have hbi:l[i]? = some [.str a,.str gq,.vs (lb.map brV) cq]:=by rw [List.getElem?_eq_getElem hi,hzi]
  have hpz:∀ x∈(AV.agg [.str a,.str gq,.vs (lb.map brV) cq]) :: [.vp r0 0],Pure x:=fun x hx=>by
   rcases List.mem_cons.1 hx with rfl | hx
   ·exact pz
   ·exact hc x hx
  refine uc i rfl hbi rfl ?_
  conv=>whnf
  repeat ((first | refine za rfl ?_ | refine And.intro ⟨by decide,rfl⟩ ?_ | refine And.intro rfl ?_ | refine wa hgz hpz ?_);conv=>whnf)
  cases bv with
  | true =>
   rw [if_pos rfl] at i2
   refine ua rfl ?_
   conv=>whnf
   rw [← i2]
   exact .pure _ (.int _ _)
  | false =>
   rw [if_neg (by simp)] at i2
   refine ya rfl ?_
   conv=>whnf
   refine And.intro rfl (ub (by omega) ?_)
   conv=>whnf
   refine ⟨i + 1,by show l.length - (i + 1) < l.length - i;omega,⟨hi,i2⟩,rfl,rfl,rfl,rfl,rfl,?_,trivial⟩
   show some (AV.int .i64 _)=some (AV.int .i64 _)
   congr 2
 ·have hi:¬ ((i:Nat):Int) < ((l.length:Nat):Int):=h4
  obtain rfl:i=l.length:=by omega
  rw [List.drop_length] at i2
  rw [← i2]
  exact .pure _ (.int _ _)
theorem vbt {l:List (List AV)} {c:Option Nat} {g:FuncId} {r0:List AV} (φ:(List AV)→Bool) (hl:l.length < 4611686018427387904) (hp:Pure (.vs (l) c)) (hc:∀ x∈[AV.vp r0 0],Pure x) (hz:∀ z∈l,∃ lb,ChB z lb)
  (hg:∀ z∈l,zb Tryz.prog g [.agg z,.vp r0 0] (.bool (φ z))) :
  zb Tryz.prog 44 [.vs (l) c,.fn (.func g) [] [.vp r0 0]] (.bool (l.any φ)):=by
 have hi:=jb2 φ hl hp hc hz hg
 refine yc (wb hp (qk hc)) (.bool _) (jb xh mixed Tryz.func44 rfl (by decide +kernel) ?_)
 conv=>whnf
 refine wa hi (wb hp (qk hc)) ?_
 conv=>whnf
 rw [jat]
 exact .pure _ (.bool _)
set_option maxHeartbeats 1000000 in
theorem ub2 {l:List (List AV)} {c:Option Nat} {g:FuncId} {r0 r1:List AV} (φ:(List AV)→Bool) (hl:l.length < 4611686018427387904) (hp:Pure (.vs (l) c)) (hc:∀ x∈[AV.vp r0 0,.vp r1 0],Pure x) (hz:∀ z∈l,∃ lb,ChB z lb)
  (hg:∀ z∈l,zb Tryz.prog g [.agg z,.vp r0 0,.vp r1 0] (.bool (φ z))) :
  zb Tryz.prog 59 [.vs (l) c,.fn (.func g) [] [.vp r0 0,.vp r1 0]] (.int .i64 (vo φ l 0)):=by
 have hlen:(l).length=l.length:=by simp
 refine yc (wb hp (qk hc)) (.int _ _) (jb xh mixed Tryz.func59 rfl (by decide +kernel) ?_)
 conv=>whnf
 refine qc hlen ?_
 conv=>whnf
 refine gf xh mixed 19 (fun i:Nat=>l.length - i) (fun i=>i≤l.length∧vo φ (l.drop i) i=vo φ l 0) (fun i=>[(0,.vs (l) c),(1,.fn (.func g) [] [.vp r0 0,.vp r1 0]),(7,.int .i64 ((l.length:Nat):Int)),(8,.int .i64 ((i:Nat):Int))])
  (fun _=>⟨[],[]⟩) ?_ 0 _ ⟨Nat.zero_le _,rfl⟩ rfl rfl ⟨rfl,rfl,rfl,rfl,trivial⟩
 rintro i g1 ⟨i1,i2⟩
 replace i1:i≤l.length:=i1
 replace i2:vo φ (l.drop i) i=vo φ l 0:=i2
 conv=>whnf
 refine yf (fun h4 => ?_) (fun h4 => ?_) <;> conv=>whnf
 ·have hi:i < l.length:=by have:((i:Nat):Int) < ((l.length:Nat):Int):=h4;omega
  obtain ⟨z,hzi⟩:∃ z,l[i]=z:=⟨_,rfl⟩
  have hm:z∈l:=hzi ▸ List.getElem_mem hi
  have hgz:=hg z hm
  have hd:l.drop i=z :: l.drop (i + 1):=by rw [List.drop_eq_getElem_cons hi,hzi]
  rw [hd,qaP] at i2
  obtain ⟨bv,hbv⟩:∃ bv,φ z=bv:=⟨_,rfl⟩
  rw [hbv] at hgz i2
  have pz:=(hz z hm).elim fun l' h=>h.pure
  obtain ⟨lb,a,gq,cq,rfl⟩:=hz z hm
  have hbi:l[i]? = some [.str a,.str gq,.vs (lb.map brV) cq]:=by rw [List.getElem?_eq_getElem hi,hzi]
  have hpz:∀ x∈(AV.agg [.str a,.str gq,.vs (lb.map brV) cq]) :: [.vp r0 0,.vp r1 0],Pure x:=fun x hx=>by
   rcases List.mem_cons.1 hx with rfl | hx
   ·exact pz
   ·exact hc x hx
  refine uc i rfl hbi rfl ?_
  conv=>whnf
  repeat ((first | refine za rfl ?_ | refine And.intro ⟨by decide,rfl⟩ ?_ | refine And.intro rfl ?_ | refine wa hgz hpz ?_);conv=>whnf)
  cases bv with
  | true =>
   rw [if_pos rfl] at i2
   refine ua rfl ?_
   conv=>whnf
   rw [← i2]
   exact .pure _ (.int _ _)
  | false =>
   rw [if_neg (by simp)] at i2
   refine ya rfl ?_
   conv=>whnf
   refine And.intro rfl (ub (by omega) ?_)
   conv=>whnf
   refine ⟨i + 1,by show l.length - (i + 1) < l.length - i;omega,⟨hi,i2⟩,rfl,rfl,rfl,rfl,rfl,?_,trivial⟩
   show some (AV.int .i64 _)=some (AV.int .i64 _)
   congr 2
 ·have hi:¬ ((i:Nat):Int) < ((l.length:Nat):Int):=h4
  obtain rfl:i=l.length:=by omega
  rw [List.drop_length] at i2
  rw [← i2]
  exact .pure _ (.int _ _)
theorem wbt {l:List (List AV)} {c:Option Nat} {g:FuncId} {r0 r1:List AV} (φ:(List AV)→Bool) (hl:l.length < 4611686018427387904) (hp:Pure (.vs (l) c)) (hc:∀ x∈[AV.vp r0 0,.vp r1 0],Pure x) (hz:∀ z∈l,∃ lb,ChB z lb)
  (hg:∀ z∈l,zb Tryz.prog g [.agg z,.vp r0 0,.vp r1 0] (.bool (φ z))) :
  zb Tryz.prog 44 [.vs (l) c,.fn (.func g) [] [.vp r0 0,.vp r1 0]] (.bool (l.any φ)):=by
 have hi:=ub2 φ hl hp hc hz hg
 refine yc (wb hp (qk hc)) (.bool _) (jb xh mixed Tryz.func44 rfl (by decide +kernel) ?_)
 conv=>whnf
 refine wa hi (wb hp (qk hc)) ?_
 conv=>whnf
 rw [jat]
 exact .pure _ (.bool _)
end
end Go.Abs

namespace Go.Abs
noncomputable section
open Go.Proofs
theorem ya8 (b:Br):Pure (.agg (brV b)):=xan (.int _ _) (.str _)
theorem jk (x:Nat):Pure (.vp [.int .u64 ((x:Nat):Int)] 0):=uu (.int _ _)
theorem wo {x y z:AV} (h:Pure x) (h':Pure y) (h'':Pure z):∀ w∈[x,y,z],Pure w:=fun w hw=>by
 simp only [List.mem_cons,List.not_mem_nil,or_false] at hw
 rcases hw with rfl | rfl | rfl <;> assumption
theorem ja0 {x:Nat} {b:Br} (hb:b.to < 64):zb Tryz.prog 42 [.agg (brV b),.vp [.int .u64 ((x:Nat):Int)] 0] (.bool (x.testBit b.to)):=by
 have hE:=zaV x b.to hb
 refine yc (wb (ya8 b) (jk x)) (.bool _) (jb xh mixed Tryz.func42 rfl (by decide +kernel) ?_)
 conv=>whnf
 repeat ((first | refine And.intro ⟨rfl,by decide,rfl⟩ ?_ | refine za rfl ?_ | refine And.intro (Int.natCast_nonneg b.to) ?_ | refine And.intro rfl ?_);conv=>whnf)
 rw [← hE]
 exact .pure _ (.bool _)
theorem xbR {x:Nat} {b:Br} (hb:b.to < 64):zb Tryz.prog 28 [.agg (brV b),.vp [.int .u64 ((x:Nat):Int)] 0] (.bool (!x.testBit b.to)):=by
 have hE:=qce x b.to hb
 refine yc (wb (ya8 b) (jk x)) (.bool _) (jb xh mixed Tryz.func28 rfl (by decide +kernel) ?_)
 conv=>whnf
 repeat ((first | refine And.intro ⟨rfl,by decide,rfl⟩ ?_ | refine za rfl ?_ | refine And.intro (Int.natCast_nonneg b.to) ?_ | refine And.intro rfl ?_);conv=>whnf)
 rw [← hE]
 exact .pure _ (.bool _)
theorem xbA {ch:List AV} {l:List Br} (h:ChB ch l):zb Tryz.prog 24 [.agg ch] (.bool true):=by
 have pz:=h.pure
 obtain ⟨a,g,c,rfl⟩:=h
 refine yc (vb pz) (.bool _) (jb xh mixed Tryz.func24 rfl (by decide +kernel) ?_)
 conv=>whnf
 repeat ((first | refine And.intro ⟨rfl,by decide,rfl⟩ ?_ | refine za rfl ?_ | refine And.intro rfl ?_);conv=>whnf)
 exact .pure _ (.bool _)
def xaB (x:Nat) (l:List Br):Bool := !(l.any fun b => !x.testBit b.to)
def zE (x:Nat) (l:List Br):Bool:=l.any fun b=>x.testBit b.to
theorem xbF {x:Nat} {ch:List AV} {l:List Br} (h:ChB ch l) (hl:l.length < 4611686018427387904) (hb:∀ b∈l,b.to < 64) :
  zb Tryz.prog 26 [.agg ch,.vp [.int .u64 ((x:Nat):Int)] 0] (.bool (xaB x l)):=by
 have pz:=h.pure
 obtain ⟨a,g,c,rfl⟩:=h
 have pV:=yX l c
 have hc:=zaT (c:=c) (r0:=[.int .u64 ((x:Nat):Int)]) (fun b => !x.testBit b.to) hl pV (vb (jk x)) (fun b hm=>xbR (x:=x) (hb b hm))
 refine yc (wb pz (jk x)) (.bool _) (jb xh mixed Tryz.func26 rfl (by decide +kernel) ?_)
 conv=>whnf
 repeat ((first | refine And.intro ⟨rfl,by decide,rfl⟩ ?_ | refine za rfl ?_ | refine wa hc (wb pV (qk (vb (jk x)))) ?_ | refine And.intro rfl ?_);conv=>whnf)
 exact .pure _ (.bool _)
theorem vbn {ga:FuncId} {x:Nat} {ch:List AV} {l:List Br} {φ:Bool} (h:ChB ch l) (hl:l.length < 4611686018427387904) (hb:∀ b∈l,b.to < 64) (ha:zb Tryz.prog ga [.agg ch] (.bool φ)) :
  zb Tryz.prog 41 [.agg ch,.vp [.fn (.func ga) [] []] 0,.vp [.int .u64 ((x:Nat):Int)] 0] (.bool (φ && zE x l)):=by
 have pz:=h.pure
 have pA:Pure (.fn (.func ga) [] []):=qk (fun _ h=>by simp at h)
 obtain ⟨a,g,c,rfl⟩:=h
 have pV:=yX l c
 have pargs:∀ w∈[AV.agg [.str a,.str g,.vs (l.map brV) c]],Pure w:=fun w hw=>by
  rcases List.mem_cons.1 hw with rfl | hw
  ·exact pz
  ·exact (fun _ h=>by simp at h) w hw
 have hc:=zaT (c:=c) (r0:=[.int .u64 ((x:Nat):Int)]) (fun b=>x.testBit b.to) hl pV (vb (jk x)) (fun b hm=>ja0 (x:=x) (hb b hm))
 refine yc (wo pz (uu pA) (jk x)) (.bool _) (jb xh mixed Tryz.func41 rfl (by decide +kernel) ?_)
 conv=>whnf
 cases φ
 all_goals
  repeat ((first | refine And.intro ⟨rfl,by decide,rfl⟩ ?_ | refine za rfl ?_ | refine wa ha pargs ?_ | refine wa hc (wb pV (qk (vb (jk x)))) ?_ | refine ua rfl ?_ | refine ya rfl ?_ | refine And.intro rfl ?_);conv=>whnf)
 ·exact .pure _ (.bool _)
 ·show Frz _ (.bool (zE x l)) (.bool (true && zE x l))
  rw [Bool.true_and]
  exact .pure _ (.bool _)
theorem gcf {ga:FuncId} {x:Nat} {ch:List AV} {l:List Br} {φ:Bool} (h:ChB ch l) (hl:l.length < 4611686018427387904) (hb:∀ b∈l,b.to < 64) (ha:zb Tryz.prog ga [.agg ch] (.bool φ)) :
  zb Tryz.prog 43 [.agg ch,.vp [.fn (.func 41) [] [.vp [.fn (.func ga) [] []] 0,.vp [.int .u64 ((x:Nat):Int)] 0]] 0] (.bool (!(φ && zE x l))):=by
 have pz:=h.pure
 have hg:=vbn (x:=x) h hl hb ha
 have pA:Pure (.fn (.func ga) [] []):=qk (fun _ h=>by simp at h)
 have pG:Pure (.fn (.func 41) [] [.vp [.fn (.func ga) [] []] 0,.vp [.int .u64 ((x:Nat):Int)] 0]):=qk (wb (uu pA) (jk x))
 obtain ⟨a,g,c,rfl⟩:=h
 refine yc (wb pz (uu pG)) (.bool _) (jb xh mixed Tryz.func43 rfl (by decide +kernel) ?_)
 conv=>whnf
 repeat ((first | refine And.intro ⟨rfl,by decide,rfl⟩ ?_ | refine za rfl ?_ | refine wa hg (wo pz (uu pA) (jk x)) ?_ | refine And.intro rfl ?_);conv=>whnf)
 exact .pure _ (.bool _)
theorem wbn {ga:FuncId} {x y:Nat} {ch:List AV} {l:List Br} {φ:Bool} (h:ChB ch l) (hl:l.length < 4611686018427387904) (hb:∀ b∈l,b.to < 64) (ha:zb Tryz.prog ga [.agg ch,.vp [.int .u64 ((y:Nat):Int)] 0] (.bool φ)) :
  zb Tryz.prog 41 [.agg ch,.vp [.fn (.func ga) [] [.vp [.int .u64 ((y:Nat):Int)] 0]] 0,.vp [.int .u64 ((x:Nat):Int)] 0] (.bool (φ && zE x l)):=by
 have pz:=h.pure
 have pA:Pure (.fn (.func ga) [] [.vp [.int .u64 ((y:Nat):Int)] 0]):=qk (vb (jk y))
 obtain ⟨a,g,c,rfl⟩:=h
 have pV:=yX l c
 have pargs:∀ w∈[AV.agg [.str a,.str g,.vs (l.map brV) c],.vp [.int .u64 ((y:Nat):Int)] 0],Pure w:=fun w hw=>by
  rcases List.mem_cons.1 hw with rfl | hw
  ·exact pz
  ·exact (vb (jk y)) w hw
 have hc:=zaT (c:=c) (r0:=[.int .u64 ((x:Nat):Int)]) (fun b=>x.testBit b.to) hl pV (vb (jk x)) (fun b hm=>ja0 (x:=x) (hb b hm))
 refine yc (wo pz (uu pA) (jk x)) (.bool _) (jb xh mixed Tryz.func41 rfl (by decide +kernel) ?_)
 conv=>whnf
 cases φ
 all_goals
  repeat ((first | refine And.intro ⟨rfl,by decide,rfl⟩ ?_ | refine za rfl ?_ | refine wa ha pargs ?_ | refine wa hc (wb pV (qk (vb (jk x)))) ?_ | refine ua rfl ?_ | refine ya rfl ?_ | refine And.intro rfl ?_);conv=>whnf)
 ·exact .pure _ (.bool _)
 ·show Frz _ (.bool (zE x l)) (.bool (true && zE x l))
  rw [Bool.true_and]
  exact .pure _ (.bool _)
theorem qcf {ga:FuncId} {x y:Nat} {ch:List AV} {l:List Br} {φ:Bool} (h:ChB ch l) (hl:l.length < 4611686018427387904) (hb:∀ b∈l,b.to < 64) (ha:zb Tryz.prog ga [.agg ch,.vp [.int .u64 ((y:Nat):Int)] 0] (.bool φ)) :
  zb Tryz.prog 43 [.agg ch,.vp [.fn (.func 41) [] [.vp [.fn (.func ga) [] [.vp [.int .u64 ((y:Nat):Int)] 0]] 0,.vp [.int .u64 ((x:Nat):Int)] 0]] 0] (.bool (!(φ && zE x l))):=by
 have pz:=h.pure
 have hg:=wbn (x:=x) h hl hb ha
 have pA:Pure (.fn (.func ga) [] [.vp [.int .u64 ((y:Nat):Int)] 0]):=qk (vb (jk y))
 have pG:Pure (.fn (.func 41) [] [.vp [.fn (.func ga) [] [.vp [.int .u64 ((y:Nat):Int)] 0]] 0,.vp [.int .u64 ((x:Nat):Int)] 0]):=qk (wb (uu pA) (jk x))
 obtain ⟨a,g,c,rfl⟩:=h
 refine yc (wb pz (uu pG)) (.bool _) (jb xh mixed Tryz.func43 rfl (by decide +kernel) ?_)
 conv=>whnf
 repeat ((first | refine And.intro ⟨rfl,by decide,rfl⟩ ?_ | refine za rfl ?_ | refine wa hg (wo pz (uu pA) (jk x)) ?_ | refine And.intro rfl ?_);conv=>whnf)
 exact .pure _ (.bool _)
theorem vbe {os:List Nat} {oc cc:Option Nat} {rows:List ChR} {x:Nat} (pM:Pure (.agg [.vs (osV os) oc,.vs (ja rows) cc])) :
  zb Tryz.prog 40 [.agg [.vs (osV os) oc,.vs (ja rows) cc],.int .u64 ((x:Nat):Int)] (.fn (.func 58) [] [.vp [.vs (osV os) oc,.vs (ja rows) cc] 0,.vp [.int .u64 ((x:Nat):Int)] 0]):=by
 have pv:Pure (.vp [.vs (osV os) oc,.vs (ja rows) cc] 0):=by
  cases pM with
  | agg _ h=>exact .vp _ _ fun i hi=>h i hi
 refine yc (wb pM (.int _ _)) (qk (wb pv (jk x))) (jb xh mixed Tryz.func40 rfl (by decide +kernel) ?_)
 conv=>whnf
 repeat ((first | refine And.intro ⟨rfl,by decide,rfl⟩ ?_);conv=>whnf)
 refine .fn _ _ _ _ _ rfl rfl (fun i hi=>by simp at hi) fun i hi hj => ?_
 match i,hi with
 | 0,_ =>
  refine .ptr 0 0 0 [[_,_]] false false _ rfl (by simp) rfl fun t h1 h2 => ?_
  cases pM with
  | agg _ h =>
   match t,h1 with
   | 0,_=>exact .pure _ (h 0 (by simp))
   | 1,_=>exact .pure _ (h 1 (by simp))
 | 1,_ =>
  refine .ptr 1 0 0 [[_]] false false _ rfl (by simp) rfl fun t h1 h2 => ?_
  match t,h1 with
  | 0,_=>exact .pure _ (.int _ _)
theorem vai {os:List Nat} {oc cc:Option Nat} {rows:List ChR} (pM:Pure (.agg [.vs (osV os) oc,.vs (ja rows) cc])) (hn:os.length < 64) :
  zb Tryz.prog 25 [.agg [.vs (osV os) oc,.vs (ja rows) cc]] (.int .u64 ((qb os.length:Nat):Int)):=by
 have hlr:(osV os).length=os.length:=by simp [osV]
 refine yc (vb pM) (.int _ _) (jb xh mixed Tryz.func25 rfl (by decide +kernel) ?_)
 conv=>whnf
 repeat ((first | refine And.intro ⟨rfl,by decide,rfl⟩ ?_ | refine za rfl ?_ | refine qc hlr ?_ | refine And.intro (Int.natCast_nonneg _) ?_);conv=>whnf)
 refine And.intro rfl (zi (qb os.length) (gaW _ hn) (jB _ (yax _ hn)) ?_)
 conv=>whnf
 exact .pure _ (.int _ _)
end
end Go.Abs

namespace Go.Abs
noncomputable section
open Go.Proofs
def yE (ch:List AV):List Nat:=match ch with
 | [_,_,.vs ns _]=>ns.map fun r=>match r with | [.int _ t,_]=>t.toNat | _=>0
 | _=>[]
theorem zaz {ch:List AV} {l:List Br} (h:ChB ch l):yE ch=l.map (·.to):=by
 obtain ⟨a,g,c,rfl⟩:=h
 simp [yE,brV,Function.comp_def]
def jg (x:Nat) (ch:List AV):Bool:=(yE ch).any fun t=>x.testBit t
theorem yak {x:Nat} {ch:List AV} {l:List Br} (h:ChB ch l):jg x ch=zE x l:=by
 unfold jg zE
 rw [zaz h,List.any_map];rfl
def wn (x:Nat) (ch:List AV):Bool := !((yE ch).any fun t => !x.testBit t)
theorem vbF {x:Nat} {ch:List AV} {l:List Br} (h:ChB ch l):wn x ch=xaB x l:=by
 unfold wn xaB
 rw [zaz h,List.any_map];rfl
structure qaX (os:List Nat) (rows:List ChR):Prop where
 states:os.length < 64
 width:rows.length=os.length
 count:∀ r∈rows,r.1.length < 4611686018427387904
 cells:∀ r∈rows,∀ ch∈r.1,∃ l,ChB ch l∧l.length < 4611686018427387904∧∀ b∈l,b.to < 64
def vk (rows:List ChR) (s:Nat):List (List AV):=match rows[s]? with | some r=>r.1 | none=>[]
def wd (os:List Nat) (rows:List ChR) (φ:List AV→Bool) (player x s:Nat):Bool :=
 if os.getD s 0=player then (vk rows s).any fun ch=>φ ch && jg x ch else !((vk rows s).any fun ch => !(φ ch && jg x ch))
def jm (p:Nat→Bool):Nat→Nat→Option Nat
 | _,0=>none
 | s,k + 1=>if p s then some s else jm p (s + 1) k
def wg (n:Nat) (pl:Nat→Nat→Bool):Nat→Nat→Nat
 | 0,x=>x
 | f + 1,x=>match jm (fun s => !x.testBit s && pl x s) 0 n with
  | none=>x
  | some s=>wg n pl f (x ||| 2 ^ s)
def yk (x:Nat):Nat→Nat→Nat
 | _,0=>0
 | s,k + 1=>(if x.testBit s then 0 else 1) + yk x (s + 1) k
theorem yaf {p:Nat→Bool}:∀ {k s t:Nat},jm p s k=some t→s≤t∧t < s + k∧p t=true
 | 0,_,_,h=>by cases h
 | k + 1,s,t,h=>by
  unfold jm at h
  split at h
  ·rename_i hp
   injection h with h;subst h
   exact ⟨Nat.le_refl _,by omega,hp⟩
  ·obtain ⟨h1,h2,h3⟩:=yaf h
   exact ⟨by omega,by omega,h3⟩
theorem wbp {p:Nat→Bool}:∀ {k s:Nat},jm p s k=none→∀ t,s≤t→t < s + k→p t=false
 | 0,s,_,t,h1,h2=>by omega
 | k + 1,s,h,t,h1,h2=>by
  unfold jm at h
  split at h
  ·cases h
  ·rename_i hp
   by_cases e:t=s
   ·subst e;simpa using hp
   ·exact wbp h t (by omega) (by omega)
theorem jL (x s i:Nat):(x ||| 2 ^ s).testBit i=(x.testBit i || decide (s=i)):=by
 rw [Nat.testBit_or,Nat.testBit_two_pow]
theorem uQ (x:Nat):∀ k s,yk x s k≤k
 | 0,_=>Nat.le_refl _
 | k + 1,s=>by
  unfold yk
  have:=uQ x k (s + 1)
  split <;> omega
theorem gan (x t:Nat) (ht:x.testBit t=false):∀ k s,yk (x ||| 2 ^ t) s k + (if s≤t∧t < s + k then 1 else 0)=yk x s k
 | 0,s=>by
  rw [if_neg (by omega)];rfl
 | k + 1,s=>by
  have ih:=gan x t ht k (s + 1)
  unfold yk
  rw [jL]
  by_cases e:t=s
  ·subst e
   rw [if_neg (by omega),Nat.add_zero] at ih
   have e1:(if t≤t∧t < t + (k + 1) then 1 else 0)=1:=if_pos ⟨Nat.le_refl _,by omega⟩
   rw [e1,ht,ih]
   simp
   omega
  ·have hd:decide (t=s)=false:=by simpa using e
   rw [hd,Bool.or_false]
   generalize (if x.testBit s then 0 else 1)=q
   by_cases h2:s + 1≤t∧t < s + 1 + k
   ·rw [if_pos h2] at ih
    rw [if_pos ⟨by omega,by omega⟩]
    omega
   ·rw [if_neg h2] at ih
    rw [if_neg (fun h=>h2 ⟨by omega,by omega⟩)]
    omega
theorem qan {x t:Nat} (ht:x.testBit t=false):∀ {k s},s≤t→t < s + k→0 < yk x s k
 | 0,s,h1,h2=>by omega
 | k + 1,s,h1,h2=>by
  unfold yk
  by_cases e:t=s
  ·subst e;simp [ht];omega
  ·have:=qan ht (k:=k) (s:=s + 1) (by omega) (by omega)
   omega
theorem jaJ {y:Nat} {p:Nat→Bool}:∀ {k s:Nat} {v:List AV} {vs:List (List AV)},(∀ t,t < s + k→p t=true→y.testBit t=true)→zp y s k=v :: vs →
  ∃ t j,v=[.int .i64 ((t:Nat):Int)]∧s≤t∧t + 1 + j=s + k∧y.testBit t=true∧vs=zp y (t + 1) j∧jm p s k=if p t then some t else jm p (t + 1) j
 | 0,_,_,_,_,h=>by cases h
 | k + 1,s,v,vs,hp,h=>by
  unfold zp at h
  split at h
  ·rename_i hb
   injection h with h1 h2
   exact ⟨s,k,h1.symm,Nat.le_refl _,by omega,hb,h2.symm,rfl⟩
  ·rename_i hb
   obtain ⟨t,j,e1,e2,e3,e4,e5,e6⟩:=jaJ (fun t ht=>hp t (by omega)) h
   refine ⟨t,j,e1,by omega,by omega,e4,e5,?_⟩
   have:p s=false:=by
    cases hps:p s with
    | false=>rfl
    | true=>exact absurd (hp s (by omega) hps) hb
   rw [← e6]
   show (if p s then some s else jm p (s + 1) k)=_
   rw [this];rfl
theorem uaJ {y:Nat} {p:Nat→Bool}:∀ {k s:Nat},(∀ t,t < s + k→p t=true→y.testBit t=true)→zp y s k=[]→jm p s k=none
 | 0,_,_,_=>rfl
 | k + 1,s,hp,h=>by
  unfold zp at h
  split at h
  ·cases h
  ·rename_i hb
   have:p s=false:=by
    cases hps:p s with
    | false=>rfl
    | true=>exact absurd (hp s (by omega) hps) hb
   show (if p s then some s else jm p (s + 1) k)=none
   rw [this]
   exact uaJ (fun t ht=>hp t (by omega)) h
end
end Go.Abs
